/- Part C of the proof of matrixLarge_holds: what it rests on. No condition. -/
import Derived.Test.YtcmieifjephdcaaLrgB
import Derived.Test.YtcmieifjephdcaaProg
set_option linter.unusedVariables false
set_option linter.unusedSimpArgs false
namespace Go.Ab
open Go.RowKit
section
variable {P : Program} {T : TT} {E : TypeId → Bool}
variable {dst : Option Tmp} {ty : TypeId} {pos : String} {af : Array Edge} {g : Option (Nat × Bool)} {id : Nat} {e : Env} {h : Hp}
theorem snapL_data' {m : Mem} {d : Delta} {ls : List LV} (hd : ∀ c, c ∈ ls → Data c) : SnapL m d ls ls := ⟨rfl, fun i l l' hl hl' => by rw [hl] at hl'; cases hl'; exact .data _ (hd l (List.mem_of_getElem? hl))⟩
theorem mkcallOt {f : FuncId} {fn : Func} {c : Code} {args : List LV} {Φ : Nat → Nat → Ob → List LV → Prop} (hf : P.funcs[f]? = some fn) (hb : fn.body = some c) (hn : (fn.name == "runtime.NumGoroutine") = false) (hl : args.length ≤ fn.ntmps)
  (k : WC P T E fn.ntmps c (argsEnv 0 args) [] 0 (fun x e h n => (x = .normal ∨ x = .ret) ∧ ∃ sz len ob q q1 sz1 el1 us ls, Φ sz len ob (outR us :: ls) ∧ resE e T h fn.results.toList = some (.ref q sz 0 len :: outV q1 sz1 us :: ls) ∧ getH h q = some ob ∧ ob.st = 0 ∧ ob.sz = sz ∧ (∀ c, c ∈ ob.cells → Data c) ∧
   (us ≠ [] → q ≠ q1 ∧ getH h q1 = some { cells := us.flatten, sz := sz1, elem := el1, st := 0 }) ∧ 0 < sz1 ∧ (∀ row, row ∈ us → row.length = sz1) ∧ (∀ row, row ∈ us → ∀ c, c ∈ row → Data c) ∧ ∀ c, c ∈ ls → Data c)) : ∃ sz len ob rest, Run P T E (.callO f args (.tup (.ref 0 sz 0 len :: rest)) ob) ∧ Φ sz len ob rest := by
 obtain ⟨x, s', h1, e', h', h2, hm, hx, sz, len, ob, q, q1, sz1, el1, us, ls, hΦ, h3, h4, h5, h6, h7, h8, h9, h10, h11, h12⟩ := k (frame fn args) (fun _ => none) ⟨by simp [frame]; omega, fun t l ht => by
  obtain ⟨_, k⟩ := argsEnv_get args 0 t l ht
  simp only [Nat.sub_zero] at k
  unfold frame
  rw [List.getElem?_append_left (List.getElem?_eq_some_iff.1 k).1]; exact k⟩ (by intro k o hk; simp [getH] at hk)
 have hg : Run P T E (.gcall f args (fun _ => none) 0 (.tup (.ref q sz 0 len :: outV q1 sz1 us :: ls)) s'.m s'.n) := .gcall f fn c args _ 0 x s' _ hf hb hn hl h1 hx (resE_sound h2 hm h3)
 cases us with
 | nil =>
  exact ⟨sz, len, ob, _, Run.callOt f args q sz len ob ob.cells (outV q1 sz1 [] :: ls) (.sl 0 [] :: ls) s'.m s'.n [] hg (hm _ _ h4) h5 h6 (by simp [keys]) (snapL_data' h7) (fun i c e hc he => by rw [hc] at he; cases he; rfl)
   (snapL_data' (by intro c hc; rcases List.mem_cons.1 hc with rfl | hc; exact .sl _ _ (by simp); exact h12 c hc)) (by intro p hp; simp at hp), hΦ⟩
 | cons u us =>
  obtain ⟨hne, hq1⟩ := h8 (by simp)
  refine ⟨sz, len, ob, _, Run.callOt f args q sz len ob ob.cells (outV q1 sz1 (u :: us) :: ls) (.sl 1 (u :: us) :: ls) s'.m s'.n [(q1, { cells := (u :: us).flatten, sz := sz1, elem := el1, st := 1 })] hg (hm _ _ h4) h5 h6 (by simp [keys]; exact hne) (snapL_data' h7) (fun i c e hc he => by rw [hc] at he; cases he; rfl)
   ?_ (by intro p hp; rw [List.mem_singleton] at hp; subst hp; exact ⟨_, hm _ _ hq1, by show (0 : Nat) ≠ 2; decide, rfl⟩), hΦ⟩
  refine ⟨rfl, fun i l l' hl hl' => ?_⟩
  cases i with
  | zero =>
   simp only [List.getElem?_cons_zero, Option.some.injEq] at hl hl'
   subst hl; subst hl'
   exact snapRef hq1 (by show (0 : Nat) ≠ 2; decide) rfl h9 (by simp [keys]) rfl h10 h11 _ hm
  | succ i =>
   simp only [List.getElem?_cons_succ] at hl hl'
   rw [hl] at hl'; cases hl'
   exact .data _ (h12 l (List.mem_of_getElem? hl))
theorem oCallOF {f : FuncId} {args : Array Operand} {at_ : Array TypeId} {ls : List LV} (ls' : List LV) (d : Delta) {sz len : Nat} {rest : List LV} {ob : Ob} (ha : argsE e args.toList = some ls) (hr : Run P T E (.callO f ls' (.tup (.ref 0 sz 0 len :: rest)) ob)) (hd : SnapA h d ls ls') (hf : ∀ p, p ∈ d → ∃ o, getH h p.1 = some o ∧ o.st ≠ 2 ∧ p.2 = { o with st := 1 }) :
  OP P T E ⟨dst, .call { callee := .value (.func f), args := args, argTypes := at_ }, ty, pos, af, g⟩ id e h (.tup (.ref id sz 0 len :: rest)) (d ++ [(id, ob)]) (keys d) := fun s m hs hm =>
 .ocall (P := P) (T := T) (E := E) _ _ _ _ _ _ d _ (.func f) f [] [] ls' rfl rfl rfl (by
  rw [argsE_sound hs ha]
  simp only [List.nil_append, List.append_nil]
  exact hd.snap hm) (fun p hp => by obtain ⟨o, k1, k2, k3⟩ := hf p hp; exact ⟨o, hm _ _ k1, k2, k3⟩) hr
end
def uR (n i : Nat) : List Rat := (List.replicate n 0).set i 1
def uX (n i : Nat) : List X := (List.replicate n x0).set i (xint 1)
def wU (A : List (List Rat)) : List (List Rat) := (List.range A.length).map fun i => A.getD i default ++ uR A.length i
theorem uX_v (n i : Nat) : (uX n i).map (·.1) = uR n i := by unfold uX uR; rw [List.map_set, List.map_replicate]; rfl
theorem uX_len (n i : Nat) : (uX n i).length = n := by simp [uX]
theorem uR_len (n i : Nat) : (uR n i).length = n := by simp [uR]
def wUX (al : List X1) (i : Nat) : X1 := (1, (al.getD i default).2 ++ uX al.length i)
theorem vX_wU (al : List X1) : vX ((List.range al.length).map (wUX al)) = wU (vX al) := by
 unfold vX wU
 rw [List.map_map, List.length_map]
 refine range_map_congr fun i hi => ?_
 simp only [Function.comp, wUX, List.map_append]
 rw [mapD (f := fun r : X1 => r.2.map (·.1)) hi, uX_v]
theorem wU_len (A : List (List Rat)) : (wU A).length = A.length := by simp [wU]
theorem wU_wid {A : List (List Rat)} {w : Nat} (h : Wid w A) : Wid (w + A.length) (wU A) := by
 intro r hr
 obtain ⟨i, hi, rfl⟩ := List.mem_map.1 hr
 rw [List.length_append, h _ (getD_mem (List.mem_range.1 hi)), uR_len]
structure Low (A : List (List Rat)) (k : Nat) (R : List (List Rat)) : Prop where
 len : R.length = A.length
 led : (gjn A k).2.length = k
 row : ∀ j, k ≤ j → j < A.length → R.getD j default = (gjn A k).1.getD j default
theorem Low.init (A : List (List Rat)) : Low A 0 A := ⟨rfl, rfl, fun _ _ _ => rfl⟩
theorem Low.ent {A R : List (List Rat)} {k j : Nat} (h : Low A k R) (hk : k ≤ j) (hj : j < A.length) (c : Nat) : Ab.ent R j c = Ab.ent (gjn A k).1 j c := by
 unfold Ab.ent; rw [h.row j hk hj]
theorem Low.pivot {A R : List (List Rat)} {k a : Nat} (h : Low A k R) (h1 : k ≤ a) (h2 : a ≤ A.length) (h3 : ∀ i, k ≤ i → i < a → Ab.ent R i k = 0) (h4 : a = A.length ∨ Ab.ent R a k ≠ 0) : Ab.pivot (gjn A k).1 (gjn A k).2.length k = a := by
 rw [h.led]
 refine pivot_eq h1 (by rw [gjn_len]; exact h2) (fun i hi hia => by rw [← h.ent hi (by omega)]; exact h3 i hi hia) ?_
 rcases h4 with h4 | h4
 ·left; rw [gjn_len]; exact h4
 ·by_cases e : a = A.length
  ·left; rw [gjn_len]; exact e
  ·right; rw [← h.ent h1 (by omega)]; exact h4
theorem rank_le (A : List (List Rat)) (k : Nat) : ∀ m, (gjn A (k + m)).2.length ≤ (gjn A k).2.length + m
 | 0 => Nat.le_refl _
 | m + 1 => by
  have := rank_le A k m
  rw [← Nat.add_assoc, gjn, gjs]
  split
  ·omega
  ·simp; omega
theorem Low.none {A R : List (List Rat)} {k n : Nat} (h : Low A k R) (hk : k < n) (hp : Ab.pivot (gjn A k).1 (gjn A k).2.length k = A.length) : (gjn A n).2.length < n := by
 have h1 : gjn A (k + 1) = gjn A k := by rw [gjn, gjs, gjn_len, if_pos hp]
 have h2 := rank_le A (k + 1) (n - (k + 1))
 rw [h1, h.led, show k + 1 + (n - (k + 1)) = n by omega] at h2
 omega
theorem rsc_rsc (a b : Rat) (x : List Rat) : rsc a (rsc b x) = rsc (a * b) x := by
 unfold rsc
 rw [List.map_map]
 exact List.map_congr_left fun y _ => (Rat.mul_assoc a b y).symm
theorem rad_zero (x y : List Rat) : rad x (rsc 0 y) = x := by
 refine list_eq (rad_len _ _) fun i hi => ?_
 rw [rad_len] at hi
 rw [rad_getD hi, rsc_getD, Rat.zero_mul, Rat.add_zero]
theorem Low.step {A R R2 R3 : List (List Rat)} {k a : Nat} (h : Low A k R) (ha : k ≤ a) (haA : a < A.length) (hp : Ab.pivot (gjn A k).1 (gjn A k).2.length k = a) (h2 : R2 = sw R a k) (hl3 : R3.length = A.length)
  (h3 : ∀ j, k < j → j < A.length → R3.getD j default = rad (R2.getD j default) (rsc (-(Ab.ent R2 j k / Ab.ent R2 k k)) (R2.getD k default))) : Low A (k + 1) R3 := by
 have hS : gjn A (k + 1) = (elim (mid (gjn A k).1 a k k) k k, (gjn A k).2 ++ [k]) := by rw [gjn, gjs, gjn_len, if_neg (by omega), hp, h.led]
 have hsw : ∀ j, k ≤ j → j < A.length → R2.getD j default = (sw (gjn A k).1 a k).getD j default := by
  intro j hj hjA
  subst h2
  unfold sw
  rw [gset_getD (by rw [List.length_set, h.len]; omega), gset_getD (by rw [h.len]; omega), gset_getD (by rw [List.length_set, gjn_len]; omega), gset_getD (by rw [gjn_len]; omega), h.row j hj hjA, h.row a ha haA, h.row k (Nat.le_refl _) (by omega)]
 refine ⟨hl3, by rw [hS]; simp [h.led], fun j hj hjA => ?_⟩
 rw [h3 j (by omega) hjA, hS]
 rw [elim_getD (by rw [mid_len, gjn_len]; exact hjA)]
 have hmj : (mid (gjn A k).1 a k k).getD j default = R2.getD j default := by
  unfold mid; rw [gset_getD (by rw [sw_len, gjn_len]; exact hjA), if_neg (by omega), hsw j (by omega) hjA]
 have hmk : (mid (gjn A k).1 a k k).getD k default = rsc (1 / Ab.ent R2 k k) (R2.getD k default) := by
  unfold mid; rw [gset_getD (by rw [sw_len, gjn_len]; omega), if_pos rfl]
  unfold Ab.ent; rw [hsw k (Nat.le_refl _) (by omega)]
 have hej : Ab.ent (mid (gjn A k).1 a k k) j k = Ab.ent R2 j k := by unfold Ab.ent; rw [hmj]
 unfold elr
 rw [hej, hmj, hmk]
 by_cases h0 : Ab.ent R2 j k = 0
 ·rw [if_neg (by rintro ⟨_, h1⟩; exact h1 h0), h0, Rat.div_def, Rat.zero_mul, Rat.neg_zero, rad_zero]
 ·rw [if_pos ⟨by omega, h0⟩, rsc_rsc]
  congr 2
  rw [Rat.neg_mul, Rat.div_def, Rat.div_def, Rat.one_mul]
def detV (a : List M1) : Rat := if (gjn (vM a) a.length).2.length < a.length then 0 else gjd (vM a) a.length
def sqb (a : List M1) : Bool := decide (a.length = 0) || decide (wd a = a.length)
def detn (a : List M1) : NM := if (VM a && sqb a) = true then (outN (detV a)).getD (0, 0) else (0, 0)
def dete (a : List M1) : Int := if VM a = false then 1 else if sqb a = false then 2 else if (outN (detV a)).isSome = true then 0 else 3
def lvDet (a : List M1) : LV := .tup [lvM (detn a), .v (.int .i64 (dete a))]
instance {a : List M1} : DC (lvDet a) := ⟨.tup _ (by intro c hc; simp only [List.mem_cons, List.not_mem_nil, or_false] at hc; rcases hc with rfl | rfl; exact data_lvM _; exact .v _)⟩
theorem lvDet_ok {a : List M1} (h1 : VM a = true) (h2 : sqb a = true) : lvDet a = lvO (outN (detV a)) := by
 unfold lvDet detn dete
 simp only [h1, h2, Bool.and_self, if_true, Bool.true_eq_false, if_false]
 cases outN (detV a) <;> rfl
theorem lvDet_no1 {a : List M1} (h1 : VM a = false) : lvDet a = .tup [lvM (0, 0), .v (.int .i64 1)] := by unfold lvDet detn dete; simp [h1]
theorem lvDet_no2 {a : List M1} (h1 : VM a = true) (h2 : sqb a = false) : lvDet a = .tup [lvM (0, 0), .v (.int .i64 2)] := by unfold lvDet detn dete; simp [h1, h2]
def invS (a : List M1) : GS := gjn (wU (vM a)) a.length
def invO (a : List M1) : Option (List (List NM)) := ((invS a).1.map fun r => r.drop a.length).mapM fun r => r.mapM outN
def invOk (a : List M1) : Bool := VM a && sqb a && !decide ((invS a).2.length < a.length)
def inv1 (a : List M1) : List M1 := if invOk a = true then ((invO a).getD []).map kM else []
def inve (a : List M1) : Int := if VM a = false then 1 else if sqb a = false then 2 else if (invS a).2.length < a.length then 5 else if (invO a).isSome = true then 0 else 3
def lvInv (a : List M1) : LV := .tup [.sl (kd (inv1 a).length) ((inv1 a).map fM), .v (.int .i64 (inve a))]
instance {a : List M1} : DC (lvInv a) := ⟨.tup _ (by intro c hc; simp only [List.mem_cons, List.not_mem_nil, or_false] at hc; rcases hc with rfl | rfl; exact dsl dfM _ _; exact .v _)⟩
theorem lvInv_ok {a : List M1} (h1 : VM a = true) (h2 : sqb a = true) (h3 : ¬ (invS a).2.length < a.length) : lvInv a = lvOM (invO a) := by
 unfold lvInv inv1 inve invOk lvOM
 simp [h1, h2, h3]
theorem lvInv_no1 {a : List M1} (h1 : VM a = false) : lvInv a = .tup [.sl 0 [], .v (.int .i64 1)] := by unfold lvInv inv1 inve invOk; simp [h1, kd]
theorem lvInv_no2 {a : List M1} (h1 : VM a = true) (h2 : sqb a = false) : lvInv a = .tup [.sl 0 [], .v (.int .i64 2)] := by unfold lvInv inv1 inve invOk; simp [h1, h2, kd]
theorem lvInv_no3 {a : List M1} (h1 : VM a = true) (h2 : sqb a = true) (h3 : (invS a).2.length < a.length) : lvInv a = .tup [.sl 0 [], .v (.int .i64 5)] := by unfold lvInv inv1 inve invOk; simp [h1, h2, h3, kd]
theorem sqb_wd {a : List M1} (h : sqb a = true) : wd a = a.length := by
 unfold sqb at h
 rw [Bool.or_eq_true] at h
 rcases h with h | h
 ·have := of_decide_eq_true h
  unfold wd; rw [if_pos this, this]
 ·exact of_decide_eq_true h
end Go.Ab
set_option linter.unusedVariables false
set_option linter.unusedSimpArgs false
namespace Go.Ab
open Go.RowKit
def cutX (n : Nat) (r : X1) : X1 := (r.1, r.2.drop n)
theorem half_getD {α : Type} [Inhabited α] {f : α → α} {us : List α} {i : Nat} (h : i < us.length) : ((us.take i).map f ++ us.drop i).getD i default = us.getD i default := by
 have h1 : ((us.take i).map f).length = i := by simp; omega
 simp only [List.getD_eq_getElem?_getD]
 rw [List.getElem?_append_right (by omega), h1, Nat.sub_self, List.getElem?_drop, Nat.add_zero]
theorem half_set {α : Type} [Inhabited α] {f : α → α} {us : List α} {i : Nat} (h : i < us.length) : ((us.take i).map f ++ us.drop i).set i (f (us.getD i default)) = (us.take (i + 1)).map f ++ us.drop (i + 1) := by
 have h1 : ((us.take i).map f).length = i := by simp; omega
 have h2 : us.drop i = us.getD i default :: us.drop (i + 1) := by
  rw [List.drop_eq_getElem_cons h, List.getD_eq_getElem?_getD, List.getElem?_eq_getElem h]; rfl
 rw [List.set_append_right _ _ (by omega), h1, Nat.sub_self, h2, List.set_cons_zero, List.take_add_one, List.map_append, List.append_assoc, List.getD_eq_getElem?_getD, List.getElem?_eq_getElem h]
 rfl
theorem half_len {α : Type} {f : α → α} {us : List α} {i : Nat} (h : i ≤ us.length) : ((us.take i).map f ++ us.drop i).length = us.length := by simp; omega
theorem vX_cut (n : Nat) (rows : List X1) : vX (rows.map (cutX n)) = (vX rows).map (fun r => r.drop n) := by
 unfold vX; rw [List.map_map, List.map_map]
 exact List.map_congr_left fun r _ => by simp [cutX, List.map_drop]
end Go.Ab
set_option linter.unusedVariables false
set_option linter.unusedSimpArgs false
namespace Go.Ab
open Go.RowKit
def lst (R : List (List Rat)) (k i : Nat) : List Rat := rad (R.getD i default) (rsc (-(ent R i k / ent R k k)) (R.getD k default))
structure LowJ (r1 : List Q1) (k j : Nat) (r2 : List Q1) : Prop where
 len : r2.length = r1.length
 st : ∀ i, k < i → i < j → (vQ r2).getD i default = lst (vQ r1) k i
 eq : ∀ i, i ≤ k ∨ j ≤ i → r2.getD i default = r1.getD i default
theorem LowJ.init (r1 : List Q1) (k : Nat) : LowJ r1 k (k + 1) r1 := ⟨rfl, fun i h1 h2 => by omega, fun _ _ => rfl⟩
theorem LowJ.next {r1 r2 : List Q1} {k j : Nat} (h : LowJ r1 k j r2) (hk : k < j) (hj : j < r1.length) (x : Nat) : LowJ r1 k (j + 1) (r2.set j (x, rad (r2.getD j default).2 (rsc (-((r2.getD j default).2.getD k default / (r2.getD k default).2.getD k default)) (r2.getD k default).2))) := by
 have hl := h.len
 refine ⟨by rw [List.length_set, h.len], fun i h1 h2 => ?_, fun i hi => ?_⟩
 ·rw [vQ_getD, gset_getD (by omega)]
  by_cases e : j = i
  ·subst e
   rw [if_pos rfl, h.eq j (.inr (Nat.le_refl _)), h.eq k (.inl (Nat.le_refl _))]
   unfold lst
   rw [← vQ_getD, ← vQ_getD]; rfl
  ·rw [if_neg e, ← vQ_getD]; exact h.st i h1 (by omega)
 ·rw [← h.eq i (by omega)]
  exact getDs_ne (by omega)
end Go.Ab
set_option linter.unusedVariables false
set_option linter.unusedSimpArgs false
namespace Go.Ab
open Go.RowKit
def sm (f : Nat → Rat) : Nat → Rat
 | 0 => 0
 | i + 1 => sm f i + f i
theorem sm_congr {f g : Nat → Rat} : ∀ n, (∀ i, i < n → f i = g i) → sm f n = sm g n
 | 0, _ => rfl
 | n + 1, h => by rw [sm, sm, sm_congr n (fun i hi => h i (by omega)), h n (by omega)]
theorem sm_zero : ∀ n, sm (fun _ => 0) n = 0
 | 0 => rfl
 | n + 1 => by rw [sm, sm_zero n, Rat.add_zero]
def unitR (n : Nat) : List (List Rat) := (List.range n).map (uR n)
def pw (A : List (List Rat)) (n : Nat) : Nat → List (List Rat)
 | 0 => unitR n
 | k + 1 => prodR (pw A n k) A n
theorem prodR_wid (X Y : List (List Rat)) (w : Nat) : Wid w (prodR X Y w) := by
 intro r hr
 obtain ⟨s, _, rfl⟩ := List.mem_map.1 hr
 simp
theorem pw_wid (A : List (List Rat)) (n : Nat) : ∀ k, Wid n (pw A n k)
 | 0 => by
  intro r hr
  obtain ⟨i, _, rfl⟩ := List.mem_map.1 hr
  exact uR_len n i
 | k + 1 => prodR_wid _ _ _
def QB (D C s k : Nat) (x : Rat) : Prop := ∃ z : Int, x * ((D : Rat) ^ k) = (z : Rat) ∧ z.natAbs * 8 ≤ s * C ^ k
def QBL (D C s k : Nat) (R : List (List Rat)) : Prop := ∀ r, r ∈ R → ∀ x, x ∈ r → QB D C s k x
theorem rpow_add (D : Rat) (k : Nat) : ∀ l, D ^ (k + l) = D ^ k * D ^ l
 | 0 => by rw [Nat.add_zero, Rat.pow_zero, Rat.mul_one]
 | l + 1 => by rw [← Nat.add_assoc, Rat.pow_succ, rpow_add D k l, Rat.pow_succ, Rat.mul_assoc]
theorem QB.dot {D C s k l : Nat} {a b : List Rat} (ha : ∀ x, x ∈ a → QB D C s k x) (hb : ∀ x, x ∈ b → QB D C 1 l x) (hl : a.length ≤ b.length) : ∀ i, i ≤ a.length → ∃ z : Int, dotn a b i * (D : Rat) ^ (k + l) = (z : Rat) ∧ z.natAbs * 64 ≤ i * (s * C ^ (k + l))
 | 0, _ => ⟨0, by rw [dotn, Rat.zero_mul]; rfl, by simp⟩
 | i + 1, hi => by
  obtain ⟨z, h1, h2⟩ := QB.dot ha hb hl i (by omega)
  obtain ⟨p, h3, h4⟩ := ha _ (getD_mem (us := a) (i := i) (by omega))
  obtain ⟨q, h5, h6⟩ := hb _ (getD_mem (us := b) (i := i) (by omega))
  refine ⟨z + p * q, ?_, ?_⟩
  ·rw [dotn, Rat.add_mul, h1, rpow_add, Rat.intCast_add, Rat.intCast_mul, ← h3, ← h5]
   congr 1
   rw [Rat.mul_assoc, Rat.mul_assoc]
   congr 1
   rw [← Rat.mul_assoc, ← Rat.mul_assoc, Rat.mul_comm (b.getD i default)]
  ·have h7 := Int.natAbs_add_le z (p * q)
   rw [Int.natAbs_mul] at h7
   have h8 : (p.natAbs * 8) * (q.natAbs * 8) ≤ (s * C ^ k) * (1 * C ^ l) := Nat.mul_le_mul h4 h6
   have h9 : (p.natAbs * 8) * (q.natAbs * 8) = p.natAbs * q.natAbs * 64 := by
    rw [Nat.mul_mul_mul_comm]
   have h10 : (s * C ^ k) * (1 * C ^ l) = s * C ^ (k + l) := by rw [Nat.one_mul, Nat.pow_add, Nat.mul_assoc]
   rw [h9, h10] at h8
   rw [Nat.succ_mul]
   omega
theorem QBL.prod {D C s k l w : Nat} {A B : List (List Rat)} (hA : QBL D C s k A) (hB : QBL D C 1 l B) (hw : Wid B.length A) (hb : Wid w B) (h8 : B.length ≤ 8) : QBL D C s (k + l) (prodR A B w) := by
 intro r hr x hx
 obtain ⟨t, ht, rfl⟩ := List.mem_map.1 hr
 obtain ⟨j, hj, rfl⟩ := List.mem_map.1 hx
 have hj := List.mem_range.1 hj
 have htl := hw t ht
 have hcl : (colR B j).length = B.length := by simp [colR]
 obtain ⟨z, h1, h2⟩ := QB.dot (D := D) (C := C) (s := s) (k := k) (l := l) (a := t) (b := colR B j) (hA t ht) (fun y hy => by
  obtain ⟨u, hu, rfl⟩ := List.mem_map.1 hy
  exact hB u hu _ (getD_mem (by rw [hb u hu]; exact hj))) (by omega) t.length (Nat.le_refl _)
 refine ⟨z, h1, ?_⟩
 have : t.length * (s * C ^ (k + l)) ≤ 8 * (s * C ^ (k + l)) := Nat.mul_le_mul_right _ (by omega)
 omega
theorem QB.bd {D C s k d : Nat} {x : Rat} (h : QB D C s k x) (hD : 0 < D) (hDb : D ≤ 4294967296 ^ d) (hC : C ≤ 4294967296 ^ d) (hs : s ≤ 8) : Bd (d * k + 1) x := by
 obtain ⟨z, h1, h2⟩ := h
 have hDk : 0 < D ^ k := Nat.pow_pos hD
 have hcast : (((D ^ k : Nat) : Int) : Rat) = (D : Rat) ^ k := by rw [Rat.intCast_natCast, Rat.natCast_pow]
 have hne : (((D ^ k : Nat) : Int) : Rat) ≠ 0 := by
  intro h0
  have : ((D ^ k : Nat) : Int) = 0 := by exact_mod_cast h0
  omega
 have hx : x = Rat.divInt z ((D ^ k : Nat) : Int) := by
  rw [Rat.divInt_eq_div, ← h1, ← hcast, Rat.mul_div_cancel hne]
 have hpos : 0 < 4294967296 ^ (d * k) := Nat.pow_pos (by decide)
 have e1 : 4294967296 ^ (d * k + 1) = 4294967296 ^ (d * k) * 4294967296 := Nat.pow_succ ..
 have e2 : D ^ k ≤ 4294967296 ^ (d * k) := by rw [Nat.pow_mul]; exact Nat.pow_le_pow_left hDb k
 have e3 : C ^ k ≤ 4294967296 ^ (d * k) := by rw [Nat.pow_mul]; exact Nat.pow_le_pow_left hC k
 have e4 : s * C ^ k ≤ 8 * C ^ k := Nat.mul_le_mul_right _ hs
 rw [hx]
 refine Bd.raw (by omega) (len32_of (by omega)) (len32_of ?_)
 rw [Int.natAbs_natCast]; omega
def dd : List Rat → Nat
 | [] => 1
 | x :: l => x.den * dd l
theorem dd_pos : ∀ l, 0 < dd l
 | [] => by decide
 | x :: l => Nat.mul_pos x.den_pos (dd_pos l)
theorem dd_dvd {x : Rat} : ∀ {l : List Rat}, x ∈ l → x.den ∣ dd l
 | y :: l, h => by
  rcases List.mem_cons.1 h with rfl | h
  ·exact ⟨dd l, rfl⟩
  ·exact Nat.dvd_trans (dd_dvd h) ⟨y.den, Nat.mul_comm _ _⟩
theorem dd_le {b : Nat} : ∀ {l : List Rat}, (∀ x, x ∈ l → x.den ≤ b) → dd l ≤ b ^ l.length
 | [], _ => Nat.le_refl _
 | y :: l, h => by
  rw [dd, List.length_cons, Nat.pow_succ, Nat.mul_comm]
  exact Nat.mul_le_mul (dd_le fun x hx => h x (by simp [hx])) (h y (by simp))
theorem flat_len {w : Nat} : ∀ {A : List (List Rat)}, Wid w A → A.flatten.length = A.length * w
 | [], _ => by simp
 | r :: A, h => by
  rw [List.flatten_cons, List.length_append, flat_len (fun s hs => h s (by simp [hs])), h r (by simp), List.length_cons, Nat.succ_mul]; omega
theorem Bd.abs {n : Nat} {x : Rat} (h : Bd n x) : x.num.natAbs < 4294967296 ^ n ∧ x.den < 4294967296 ^ n := by
 have h1 := lt_len32 x.num
 have h2 := lt_len32 (x.den : Int)
 rw [Int.natAbs_natCast] at h2
 exact ⟨Nat.lt_of_lt_of_le h1 (Nat.pow_le_pow_right (by decide) h.1), Nat.lt_of_lt_of_le h2 (Nat.pow_le_pow_right (by decide) h.2)⟩
theorem QBL.base {A : List (List Rat)} {n : Nat} (h : BdL 2 A) (hw : Wid n A) (hl : A.length = n) (h8 : n ≤ 8) : ∃ D C, 0 < D ∧ D ≤ 4294967296 ^ 131 ∧ C ≤ 4294967296 ^ 131 ∧ QBL D C 1 1 A := by
 have hfl : ∀ x, x ∈ A.flatten → Bd 2 x := fun x hx => by
  obtain ⟨r, hr, hx⟩ := List.mem_flatten.1 hx
  exact h r hr x hx
 have hlen : A.flatten.length ≤ 64 := by
  rw [flat_len hw, hl]; exact Nat.mul_le_mul h8 h8
 have hD : dd A.flatten ≤ 4294967296 ^ 128 := by
  refine Nat.le_trans (dd_le (b := 4294967296 ^ 2) fun x hx => Nat.le_of_lt (hfl x hx).abs.2) ?_
  rw [← Nat.pow_mul]
  exact Nat.pow_le_pow_right (by decide) (by omega)
 refine ⟨dd A.flatten, 8 * (4294967296 ^ 2 * dd A.flatten), dd_pos _, Nat.le_trans hD (Nat.pow_le_pow_right (by decide) (by decide)), ?_, ?_⟩
 ·have e : 4294967296 ^ 131 = 4294967296 * (4294967296 ^ 2 * 4294967296 ^ 128) := by decide +kernel
  rw [e]
  exact Nat.mul_le_mul (by decide) (Nat.mul_le_mul_left _ hD)
 ·intro r hr x hx
  have hxf := List.mem_flatten.2 ⟨r, hr, hx⟩
  obtain ⟨q, hq⟩ := dd_dvd hxf
  have hb := (hfl x hxf).abs.1
  have hdq : q ≤ dd A.flatten := by
   have := x.den_pos
   rw [hq]; exact Nat.le_mul_of_pos_left q this
  have hxd : x * (x.den : Rat) = (x.num : Rat) := by
   have h1 : x = (x.num : Rat) / ((x.den : Int) : Rat) := by rw [← Rat.divInt_eq_div, Rat.num_divInt_den]
   have h2 : ((x.den : Int) : Rat) ≠ 0 := by
    intro h0
    have : (x.den : Int) = 0 := by exact_mod_cast h0
    have := x.den_pos
    omega
   rw [← Rat.intCast_natCast]
   conv => lhs; lhs; rw [h1]
   exact Rat.div_mul_cancel h2
  refine ⟨x.num * (q : Int), ?_, ?_⟩
  ·rw [Rat.pow_succ, Rat.pow_zero, Rat.one_mul, hq, Rat.natCast_mul, ← Rat.mul_assoc, hxd, Rat.intCast_mul, Rat.intCast_natCast]
  ·rw [Int.natAbs_mul, Int.natAbs_natCast, Nat.pow_one, Nat.one_mul, Nat.mul_comm _ 8]
   exact Nat.mul_le_mul_left 8 (Nat.mul_le_mul (Nat.le_of_lt hb) hdq)
theorem QBL.pw {D C n : Nat} {A : List (List Rat)} (h : QBL D C 1 1 A) (hl : A.length = n) (hw : Wid n A) (h8 : n ≤ 8) : ∀ k, QBL D C 8 k (pw A n k)
 | 0 => by
  intro r hr x hx
  obtain ⟨i, _, rfl⟩ := List.mem_map.1 hr
  rcases List.mem_or_eq_of_mem_set hx with h | h
  ·rw [(List.mem_replicate.1 h).2]
   exact ⟨0, Rat.zero_mul _, by simp⟩
  ·rw [h]
   exact ⟨1, by rw [Rat.pow_zero, Rat.one_mul]; rfl, by simp⟩
 | k + 1 => QBL.prod (QBL.pw h hl hw h8 k) h (by rw [hl]; exact pw_wid A n k) hw (by omega)
end Go.Ab
set_option linter.unusedVariables false
set_option linter.unusedSimpArgs false
namespace Go.Ab
open Go.RowKit
section
variable {P : Program} {T : TT} {E : TypeId → Bool} {dst : Option Tmp} {ty : TypeId} {pos : String} {af : Array Edge} {g : Option (Nat × Bool)} {id : Nat} {e : Env} {h : Hp} {x y : Operand} {bt yt : TypeId}
end
def powO (a : List M1) (n : Int) : Option (List (List NM)) := (pw (vM a) a.length n.toNat).mapM fun r => r.mapM outN
def powOk (a : List M1) (n : Int) : Bool := VM a && sqb a && (decide (0 ≤ n) && decide (n ≤ 1000))
def pow1 (a : List M1) (n : Int) : List M1 := if powOk a n = true then ((powO a n).getD []).map kM else []
def powe (a : List M1) (n : Int) : Int := if VM a = false then 1 else if sqb a = false then 2 else if (decide (0 ≤ n) && decide (n ≤ 1000)) = false then 6 else if (powO a n).isSome = true then 0 else 3
def lvPow (a : List M1) (n : Int) : LV := .tup [.sl (kd (pow1 a n).length) ((pow1 a n).map fM), .v (.int .i64 (powe a n))]
instance {a : List M1} {n : Int} : DC (lvPow a n) := ⟨.tup _ (by intro c hc; simp only [List.mem_cons, List.not_mem_nil, or_false] at hc; rcases hc with rfl | rfl; exact dsl dfM _ _; exact .v _)⟩
end Go.Ab
set_option linter.unusedVariables false
set_option linter.unusedSimpArgs false
namespace Go.Ab
def upd (M : Nat → Nat → Rat) (r : Nat) (U : Nat → Rat) : Nat → Nat → Rat := fun a b => if a = r then U b else M a b
def swp (r s a : Nat) : Nat := if a = r then s else if a = s then r else a
structure RowF (n : Nat) (F : (Nat → Nat → Rat) → Rat) : Prop where
 congr : ∀ {M N : Nat → Nat → Rat}, (∀ a b, a < n → b < n → M a b = N a b) → F M = F N
 swap : ∀ (M : Nat → Nat → Rat) {r s : Nat}, r < n → s < n → r ≠ s → F (fun a b => M (swp r s a) b) = -F M
 scale : ∀ (M : Nat → Nat → Rat) {r : Nat} (x : Rat), r < n → F (upd M r (fun b => x * M r b)) = x * F M
 add : ∀ (M : Nat → Nat → Rat) {r s : Nat} (x : Rat), r < n → s < n → r ≠ s → F (upd M r (fun b => M r b + x * M s b)) = F M
theorem sm_delta {f : Nat → Rat} {j : Nat} : ∀ n, j < n → (∀ i, i < n → i ≠ j → f i = 0) → sm f n = f j
 | 0, h, _ => by omega
 | n + 1, hj, h => by
  rw [sm]
  by_cases e : n = j
  ·subst e
   rw [show sm f n = 0 from (sm_congr n fun i hi => h i (by omega) (by omega)).trans (sm_zero n), Rat.zero_add]
  ·rw [sm_delta n (by omega) fun i hi => h i (by omega), h n (by omega) e, Rat.add_zero]
end Go.Ab
set_option linter.unusedVariables false
set_option linter.unusedSimpArgs false
namespace Go.Ab
open Go.RowKit
theorem ent_swF {R : List (List Rat)} {i r a j : Nat} (hi : i < R.length) (hr : r < R.length) (ha : a < R.length) : ent (sw R i r) a j = ent R (swp i r a) j := by
 unfold ent sw swp
 rw [gset_getD (by rw [List.length_set]; exact ha), gset_getD ha]
 by_cases h1 : a = i
 ·rw [if_pos h1.symm, if_pos h1]
 ·rw [if_neg (Ne.symm h1), if_neg h1]
  by_cases h2 : a = r
  ·rw [if_pos h2.symm, if_pos h2]
  ·rw [if_neg (Ne.symm h2), if_neg h2]
theorem ent_midF {R : List (List Rat)} {i r c a j : Nat} (ha : a < R.length) : ent (mid R i r c) a j = if a = r then 1 / ent (sw R i r) r c * ent (sw R i r) r j else ent (sw R i r) a j := by
 by_cases h : a = r
 ·rw [if_pos h, h]
  show (((((sw R i r).set r (rsc (1 / ent (sw R i r) r c) ((sw R i r).getD r default))) : List (List Rat))).getD r default).getD j default = _
  rw [gset_getD (by rw [sw_len]; omega), if_pos rfl, rsc_getD]; rfl
 ·rw [if_neg h]
  show (((((sw R i r).set r (rsc (1 / ent (sw R i r) r c) ((sw R i r).getD r default))) : List (List Rat))).getD a default).getD j default = _
  rw [gset_getD (by rw [sw_len]; exact ha), if_neg (Ne.symm h)]; rfl
theorem ent_elimF {M : List (List Rat)} {w r c a j : Nat} (hw : Wid w M) (ha : a < M.length) (hj : j < w) : ent (elim M r c) a j = if a = r then ent M r j else ent M a j - ent M a c * ent M r j := by
 show ((elim M r c).getD a default).getD j default = _
 rw [elim_getD ha]
 by_cases h : a = r
 ·subst h; rw [if_pos rfl, elr_self]; rfl
 ·rw [if_neg h]
  by_cases h0 : ent M a c = 0
  ·rw [elr_neg (.inr h0), h0]
   show ent M a j = _
   grind
  ·rw [elr_pos h h0, rad_getD (by rw [hw.row ha]; exact hj), rsc_getD]
   show ent M a j + -ent M a c * ent M r j = _
   grind
structure Stp (A B : List (List Rat)) (w a r c : Nat) : Prop where
 len : B.length = A.length
 wid : Wid w B
 ha : a < A.length
 hr : r < A.length
 ne : ent A a c ≠ 0
 row : ∀ j, j < w → ent B r j = 1 / ent A a c * ent A a j
 oth : ∀ i j, i < A.length → i ≠ r → j < w → ent B i j = ent A (swp a r i) j - ent A (swp a r i) c * (1 / ent A a c * ent A a j)
theorem stp_of {A : List (List Rat)} {w a r c : Nat} (hw : Wid w A) (ha : a < A.length) (hr : r < A.length) (hc : c < w) (hne : ent A a c ≠ 0) : Stp A (elim (mid A a r c) r c) w a r c := by
 have hm : Wid w (mid A a r c) := hw.mid ha hr c
 have hml : (mid A a r c).length = A.length := mid_len _ _ _ _
 have hsr : ∀ j, ent (sw A a r) r j = ent A a j := fun j => ent_sw ha hr
 refine ⟨by rw [elim_len, hml], ?_, ha, hr, hne, fun j hj => ?_, fun i j hi hir hj => ?_⟩
 ·intro row hrow
  obtain ⟨k, hk, rfl⟩ := List.mem_map.1 hrow
  exact elr_len hm r c (List.mem_range.1 hk)
 ·rw [ent_elimF hm (by omega) hj, if_pos rfl, ent_midF hr, if_pos rfl, hsr, hsr]
 ·rw [ent_elimF hm (by omega) hj, if_neg hir, ent_midF hi, if_neg hir, ent_midF hi, if_neg hir, ent_midF hr, if_pos rfl, hsr, hsr, ent_swF ha hr hi, ent_swF ha hr hi]
structure St0 (R : List (List Rat)) (w c : Nat) : Prop where
 wid : Wid w (gjn R c).1
 led : (gjn R c).2.length ≤ R.length
theorem St0.all {R : List (List Rat)} {w : Nat} (hw : Wid w R) : ∀ c, c ≤ w → St0 R w c
 | 0, _ => ⟨hw, Nat.zero_le _⟩
 | c + 1, hc => by
  have h := St0.all hw c (by omega)
  obtain ⟨p1, p2, p3⟩ := pivot_facts (R := (gjn R c).1) (r := (gjn R c).2.length) (c := c) (by rw [gjn_len]; exact h.led)
  by_cases e : pivot (gjn R c).1 (gjn R c).2.length c = (gjn R c).1.length
  ·rw [show St0 R w (c + 1) ↔ St0 R w c from ⟨fun _ => h, fun _ => ⟨by rw [gjn_no e]; exact h.wid, by rw [gjn_no e]; exact h.led⟩⟩]; exact h
  ·have hl := gjn_len R c
   have hy := gjn_yes (a := pivot (gjn R c).1 (gjn R c).2.length c) rfl (by omega)
   have hs := stp_of (r := (gjn R c).2.length) (c := c) h.wid (show pivot (gjn R c).1 (gjn R c).2.length c < _ by omega) (by omega) (by omega) (p3 (by omega))
   exact ⟨by rw [hy]; exact hs.wid, by rw [hy]; simp; omega⟩
theorem gjn_ind {R : List (List Rat)} {w : Nat} (hw : Wid w R) {P : Nat → List (List Rat) → List Nat → Prop} (h0 : P 0 R [])
  (hno : ∀ c S L, c < w → gjn R c = (S, L) → S.length = R.length → Wid w S → L.length ≤ R.length → P c S L → (∀ k, L.length ≤ k → k < R.length → ent S k c = 0) → P (c + 1) S L)
  (hyes : ∀ c S L B a, c < w → gjn R c = (S, L) → S.length = R.length → Wid w S → L.length ≤ a → P c S L → Stp S B w a L.length c → gjn R (c + 1) = (B, L ++ [c]) → pivot S L.length c = a → P (c + 1) B (L ++ [c])) : ∀ c, c ≤ w → P c (gjn R c).1 (gjn R c).2
 | 0, _ => h0
 | c + 1, hc => by
  have ih := gjn_ind hw h0 hno hyes c (by omega)
  have h := St0.all hw c (by omega)
  have hl := gjn_len R c
  obtain ⟨p1, p2, p3⟩ := pivot_facts (R := (gjn R c).1) (r := (gjn R c).2.length) (c := c) (by rw [gjn_len]; exact h.led)
  by_cases e : pivot (gjn R c).1 (gjn R c).2.length c = (gjn R c).1.length
  ·rw [gjn_no e]
   exact hno c _ _ (by omega) rfl hl h.wid h.led ih fun k h1 h2 => pivot_zero e h1 (by omega)
  ·have hy := gjn_yes (a := pivot (gjn R c).1 (gjn R c).2.length c) rfl (by omega)
   have hs := stp_of (r := (gjn R c).2.length) (c := c) h.wid (show pivot (gjn R c).1 (gjn R c).2.length c < _ by omega) (by omega) (by omega) (p3 (by omega))
   rw [hy]
   exact hyes c _ _ _ _ (by omega) rfl hl h.wid p1 ih hs hy rfl
end Go.Ab
set_option linter.unusedVariables false
set_option linter.unusedSimpArgs false
namespace Go.Ab
open Go.RowKit
structure RI (S : List (List Rat)) (L : List Nat) (c : Nat) : Prop where
 rk : L.length ≤ S.length
 piv : ∀ t, t < L.length → ∀ i, i < S.length → ent S i (L.getD t default) = if i = t then 1 else 0
 low : ∀ t, t < L.length → ∀ j, j < L.getD t default → ent S t j = 0
 zer : ∀ i, L.length ≤ i → i < S.length → ∀ j, j < c → ent S i j = 0
 mono : ∀ t u, t < u → u < L.length → L.getD t default < L.getD u default
 lt : ∀ t, t < L.length → L.getD t default < c
theorem snoc_lt {L : List Nat} {c t : Nat} (h : t < L.length) : (L ++ [c]).getD t default = L.getD t default := by
 simp only [List.getD_eq_getElem?_getD, List.getElem?_append_left h]
theorem snoc_eq {L : List Nat} {c : Nat} : (L ++ [c]).getD L.length default = c := by
 simp [List.getD_eq_getElem?_getD]
theorem swp_lt {a r i : Nat} (h : i < r) (ha : r ≤ a) : swp a r i = i := by
 unfold swp; rw [if_neg (by omega), if_neg (by omega)]
theorem swp_ge {a r i : Nat} (h : r ≤ i) (ha : r ≤ a) : r ≤ swp a r i := by
 unfold swp; split
 ·omega
 ·split <;> omega
theorem swp_len {a r i m : Nat} (h : i < m) (ha : a < m) (hr : r < m) : swp a r i < m := by
 unfold swp; split
 ·omega
 ·split <;> omega
theorem gjn_RI {R : List (List Rat)} {w : Nat} (hw : Wid w R) : ∀ c, c ≤ w → RI (gjn R c).1 (gjn R c).2 c :=
 gjn_ind hw (P := fun c S L => RI S L c)
  ⟨Nat.zero_le _, fun t ht => by simp at ht, fun t ht => by simp at ht, fun i _ _ j hj => by omega, fun t u _ hu => by simp at hu, fun t ht => by simp at ht⟩
  (fun c S L hc _ hl _ _ h hz => ⟨h.rk, h.piv, h.low, fun i h1 h2 j hj => by
   by_cases e : j = c
   ·rw [e]; exact hz i h1 (by omega)
   ·exact h.zer i h1 h2 j (by omega), h.mono, fun t ht => by have := h.lt t ht; omega⟩)
  (fun c S L B a hc _ hl _ hla h hs _ _ => by
   have hBl := hs.len
   have hha := hs.ha
   have hp := hs.ne
   have hrow : ∀ j, j < c → ent B L.length j = 0 := fun j hj => by
    rw [hs.row j (by omega), h.zer a hla hs.ha j hj, Rat.mul_zero]
   have hoth : ∀ i j, i < S.length → i ≠ L.length → j < c → ent B i j = ent S (swp a L.length i) j := fun i j hi hir hj => by
    rw [hs.oth i j hi hir (by omega), h.zer a hla hs.ha j hj]; grind
   have hlo : ∀ i j, i < L.length → j < c → ent B i j = ent S i j := fun i j hi hj => by
    rw [hoth i j (by have := h.rk; omega) (by omega) hj, swp_lt hi hla]
   have hhi : ∀ i j, L.length ≤ i → i < S.length → j < c → ent B i j = 0 := fun i j h1 h2 hj => by
    by_cases e : i = L.length
    ·rw [e]; exact hrow j hj
    ·rw [hoth i j h2 e hj]; exact h.zer _ (swp_ge h1 hla) (swp_len h2 hs.ha hs.hr) j hj
   have hc1 : ent B L.length c = 1 := by rw [hs.row c hc]; grind
   have hc0 : ∀ i, i < S.length → i ≠ L.length → ent B i c = 0 := fun i h1 h2 => by rw [hs.oth i c h1 h2 hc]; grind
   refine ⟨by simp; have := hs.hr; omega, fun t ht i hi => ?_, fun t ht j hj => ?_, fun i h1 h2 j hj => ?_, fun t u htu hu => ?_, fun t ht => ?_⟩
   ·rw [List.length_append, List.length_singleton] at ht
    by_cases e : t = L.length
    ·subst e
     rw [snoc_eq]
     by_cases e2 : i = L.length
     ·rw [e2, hc1, if_pos rfl]
     ·rw [hc0 i (by omega) e2, if_neg e2]
    ·rw [snoc_lt (by omega)]
     have hlt := h.lt t (by omega)
     by_cases e2 : i < L.length
     ·rw [hlo i _ e2 hlt]; exact h.piv t (by omega) i (by omega)
     ·rw [hhi i _ (by omega) (by omega) hlt, if_neg (by omega)]
   ·rw [List.length_append, List.length_singleton] at ht
    by_cases e : t = L.length
    ·subst e
     rw [snoc_eq] at hj; exact hrow j hj
    ·rw [snoc_lt (by omega)] at hj
     have hlt := h.lt t (by omega)
     rw [hlo t j (by omega) (by omega)]; exact h.low t (by omega) j hj
   ·rw [List.length_append, List.length_singleton] at h1
    by_cases e : j = c
    ·rw [e]; exact hc0 i (by omega) (by omega)
    ·exact hhi i j (by omega) (by omega) (by omega)
   ·rw [List.length_append, List.length_singleton] at hu
    rw [snoc_lt (by omega)]
    by_cases e : u = L.length
    ·subst e; rw [snoc_eq]; exact h.lt t htu
    ·rw [snoc_lt (by omega)]; exact h.mono t u htu (by omega)
   ·rw [List.length_append, List.length_singleton] at ht
    by_cases e : t = L.length
    ·subst e; rw [snoc_eq]; omega
    ·rw [snoc_lt (by omega)]; have := h.lt t (by omega); omega)
theorem pivot_lt {R : List (List Rat)} {r c k : Nat} (h1 : r ≤ k) (h2 : k < pivot R r c) : ent R k c = 0 := by
 unfold pivot at h2
 have h3 : k - r < (R.drop r).findIdx (fun a => decide (a.getD c default ≠ 0)) := by omega
 have h4 := List.not_of_lt_findIdx h3
 have h5 : k - r < (R.drop r).length := Nat.lt_of_lt_of_le h3 List.findIdx_le_length
 rw [List.length_drop] at h5
 have e : (R.drop r)[k - r]'(by rw [List.length_drop]; omega) = R.getD k default := by
  rw [List.getElem_drop]
  simp only [show r + (k - r) = k by omega]
  rw [List.getD_eq_getElem?_getD, List.getElem?_eq_getElem (by omega)]; rfl
 rw [e] at h4
 unfold ent
 simpa using h4
theorem pivot_ext {A B : List (List Rat)} {r c : Nat} (hl : A.length = B.length) (hr : r ≤ A.length) (h : ∀ i, i < A.length → ent A i c = ent B i c) : pivot A r c = pivot B r c := by
 obtain ⟨p1, p2, p3⟩ := pivot_facts (R := B) (r := r) (c := c) (by omega)
 refine pivot_eq p1 (by omega) (fun k h1 h2 => ?_) ?_
 ·rw [h k (by omega)]; exact pivot_lt h1 h2
 ·by_cases e : pivot B r c = B.length
  ·left; omega
  ·right; rw [h _ (by omega)]; exact p3 (by omega)
theorem gjn_ext {A B : List (List Rat)} {w w2 : Nat} (hA : Wid w A) (hB : Wid w2 B) (hww : w ≤ w2) (hl : B.length = A.length) (he : ∀ i j, i < A.length → j < w → ent B i j = ent A i j) : ∀ c, c ≤ w → (gjn B c).2 = (gjn A c).2 ∧ ∀ i j, i < A.length → j < w → ent (gjn B c).1 i j = ent (gjn A c).1 i j
 | 0, _ => ⟨rfl, he⟩
 | c + 1, hc => by
  obtain ⟨ih1, ih2⟩ := gjn_ext hA hB hww hl he c (by omega)
  have hSA := St0.all hA c (by omega)
  have hSB := St0.all hB c (by omega)
  have hlA := gjn_len A c
  have hlB := gjn_len B c
  have hpe : pivot (gjn B c).1 (gjn B c).2.length c = pivot (gjn A c).1 (gjn A c).2.length c := by
   rw [ih1]
   exact pivot_ext (by omega) (by have := hSA.led; omega) fun i hi => ih2 i c (by omega) (by omega)
  obtain ⟨p1, p2, p3⟩ := pivot_facts (R := (gjn A c).1) (r := (gjn A c).2.length) (c := c) (by have := hSA.led; omega)
  by_cases e : pivot (gjn A c).1 (gjn A c).2.length c = (gjn A c).1.length
  ·rw [gjn_no e, gjn_no (by omega)]; exact ⟨ih1, ih2⟩
  ·rw [gjn_yes (R := B) hpe (by omega), gjn_yes (R := A) rfl (by omega), ih1]
   refine ⟨rfl, fun i j hi hj => ?_⟩
   have hp := p3 (by omega)
   have sA := stp_of (r := (gjn A c).2.length) (c := c) hSA.wid (show pivot (gjn A c).1 (gjn A c).2.length c < _ by omega) (by omega) (by omega) hp
   have sB := stp_of (r := (gjn A c).2.length) (c := c) hSB.wid (show pivot (gjn A c).1 (gjn A c).2.length c < _ by omega) (by omega) (by omega) (by rw [ih2 _ c (by omega) (by omega)]; exact hp)
   by_cases e2 : i = (gjn A c).2.length
   ·rw [e2, sA.row j hj, sB.row j (by omega), ih2 _ c (by omega) (by omega), ih2 _ j (by omega) hj]
   ·have hsl : swp (pivot (gjn A c).1 (gjn A c).2.length c) (gjn A c).2.length i < A.length := swp_len hi (by omega) (by omega)
    rw [sA.oth i j (by omega) e2 hj, sB.oth i j (by omega) e2 (by omega), ih2 (swp _ _ i) c hsl (by omega), ih2 (swp _ _ i) j hsl hj, ih2 _ c (by omega) (by omega), ih2 _ j (by omega) hj]
theorem rows_ext {A B : List (List Rat)} {w : Nat} (hl : A.length = B.length) (hA : Wid w A) (hB : Wid w B) (h : ∀ i j, i < A.length → j < w → ent A i j = ent B i j) : A = B := by
 refine glist_eq hl fun i hi => ?_
 have h1 := hA.row hi
 refine list_eq (by rw [h1, hB.row (by omega)]) fun j hj => h i j hi (by omega)
theorem RI.ge {S : List (List Rat)} {L : List Nat} {c : Nat} (h : RI S L c) : ∀ t, t < L.length → t ≤ L.getD t default
 | 0, _ => Nat.zero_le _
 | t + 1, ht => by have := h.ge t (by omega); have := h.mono t (t + 1) (by omega) ht; omega
theorem RI.le {S : List (List Rat)} {L : List Nat} {c : Nat} (h : RI S L c) : ∀ d t, t < L.length → L.length - 1 - t = d → L.getD t default + d < c
 | 0, t, ht, _ => by have := h.lt t ht; omega
 | d + 1, t, ht, hd => by have := h.le d (t + 1) (by omega) (by omega); have := h.mono t (t + 1) (by omega) (by omega); omega
theorem RowF.zero {n : Nat} {F : (Nat → Nat → Rat) → Rat} (hF : RowF n F) (M : Nat → Nat → Rat) {r : Nat} (hr : r < n) (h : ∀ b, b < n → M r b = 0) : F M = 0 := by
 have h1 := hF.scale M (r := r) 0 hr
 rw [Rat.zero_mul] at h1
 rw [← h1]
 refine hF.congr fun a b ha hb => ?_
 unfold upd
 by_cases e : a = r
 ·rw [if_pos e, e, h b hb]; exact (Rat.zero_mul _).symm
 ·rw [if_neg e]
end Go.Ab
set_option linter.unusedVariables false
set_option linter.unusedSimpArgs false
namespace Go.Ab
open Go.RowKit
def ev (w : Nat) (y : List Rat) : Nat → Rat := fun j => if j < w then y.getD j default else -1
theorem ent_wR {A : List (List Rat)} {b : List Rat} {w i j : Nat} (hw : Wid w A) (hi : i < A.length) (hj : j < w) : ent (wR A b) i j = ent A i j := by
 unfold ent wR
 rw [range_getD hi]
 simp only [List.getD_eq_getElem?_getD]
 rw [List.getElem?_append_left (by have := hw.row hi; rw [List.getD_eq_getElem?_getD] at this; omega)]
theorem ent_wR_last {A : List (List Rat)} {b : List Rat} {w i : Nat} (hw : Wid w A) (hi : i < A.length) : ent (wR A b) i w = b.getD i default := by
 unfold ent wR
 rw [range_getD hi]
 have h1 := hw.row hi
 rw [← h1]
 simp only [List.getD_eq_getElem?_getD]
 rw [List.getElem?_append_right (Nat.le_refl _), Nat.sub_self]; rfl
theorem solv_getD {S : GS} {w : Nat} (hm : ∀ t u, t < u → u < S.2.length → S.2.getD t default < S.2.getD u default) (hlt : ∀ t, t < S.2.length → S.2.getD t default < w) : ∀ i, i ≤ S.2.length → ∀ j, j < w → (solv S w i).getD j default = sm (fun t => if S.2.getD t default = j then ent S.1 t w else 0) i
 | 0, _, j, hj => by
  rw [solv, sm]; simp [List.getD_eq_getElem?_getD, hj]
 | i + 1, hi, j, hj => by
  rw [solv, sm, gset_getD (by rw [solv_len]; exact hj)]
  by_cases e : S.2.getD i default = j
  ·rw [if_pos e, if_pos e]
   have h0 : sm (fun t => if S.2.getD t default = j then ent S.1 t w else 0) i = 0 := by
    refine (sm_congr i fun t ht => if_neg ?_).trans (sm_zero i)
    have := hm t i ht (by omega)
    omega
   rw [h0]; grind
  ·rw [if_neg e, if_neg e, Rat.add_zero, solv_getD hm hlt i (by omega) j hj]
theorem ent_wU {A : List (List Rat)} {n i j : Nat} (hw : Wid n A) (hi : i < A.length) (hj : j < n) : ent (wU A) i j = ent A i j := by
 unfold ent wU
 rw [range_getD hi]
 simp only [List.getD_eq_getElem?_getD]
 rw [List.getElem?_append_left (by have := hw.row hi; rw [List.getD_eq_getElem?_getD] at this; omega)]
theorem ent_wU2 {A : List (List Rat)} {n i k : Nat} (hw : Wid n A) (hi : i < A.length) (hk : k < A.length) : ent (wU A) i (n + k) = if i = k then 1 else 0 := by
 unfold ent wU
 rw [range_getD hi]
 have h1 := hw.row hi
 rw [← h1]
 simp only [List.getD_eq_getElem?_getD]
 rw [List.getElem?_append_right (by omega), Nat.add_sub_cancel_left]
 unfold uR
 rw [List.getElem?_set]
 by_cases e : i = k
 ·rw [if_pos e, if_pos e, if_pos (by simp; omega)]; rfl
 ·rw [if_neg e, if_neg e]; simp [hk]
def invR (A : List (List Rat)) (n : Nat) : List (List Rat) := (gjn (wU A) n).1.map fun r => r.drop n
theorem ent_drop {S : List (List Rat)} {n i k : Nat} (hi : i < S.length) : ent (S.map fun r => r.drop n) i k = ent S i (n + k) := by
 unfold ent
 rw [mapD (f := fun r : List Rat => r.drop n) hi, dropD]
theorem wU_wid2 {A : List (List Rat)} {n : Nat} (hl : A.length = n) (hw : Wid n A) : Wid (n + n) (wU A) := by
 have := wU_wid hw; rwa [hl] at this
theorem inv_len {A : List (List Rat)} {n : Nat} (hl : A.length = n) : (invR A n).length = n := by
 unfold invR; rw [List.length_map, gjn_len, wU_len, hl]
theorem inv_wid {A : List (List Rat)} {n : Nat} (hl : A.length = n) (hw : Wid n A) : Wid n (invR A n) := by
 intro r hr
 obtain ⟨s, hs, rfl⟩ := List.mem_map.1 hr
 have := (St0.all (wU_wid2 hl hw) n (by omega)).wid s hs
 rw [List.length_drop, this]; omega
theorem inv_lead {A : List (List Rat)} {n : Nat} (hl : A.length = n) (hw : Wid n A) : (gjn (wU A) n).2 = (gjn A n).2 :=
 (gjn_ext hw (wU_wid2 hl hw) (by omega) (wU_len A) (fun i j hi hj => ent_wU hw hi hj) n (Nat.le_refl _)).1
def two (n : Nat) (x y : Nat → Rat) : Nat → Rat := fun j => if j < n then x j else y (j - n)
end Go.Ab
set_option linter.unusedVariables false
set_option linter.unusedSimpArgs false
namespace Go.Ab
open Go.RowKit
theorem outN_nq {y : NM} (h : VN y) : outN (nq y) = some y := by
 obtain ⟨h1, h2⟩ := valid_rat h
 obtain ⟨k1, k2, k3, k4, _⟩ := h
 unfold outN nq
 rw [h1, h2, if_pos ⟨⟨k4, k3⟩, k2⟩]
theorem outs_nq : ∀ {r : List NM}, (∀ y, y ∈ r → VN y) → (r.map nq).mapM outN = some r
 | [], _ => rfl
 | y :: r, h => by
  rw [List.map_cons, List.mapM_cons, outN_nq (h y (by simp)), outs_nq fun z hz => h z (by simp [hz])]; rfl
theorem outm_nq : ∀ {M : List (List NM)}, (∀ m, m ∈ M → ∀ y, y ∈ m → VN y) → ((M.map fun m => m.map nq).mapM fun r => r.mapM outN) = some M
 | [], _ => rfl
 | y :: r, h => by
  rw [List.map_cons, List.mapM_cons, outs_nq (h y (by simp)), outm_nq fun z hz => h z (by simp [hz])]; rfl
theorem VN.i64 {y : NM} (h : VN y) : I64 y.1 ∧ I64 y.2 := by
 obtain ⟨k1, k2, k3, k4, _⟩ := h
 unfold I64; omega
theorem vM_len (a : List M1) : (vM a).length = a.length := by simp [vM]
theorem inv_S {a : List M1} : (invS a).1.map (fun r => r.drop a.length) = invR (vM a) a.length := rfl
end Go.Ab
set_option linter.unusedVariables false
namespace Go.Ab
section
variable {P : Program} {T : TT} {E : TypeId → Bool} {N : Nat} {oa : Array Oper} {i b n z id : Nat} {e : Env} {h : Hp} {Q : Env → Hp → Prop} {K : Ex → Env → Hp → Nat → Prop} {t dst : Nat} {pos : String} {af : Array Edge} {l : List Oper} {x : Operand} {r : LV} {acc : List Rec} {c : Code} {o : Oper} {k : IntKind} {u : Int} {d : Delta} {R : List Nat}
theorem Um (hx : evE e x = some r) (hd : Nat.blt dst N = true) (q : WO P T E N oa l (i + 1) b ((dst, r) :: e) h Q) : WO P T E N oa (⟨some dst, .move x, t, pos, af, none⟩ :: l) i b e h Q := WO.U (oMv hx) hd q
theorem Ua (hx : evE e x = some r) (hd : Nat.blt dst N = true) (q : WO P T E N oa l (i + 1) b ((dst, r) :: e) h Q) : WO P T E N oa (⟨some dst, .assign x, t, pos, af, none⟩ :: l) i b e h Q := WO.U (oAs hx) hd q
theorem Dm (hx : evE e x = some r) (hd : Nat.blt dst N = true) (q : WD P T E N oa l (i + 1) b ((dst, r) :: e) h (⟨i, [], [], false⟩ :: acc) Q) : WD P T E N oa (⟨some dst, .move x, t, pos, af, none⟩ :: l) i b e h acc Q := WD.U (oMv hx) hd q
theorem Wn (q : Q e h) : WO P T E N oa [] i b e h Q := WO.nil q
theorem Nw (a : Env) (hs : subs a e) (q : WC P T E N c a h n K) : WO P T E N oa [] i b e h (fun e' m' => WC P T E N c e' m' n K) := WO.nil (WC.weak a hs q)
theorem Rg (z : Nat) (hz : oa.size = z) (q : WO P T E N oa oa.toList 0 n e h fun e' m' => WC P T E N c e' m' (n + z) K) : WC P T E N (.seq (.region id oa false) c) e h n K := WC.reg hz q
theorem cI (v : Int) (q : OP P T E o id e h (.v (.int k u)) d R) (hv : u = v) : OP P T E o id e h (.v (.int k v)) d R := OP.castI q hv
end
end Go.Ab
set_option linter.unusedVariables false
set_option linter.unusedSimpArgs false
namespace Go.Ab
open Go.RowKit
structure GB (R : List (List Rat)) (cols β : Nat) : Prop where
 pos : 2 ≤ β
 bds : ∀ c, c < cols → BdL β (gjn R c).1
 dts : ∀ c, c < cols → Bd β (gjd R c)
structure GI3 (R : List (List Rat)) (w β cols c : Nat) : Prop where
 bds : c < cols → BdL β (gjn R c).1
 wid : Wid w (gjn R c).1
 led : (gjn R c).2.length ≤ R.length
 ldc : ∀ x, x ∈ (gjn R c).2 → x < c
theorem GB.all {R : List (List Rat)} {cols β w : Nat} (h : GB R cols β) (hw : Wid w R) (hcw : cols ≤ w) (c : Nat) (hc : c ≤ cols) : GI3 R w β cols c where
 bds hcc := h.bds c hcc
 wid := (St0.all hw c (by omega)).wid
 led := (St0.all hw c (by omega)).led
 ldc x hx := by
  obtain ⟨t, ht, rfl⟩ := List.mem_iff_getElem.1 hx
  have := (gjn_RI hw c (by omega)).lt t ht
  rw [List.getD_eq_getElem?_getD, List.getElem?_eq_getElem ht] at this
  exact this
def lgF (n : Nat) (k : Rat) (E : Nat → Nat → Rat) (c i j : Nat) : Rat :=
 if j < n then (if i < c then (if j = i then 1 else 0) - (if j = c then 1 else 0) else (if j = i then k else 0) - (if j = i + 1 then k else 0))
 else if i < c then 1 / k * sm (fun t => if i ≤ t then E t (j - n) else 0) c else E i (j - n)
theorem lg_cc {n c : Nat} {k : Rat} {E : Nat → Nat → Rat} (hc : c < n) : lgF n k E c c c = k := by
 unfold lgF
 rw [if_pos hc, if_neg (Nat.lt_irrefl c), if_pos rfl, if_neg (by omega)]; grind
theorem lg_row {n c j : Nat} {k : Rat} {E : Nat → Nat → Rat} (hk : k ≠ 0) (hc : c < n) : lgF n k E (c + 1) c j = 1 / k * lgF n k E c c j := by
 unfold lgF
 rw [if_neg (Nat.lt_irrefl c), if_neg (Nat.lt_irrefl c), if_pos (Nat.lt_succ_self c), if_pos (Nat.lt_succ_self c)]
 by_cases h : j < n
 ·rw [if_pos h, if_pos h]
  by_cases h1 : j = c
  ·subst h1
   rw [if_pos rfl, if_pos rfl, if_neg (by omega), if_neg (by omega)]; grind
  ·rw [if_neg h1, if_neg h1]
   by_cases h2 : j = c + 1
   ·rw [if_pos h2, if_pos h2]; grind
   ·rw [if_neg h2, if_neg h2]; grind
 ·rw [if_neg h, if_neg h, sm, if_pos (Nat.le_refl c)]
  rw [show sm (fun t => if c ≤ t then E t (j - n) else 0) c = 0 from (sm_congr c fun t ht => if_neg (by omega)).trans (sm_zero c)]
  grind
theorem lg_oth {n c i j : Nat} {k : Rat} {E : Nat → Nat → Rat} (hk : k ≠ 0) (hc : c < n) (hic : i ≠ c) : lgF n k E (c + 1) i j = lgF n k E c i j - lgF n k E c i c * (1 / k * lgF n k E c c j) := by
 have hcc : lgF n k E c i c = if i < c then -1 else 0 := by
  unfold lgF
  rw [if_pos hc]
  by_cases h : i < c
  ·rw [if_pos h, if_pos h, if_neg (by omega), if_pos rfl]; grind
  ·rw [if_neg h, if_neg h, if_neg (by omega), if_neg (by omega)]; grind
 rw [hcc]
 by_cases h : i < c
 ·rw [if_pos h, ← lg_row hk hc]
  unfold lgF
  rw [if_pos h, if_pos h, if_pos (show i < c + 1 by omega), if_pos (show i < c + 1 by omega), if_pos (Nat.lt_succ_self c), if_pos (Nat.lt_succ_self c)]
  by_cases h1 : j < n
  ·rw [if_pos h1, if_pos h1, if_pos h1]; grind
  ·rw [if_neg h1, if_neg h1, if_neg h1, sm, sm, if_pos (show i ≤ c by omega), if_pos (Nat.le_refl c)]
   rw [show sm (fun t => if c ≤ t then E t (j - n) else 0) c = 0 from (sm_congr c fun t ht => if_neg (by omega)).trans (sm_zero c)]
   grind
 ·rw [if_neg h]
  unfold lgF
  rw [if_neg h, if_neg h, if_neg (show ¬ i < c + 1 by omega), if_neg (show ¬ i < c + 1 by omega)]
  grind
theorem lg_all {M : List (List Rat)} {n m : Nat} {k : Rat} {E : Nat → Nat → Rat} (hl : M.length = n) (hw : Wid (n + m) M) (hk : k ≠ 0) (he : ∀ i j, i < n → j < n + m → ent M i j = lgF n k E 0 i j) : ∀ c, c ≤ n → (gjn M c).2.length = c ∧ (∀ i j, i < n → j < n + m → ent (gjn M c).1 i j = lgF n k E c i j) ∧ gjd M c = k ^ c
 | 0, _ => ⟨rfl, he, (Rat.pow_zero k).symm⟩
 | c + 1, hc => by
  obtain ⟨h1, h2, h3⟩ := lg_all hl hw hk he c (by omega)
  have hgl := gjn_len M c
  have hS := (St0.all hw c (by omega)).wid
  have hcc : ent (gjn M c).1 c c = k := by rw [h2 c c (by omega) (by omega), lg_cc (by omega)]
  have hp : pivot (gjn M c).1 (gjn M c).2.length c = c := by
   rw [h1]
   exact pivot_eq (Nat.le_refl _) (by omega) (fun i h4 h5 => by omega) (.inr (by rw [hcc]; exact hk))
  have hs := stp_of (r := c) (c := c) hS (show c < (gjn M c).1.length by omega) (by omega) (by omega) (by rw [hcc]; exact hk)
  rw [gjn_yes hp (by omega), gjd_yes hp (by omega), h1, if_neg (by omega), h3, hcc]
  refine ⟨by simp [h1], fun i j hi hj => ?_, (Rat.pow_succ k c).symm⟩
  by_cases e : i = c
  ·rw [e, hs.row j hj, hcc, h2 c j (by omega) hj, lg_row hk (by omega)]
  ·rw [hs.oth i j (by omega) e hj, hcc, show swp c c i = i by unfold swp; rw [if_neg e, if_neg e], h2 i j hi hj, h2 i c hi (by omega), h2 c j (by omega) hj, lg_oth hk (by omega) e]
theorem Bd_int {z : Int} (h : z.natAbs < 18446744073709551616) : Bd 2 (z : Rat) := by
 refine ⟨?_, ?_⟩
 ·rw [Rat.num_intCast]; exact len32_small h
 ·rw [Rat.den_intCast]; exact Nat.le_trans (len32_of (n := 1) (by decide)) (by decide)
theorem bdl_ent {R : List (List Rat)} {β w : Nat} (hw : Wid w R) (h : ∀ i j, i < R.length → j < w → Bd β (ent R i j)) : BdL β R := by
 intro r hr x hx
 obtain ⟨i, hi, rfl⟩ := List.mem_iff_getElem.1 hr
 obtain ⟨j, hj, rfl⟩ := List.mem_iff_getElem.1 hx
 have h1 := h i j hi (by rw [← hw _ (List.getElem_mem hi)]; exact hj)
 unfold ent at h1
 rw [List.getD_eq_getElem?_getD, List.getD_eq_getElem?_getD, List.getElem?_eq_getElem hi] at h1
 simp only [Option.getD_some] at h1
 rw [List.getElem?_eq_getElem hj] at h1
 exact h1
theorem lg_bdm {n c i j k : Nat} {E : Nat → Nat → Rat} (hk9 : k ≤ 9) (hj : j < n) : Bd 2 (lgF n (k : Rat) E c i j) := by
 have key : ∃ z : Int, z.natAbs ≤ 9 ∧ lgF n (k : Rat) E c i j = (z : Rat) := by
  unfold lgF
  rw [if_pos hj]
  have h0 : ((0 : Int) : Rat) = 0 := rfl
  have h1 : ((1 : Int) : Rat) = 1 := rfl
  have hkk : (((k : Nat) : Int) : Rat) = (k : Rat) := Rat.intCast_natCast k
  by_cases h : i < c
  ·rw [if_pos h]
   refine ⟨(if j = i then 1 else 0) - (if j = c then 1 else 0), by split <;> split <;> decide, ?_⟩
   rw [Rat.intCast_sub]
   congr 1 <;> split <;> rfl
  ·rw [if_neg h]
   refine ⟨(if j = i then (k : Int) else 0) - (if j = i + 1 then (k : Int) else 0), by split <;> split <;> omega, ?_⟩
   rw [Rat.intCast_sub]
   congr 1 <;> split <;> first | exact hkk.symm | rfl
 obtain ⟨z, h1, h2⟩ := key
 rw [h2]
 exact Bd_int (by omega)
theorem pow_bd9 {k c : Nat} (hk9 : k ≤ 9) (hc : c ≤ 60) : Bd 10 ((k : Rat) ^ c) := by
 have h : ((k : Rat) ^ c) = (((k ^ c : Nat) : Int) : Rat) := by rw [Rat.intCast_natCast, Rat.natCast_pow]
 rw [h]
 refine ⟨?_, by rw [Rat.den_intCast]; exact Nat.le_trans (len32_of (n := 1) (by decide)) (by decide)⟩
 rw [Rat.num_intCast]
 refine len32_of ?_
 rw [Int.natAbs_natCast]
 have h1 : k ^ c ≤ 9 ^ c := Nat.pow_le_pow_left hk9 c
 have h2 : 9 ^ c ≤ 9 ^ 60 := Nat.pow_le_pow_right (by decide) hc
 have h3 : 9 ^ 60 < 4294967296 ^ 10 := by decide +kernel
 omega
theorem lg_GB {M : List (List Rat)} {n m k : Nat} {E : Nat → Nat → Rat} (hl : M.length = n) (hw : Wid (n + m) M) (hk : (k : Rat) ≠ 0) (hk9 : k ≤ 9) (hn : n ≤ 60) (he : ∀ i j, i < n → j < n + m → ent M i j = lgF n (k : Rat) E 0 i j) (hE : ∀ c i j, c ≤ n → i < n → j < m → Bd 10 (lgF n (k : Rat) E c i (n + j))) : GB M n 10 where
 pos := by decide
 bds c hc := by
  obtain ⟨_, h2, _⟩ := lg_all hl hw hk he c (by omega)
  refine bdl_ent (St0.all hw c (by omega)).wid fun i j hi hj => ?_
  rw [gjn_len, hl] at hi
  rw [h2 i j hi hj]
  by_cases h : j < n
  ·exact (lg_bdm hk9 h).mono (by decide)
  ·have := hE c i (j - n) (by omega) hi (by omega)
   rwa [show n + (j - n) = j by omega] at this
 dts c hc := by
  obtain ⟨_, _, h3⟩ := lg_all hl hw hk he c (by omega)
  rw [h3]; exact pow_bd9 hk9 (by omega)
end Go.Ab
set_option linter.unusedVariables false
set_option linter.unusedSimpArgs false
namespace Go.Ab
open Go.RowKit
def lgx (k i j : Nat) : NM := if j = i then ((k : Int), 1) else if j = i + 1 then (-(k : Int), 1) else (0, 1)
def lgR (n k i : Nat) : List NM := (List.range n).map (lgx k i)
def lgA (n k : Nat) : List M1 := (List.range n).map fun i => ((1 : Nat), lgR n k i)
def lgy (k i j : Nat) : NM := if i ≤ j then (1, (k : Int)) else (0, 1)
def lgI (n k i : Nat) : List NM := (List.range n).map (lgy k i)
def lgB (n k : Nat) : List M1 := (List.range n).map fun i => ((1 : Nat), lgI n k i)
def lgb (n k : Nat) : List NM := (List.range n).map fun _ => ((k : Int), 1)
def lgw (n : Nat) : List NM := (List.range n).map fun i : Nat => (((n : Int) - (i : Int), 1) : NM)
structure LgP (n k : Nat) : Prop where
 n1 : 1 ≤ n
 n60 : n ≤ 60
 k1 : 1 ≤ k
 k9 : k ≤ 9
theorem vn_int {z : Int} (h : z.natAbs ≤ 1152921504606846976) : VN (z, 1) := ⟨(by show (1 : Int) ≤ 1; decide), (by show (1 : Int) ≤ _; decide), (by show z ≤ _; omega), (by show _ ≤ z; omega), Int.gcd_one_right z⟩
theorem nq_int (z : Int) : nq (z, 1) = (z : Rat) := by
 show Rat.divInt z 1 = _
 rw [Rat.divInt_eq_div]
 show (z : Rat) / 1 = z
 grind
theorem lgF0 {n i j : Nat} {k : Rat} {E : Nat → Nat → Rat} (hj : j < n) : lgF n k E 0 i j = (if j = i then k else 0) - (if j = i + 1 then k else 0) := by
 unfold lgF
 rw [if_pos hj, if_neg (by omega)]
theorem lgF1 {n i j : Nat} {k : Rat} {E : Nat → Nat → Rat} (hj : ¬ j < n) : lgF n k E 0 i j = E i (j - n) := by
 unfold lgF
 rw [if_neg hj, if_neg (by omega)]
theorem LgP.kne {n k : Nat} (h : LgP n k) : (k : Rat) ≠ 0 := by
 intro h0
 have h1 : ((k : Int) : Rat) = 0 := by rw [Rat.intCast_natCast]; exact h0
 have h2 : (k : Int) = 0 := by exact_mod_cast h1
 have := h.k1
 omega
theorem lgx_vn {n k : Nat} (h : LgP n k) (i j : Nat) : VN (lgx k i j) := by
 have := h.k9
 unfold lgx
 split
 ·exact vn_int (by omega)
 ·split
  ·exact vn_int (by omega)
  ·exact vn_int (by decide)
theorem lgy_vn {n k : Nat} (h : LgP n k) (i j : Nat) : VN (lgy k i j) := by
 have := h.k9
 have := h.k1
 unfold lgy
 split
 ·exact ⟨by show (1 : Int) ≤ k; omega, by show (k : Int) ≤ _; omega, by show (1 : Int) ≤ _; decide, by show _ ≤ (1 : Int); decide, Int.gcd_one_left _⟩
 ·exact vn_int (by decide)
theorem vm_of {n : Nat} {f : Nat → List NM} (hn : 1 ≤ n) (h60 : n ≤ 60) (hl : ∀ i, (f i).length = n) (hv : ∀ i, ∀ y, y ∈ f i → VN y) : VM ((List.range n).map fun i => ((1 : Nat), f i)) = true ∧ wd ((List.range n).map fun i => ((1 : Nat), f i)) = n ∧ IM ((List.range n).map fun i => ((1 : Nat), f i)) := by
 have h0 : (((List.range n).map fun i => (((1 : Nat), f i) : M1)).getD 0 default) = ((1 : Nat), f 0) := range_getD (by omega)
 refine ⟨?_, ?_, fun r hr y hy => ?_⟩
 ·unfold VM
  rw [Bool.and_eq_true]
  refine ⟨decide_eq_true (by simp; omega), List.all_eq_true.2 fun r hr => ?_⟩
  obtain ⟨i, _, rfl⟩ := List.mem_map.1 hr
  unfold VMr VV
  rw [Bool.and_eq_true, Bool.and_eq_true, h0]
  exact ⟨decide_eq_true (by rw [hl, hl]), decide_eq_true (by rw [hl]; exact h60), List.all_eq_true.2 fun y hy => decide_eq_true (hv i y hy)⟩
 ·unfold wd
  rw [if_neg (by simp; omega), h0]; exact hl 0
 ·obtain ⟨i, _, rfl⟩ := List.mem_map.1 hr
  exact (hv i y hy).i64
theorem lgR_len (n k i : Nat) : (lgR n k i).length = n := by simp [lgR]
theorem lgA_len (n k : Nat) : (lgA n k).length = n := by simp [lgA]
theorem lgA_vm {n k : Nat} (h : LgP n k) : VM (lgA n k) = true ∧ wd (lgA n k) = n ∧ IM (lgA n k) := vm_of h.n1 h.n60 (lgR_len n k) fun i y hy => by
 obtain ⟨j, _, rfl⟩ := List.mem_map.1 hy
 exact lgx_vn h i j
theorem lgA_sq {n k : Nat} (h : LgP n k) : sqb (lgA n k) = true := by
 unfold sqb
 rw [Bool.or_eq_true]; right
 exact decide_eq_true (by rw [(lgA_vm h).2.1, lgA_len])
theorem ent_map {n i j : Nat} {f : Nat → List NM} {g : Nat → NM} (hi : i < n) (hf : f i = (List.range n).map g) (hj : j < n) : ent (vM ((List.range n).map fun i => ((1 : Nat), f i))) i j = nq (g j) := by
 unfold ent vM
 rw [mapD (f := fun r : M1 => r.2.map nq) (by simp; exact hi), range_getD hi]
 show ((f i).map nq).getD j default = _
 rw [hf, mapD (by simp; exact hj), range_getD hj]
theorem lgA_ent {n k i j : Nat} (E : Nat → Nat → Rat) (hi : i < n) (hj : j < n) : ent (vM (lgA n k)) i j = lgF n (k : Rat) E 0 i j := by
 unfold lgA
 rw [ent_map hi rfl hj]
 rw [lgF0 hj]
 unfold lgx
 by_cases h1 : j = i
 ·rw [if_pos h1, if_pos h1, if_neg (by omega), nq_int, Rat.intCast_natCast]; grind
 ·rw [if_neg h1, if_neg h1]
  by_cases h2 : j = i + 1
  ·rw [if_pos h2, if_pos h2, nq_int, Rat.intCast_neg, Rat.intCast_natCast]; grind
  ·rw [if_neg h2, if_neg h2, nq_int]
   show (0 : Rat) = 0 - 0
   grind
theorem lgA_wid {n k : Nat} (h : LgP n k) : Wid n (vM (lgA n k)) := by
 have := vM_wid (lgA_vm h).1
 rwa [(lgA_vm h).2.1] at this
theorem lgM_len (n k : Nat) : (vM (lgA n k)).length = n := by rw [vM_len, lgA_len]
theorem lg1 {n k : Nat} (h : LgP n k) : (gjn (vM (lgA n k)) n).2.length = n ∧ gjd (vM (lgA n k)) n = (k : Rat) ^ n := by
 obtain ⟨h1, _, h3⟩ := lg_all (m := 0) (E := fun _ _ => 0) (lgM_len n k) (lgA_wid h) h.kne (fun i j hi hj => lgA_ent _ hi (by omega)) n (Nat.le_refl _)
 exact ⟨h1, h3⟩
theorem lg1_GB {n k : Nat} (h : LgP n k) : GB (vM (lgA n k)) n 10 :=
 lg_GB (m := 0) (E := fun _ _ => 0) (lgM_len n k) (lgA_wid h) h.kne h.k9 h.n60 (fun i j hi hj => lgA_ent _ hi (by omega)) (fun c i j _ _ hj => absurd hj (by omega))
theorem lg_rank {n k : Nat} (h : LgP n k) : lvRank (lgA n k) = .tup [.v (.int .i64 (n : Int)), .v (.int .i64 0)] := by
 obtain ⟨h1, h2, _⟩ := lgA_vm h
 unfold lvRank rk
 rw [if_pos h1, if_pos h1, h2, (lg1 h).1]
theorem lg_det {n k : Nat} (h : LgP n k) : lvDet (lgA n k) = lvO (outN ((k : Rat) ^ n)) := by
 rw [lvDet_ok (lgA_vm h).1 (lgA_sq h)]
 unfold detV
 rw [lgA_len, (lg1 h).1, if_neg (by omega), (lg1 h).2]
def eU (i j : Nat) : Rat := if i = j then 1 else 0
theorem lgU_ent {n k i j : Nat} (h : LgP n k) (hi : i < n) (hj : j < n + n) : ent (wU (vM (lgA n k))) i j = lgF n (k : Rat) eU 0 i j := by
 by_cases h1 : j < n
 ·rw [ent_wU (lgA_wid h) (by rw [lgM_len]; exact hi) h1, lgA_ent eU hi h1]
 ·rw [show j = n + (j - n) by omega, ent_wU2 (lgA_wid h) (by rw [lgM_len]; exact hi) (by rw [lgM_len]; omega), lgF1 (by omega), show n + (j - n) - n = j - n by omega]; rfl
theorem lgU_wid {n k : Nat} (h : LgP n k) : Wid (n + n) (wU (vM (lgA n k))) := wU_wid2 (lgM_len n k) (lgA_wid h)
theorem lgU_sum (c i j : Nat) : sm (fun t => if i ≤ t then eU t j else 0) c = if i ≤ j ∧ j < c then 1 else 0 := by
 by_cases h : j < c
 ·rw [sm_delta (j := j) c h fun t ht hne => by
   split
   ·exact if_neg hne
   ·rfl]
  by_cases h2 : i ≤ j
  ·rw [if_pos h2, if_pos ⟨h2, h⟩]; exact if_pos rfl
  ·rw [if_neg h2, if_neg (fun hc => h2 hc.1)]
 ·rw [if_neg (fun hc => h hc.2)]
  refine (sm_congr c fun t ht => ?_).trans (sm_zero c)
  split
  ·exact if_neg (by omega)
  ·rfl
theorem lgU_bd {n k : Nat} (h : LgP n k) : ∀ c i j, c ≤ n → i < n → j < n → Bd 10 (lgF n (k : Rat) eU c i (n + j)) := by
 intro c i j hc hi hj
 have hk : Bd 2 (k : Rat) := by
  have := Bd_int (z := (k : Int)) (by have := h.k9; omega)
  rwa [Rat.intCast_natCast] at this
 have hd := Bd1.div hk h.kne
 have hx : ∀ b : Bool, Bd 1 (if b = true then (1 : Rat) else 0) := fun b => by cases b; exact Bd0 (by decide); exact Bd1
 unfold lgF
 rw [if_neg (by omega), show n + j - n = j by omega]
 split
 ·rw [lgU_sum]
  have := hd.mul (hx (decide (i ≤ j ∧ j < c)))
  simp only [decide_eq_true_eq] at this
  exact this.mono (by decide)
 ·have := hx (decide (i = j))
  simp only [decide_eq_true_eq] at this
  exact this.mono (by decide)
theorem lgU_GB {n k : Nat} (h : LgP n k) : GB (wU (vM (lgA n k))) n 10 :=
 lg_GB (m := n) (E := eU) (by rw [wU_len, lgM_len]) (lgU_wid h) h.kne h.k9 h.n60 (fun i j hi hj => lgU_ent h hi hj) (lgU_bd h)
theorem lgI_len (n k i : Nat) : (lgI n k i).length = n := by simp [lgI]
theorem lgB_len (n k : Nat) : (lgB n k).length = n := by simp [lgB]
theorem lgB_vm {n k : Nat} (h : LgP n k) : VM (lgB n k) = true ∧ wd (lgB n k) = n ∧ IM (lgB n k) := vm_of h.n1 h.n60 (lgI_len n k) fun i y hy => by
 obtain ⟨j, _, rfl⟩ := List.mem_map.1 hy
 exact lgy_vn h i j
theorem lg_invR {n k : Nat} (h : LgP n k) : invR (vM (lgA n k)) n = vM (lgB n k) := by
 obtain ⟨_, h2, _⟩ := lg_all (m := n) (E := eU) (by rw [wU_len, lgM_len]) (lgU_wid h) h.kne (fun i j hi hj => lgU_ent h hi hj) n (Nat.le_refl _)
 have hw : Wid n (vM (lgB n k)) := by
  have := vM_wid (lgB_vm h).1
  rwa [(lgB_vm h).2.1] at this
 refine rows_ext (by rw [inv_len (lgM_len n k), vM_len, lgB_len]) (inv_wid (lgM_len n k) (lgA_wid h)) hw fun i j hi hj => ?_
 rw [inv_len (lgM_len n k)] at hi
 unfold invR
 rw [ent_drop (by rw [gjn_len, wU_len, lgM_len]; exact hi), h2 i (n + j) hi (by omega)]
 unfold lgB
 rw [ent_map hi rfl hj]
 unfold lgF lgy
 rw [if_neg (by omega), if_pos hi, show n + j - n = j by omega, lgU_sum]
 by_cases h3 : i ≤ j
 ·rw [if_pos ⟨h3, hj⟩, if_pos h3]
  show 1 / (k : Rat) * 1 = Rat.divInt 1 (k : Int)
  rw [Rat.divInt_eq_div, Rat.intCast_natCast]
  show 1 / (k : Rat) * 1 = 1 / (k : Rat)
  grind
 ·rw [if_neg (fun hc => h3 hc.1), if_neg h3, nq_int]
  show 1 / (k : Rat) * 0 = 0
  grind
theorem lg_inv {n k : Nat} (h : LgP n k) : inve (lgA n k) = 0 ∧ inv1 (lgA n k) = lgB n k := by
 obtain ⟨v1, v2, _⟩ := lgA_vm h
 have hs := lgA_sq h
 have hlead : (invS (lgA n k)).2 = (gjn (vM (lgA n k)) n).2 := by
  have := inv_lead (lgM_len n k) (lgA_wid h)
  unfold invS
  rw [lgA_len]; exact this
 have hrk : ¬ (invS (lgA n k)).2.length < (lgA n k).length := by rw [hlead, (lg1 h).1, lgA_len]; omega
 have ho : invO (lgA n k) = some ((List.range n).map (lgI n k)) := by
  unfold invO
  rw [inv_S, lgA_len, lg_invR h]
  have := outm_nq (M := (List.range n).map (lgI n k)) (fun m hm y hy => by
   obtain ⟨i, _, rfl⟩ := List.mem_map.1 hm
   obtain ⟨j, _, rfl⟩ := List.mem_map.1 hy
   exact lgy_vn h i j)
  rw [List.map_map] at this
  unfold vM lgB
  rw [List.map_map]
  exact this
 refine ⟨?_, ?_⟩
 ·unfold inve
  rw [v1, hs, if_neg (by decide), if_neg (by decide), if_neg hrk, ho]; rfl
 ·have hok : invOk (lgA n k) = true := by unfold invOk; rw [v1, hs, decide_eq_false hrk]; rfl
  unfold inv1
  rw [if_pos hok, ho]
  show ((List.range n).map (lgI n k)).map kM = lgB n k
  unfold lgB
  rw [List.map_map]
  refine List.map_congr_left fun i _ => ?_
  show ((kd (lgI n k i).length, lgI n k i) : M1) = (1, lgI n k i)
  have := h.n1
  rw [lgI_len, kd, if_neg (by omega)]
def eK (k : Rat) (_ _ : Nat) : Rat := k
theorem lgK_sum (k : Rat) (i : Nat) : ∀ c, sm (fun t => if i ≤ t then k else 0) c = (((c : Int) - (i : Int) : Int) : Rat) * k ∨ c ≤ i ∧ sm (fun t => if i ≤ t then k else 0) c = 0
 | 0 => .inr ⟨Nat.zero_le _, rfl⟩
 | c + 1 => by
  rw [sm]
  rcases lgK_sum k i c with h | ⟨h1, h2⟩
  ·by_cases e : i ≤ c
   ·left
    rw [if_pos e, h, show (((c + 1 : Nat) : Int) - (i : Int)) = ((c : Int) - (i : Int)) + 1 by omega, Rat.intCast_add]
    show _ = (_ + 1) * k
    grind
   ·right
    refine ⟨by omega, ?_⟩
    rw [if_neg e]
    have : sm (fun t => if i ≤ t then k else 0) c = 0 := (sm_congr c fun t ht => if_neg (by omega)).trans (sm_zero c)
    rw [this]; grind
  ·by_cases e : i ≤ c
   ·left
    rw [if_pos e, h2, show (((c + 1 : Nat) : Int) - (i : Int)) = 1 by omega]
    show 0 + k = 1 * k
    grind
   ·right
    refine ⟨by omega, ?_⟩
    rw [if_neg e, h2]; grind
theorem lgK_val {n c i : Nat} {k : Rat} (hk : k ≠ 0) (hi : i < c) : lgF n k (eK k) c i n = (((c : Int) - (i : Int) : Int) : Rat) := by
 unfold lgF
 rw [if_neg (by omega), if_pos hi]
 show 1 / k * sm (fun t => if i ≤ t then k else 0) c = _
 rcases lgK_sum k i c with h | ⟨h1, _⟩
 ·rw [h]; grind
 ·omega
theorem lgb_get {n k i : Nat} (hi : i < n) : ((lgb n k).map nq).getD i default = (k : Rat) := by
 unfold lgb
 rw [mapD (by simp; exact hi), range_getD hi, nq_int, Rat.intCast_natCast]
theorem lgb_len (n k : Nat) : (lgb n k).length = n := by simp [lgb]
theorem lgK_ent {n k i j : Nat} (h : LgP n k) (hi : i < n) (hj : j < n + 1) : ent (wR (vM (lgA n k)) ((lgb n k).map nq)) i j = lgF n (k : Rat) (eK k) 0 i j := by
 by_cases h1 : j < n
 ·rw [ent_wR (lgA_wid h) (by rw [lgM_len]; exact hi) h1, lgA_ent (eK k) hi h1]
 ·rw [show j = n by omega, ent_wR_last (lgA_wid h) (by rw [lgM_len]; exact hi), lgb_get hi, lgF1 (by omega)]; rfl
theorem lgK_wid {n k : Nat} (h : LgP n k) : Wid (n + 1) (wR (vM (lgA n k)) ((lgb n k).map nq)) := wR_wid (lgA_wid h)
theorem lgK_GB {n k : Nat} (h : LgP n k) : GB (wR (vM (lgA n k)) ((lgb n k).map nq)) n 10 :=
 lg_GB (m := 1) (E := eK k) (by rw [wR_len, lgM_len]) (lgK_wid h) h.kne h.k9 h.n60 (fun i j hi hj => lgK_ent h hi hj) fun c i j hc hi hj => by
  obtain rfl : j = 0 := by omega
  by_cases e : i < c
  ·rw [Nat.add_zero, lgK_val h.kne e]
   have := h.n60
   exact (Bd_int (by omega)).mono (by decide)
  ·have : lgF n (k : Rat) (eK k) c i (n + 0) = ((k : Int) : Rat) := by
    unfold lgF
    rw [if_neg (by omega), if_neg e, Rat.intCast_natCast]; rfl
   rw [this]
   have := h.k9
   exact (Bd_int (by omega)).mono (by decide)
theorem lgb_vv {n k : Nat} (h : LgP n k) : VV (lgb n k) = true ∧ IV (lgb n k) := by
 have := h.k9
 have := h.n60
 have hv : ∀ y, y ∈ lgb n k → VN y := fun y hy => by
  obtain ⟨i, _, rfl⟩ := List.mem_map.1 hy
  exact vn_int (by omega)
 refine ⟨?_, fun y hy => (hv y hy).i64⟩
 unfold VV
 rw [Bool.and_eq_true]
 exact ⟨decide_eq_true (by rw [lgb_len]; omega), List.all_eq_true.2 fun y hy => decide_eq_true (hv y hy)⟩
theorem lg_sol {n k : Nat} (h : LgP n k) : sle (lgA n k) (lgb n k) = 0 ∧ sln (lgA n k) (lgb n k) = 1 ∧ sll (lgA n k) (lgb n k) = lgw n := by
 obtain ⟨v1, v2, _⟩ := lgA_vm h
 obtain ⟨b1, _⟩ := lgb_vv h
 obtain ⟨h1, h2, _⟩ := lg_all (m := 1) (E := eK k) (by rw [wR_len, lgM_len]) (lgK_wid h) h.kne (fun i j hi hj => lgK_ent h hi hj) n (Nat.le_refl _)
 have hR := gjn_RI (lgK_wid h) n (by omega)
 have hgl : (solS (lgA n k) (lgb n k)).1.length = n := by unfold solS; rw [gjn_len, wR_len, lgM_len]
 have e : solS (lgA n k) (lgb n k) = gjn (wR (vM (lgA n k)) ((lgb n k).map nq)) n := by unfold solS; rw [v2]
 have hns : nosol (solS (lgA n k) (lgb n k)) (wd (lgA n k)) = false := by
  rw [v2]
  exact nosol_no (by rw [hgl, e]; omega) (fun i h3 h4 => by rw [e] at h3; omega)
 have hlw : (lgw n).length = n := by simp [lgw]
 have hso : solO (lgA n k) (lgb n k) = some (lgw n) := by
  unfold solO
  rw [v2, e]
  have hs : solv (gjn (wR (vM (lgA n k)) ((lgb n k).map nq)) n) n (gjn (wR (vM (lgA n k)) ((lgb n k).map nq)) n).2.length = (lgw n).map nq := by
   refine list_eq (by rw [solv_len, List.length_map, hlw]) fun j hj => ?_
   rw [solv_len] at hj
   rw [solv_getD hR.mono hR.lt _ (Nat.le_refl _) j hj, h1]
   rw [sm_delta (j := j) n hj fun t ht hne => if_neg (by
    have k1 := hR.ge t (by omega)
    have k2 := hR.le _ t (by omega) rfl
    omega)]
   have k1 := hR.ge j (by omega)
   have k2 := hR.le _ j (by omega) rfl
   rw [if_pos (by omega), h2 j n hj (by omega), lgK_val h.kne hj]
   unfold lgw
   rw [mapD (by simp; exact hj), range_getD hj, nq_int]
  rw [hs]
  refine outs_nq fun y hy => ?_
  obtain ⟨i, hi, rfl⟩ := List.mem_map.1 hy
  have := List.mem_range.1 hi
  have := h.n60
  exact vn_int (by omega)
 have hok : solOk (lgA n k) (lgb n k) = true := by
  unfold solOk
  rw [v1, b1, hns, hso, lgA_len, lgb_len]; simp
 refine ⟨?_, ?_, ?_⟩
 ·unfold sle
  rw [v1, b1, hns, hso, lgA_len, lgb_len]; simp
 ·unfold sln solk
  rw [if_pos hok, e, v2, h1, if_neg (by omega)]
 ·unfold sll
  rw [if_pos hok, hso]; rfl
end Go.Ab
set_option linter.unusedVariables false
set_option linter.unusedSimpArgs false
namespace Go.Ab
open Go.RowKit
theorem subsM_outH {q sz : Nat} {el : TypeId} {us : List (List LV)} {h H : Hp} (hq : us ≠ [] → getH H q = some { cells := us.flatten, sz := sz, elem := el, st := 0 }) (hs : subsM h H) : subsM (outH q sz el us h) H := by
 cases us with
 | nil => exact hs
 | cons u us => exact ⟨hq (by simp), hs⟩
section
variable {P : Program} {T : TT} {E : TypeId → Bool} {N : Nat} {e : Env} {h : Hp} {K : Env → Hp → Prop}
variable {dst : Option Tmp} {ty : TypeId} {pos : String} {af : Array Edge} {g : Option (Nat × Bool)} {id : Nat} {x y : Operand} {bt : TypeId} {ti : TI}
theorem Fz.env1 {q sz el t m : Nat} {us : List (List LV)} (a : Env) (h2 : Hp) (hs : subs a e) (ht : e.get t = some (.ref q sz 0 m)) (hm : m = us.length) (hget : getH h q = some { cells := us.flatten, sz := sz, elem := el, st := 0 }) (hn : getH h2 q = none) (hle : subsM h2 h) (h0 : 0 < sz) (hl : ∀ row, row ∈ us → row.length = sz) (hd : ∀ row, row ∈ us → ∀ c, c ∈ row → Data c)
  (k : K ((t, .sl 1 us) :: a) h2) : Fz N e h K := by
 subst hm
 refine Fz.one us ((t, .sl 1 us) :: a) h2 hget (by show (0 : Nat) ≠ 2; decide) rfl h0 rfl hl hd (fun t' l2 h3 => ?_) (fun r o2 hr => ?_) k
 ·by_cases e1 : t = t'
  ·subst e1
   have h4 : (Env.get ((t, LV.sl 1 us) :: a) t) = some (LV.sl 1 us) := by simp [Env.get]
   rw [h4] at h3; cases h3
   exact ⟨_, ht, .inr ⟨rfl, rfl⟩⟩
  ·have h4 : (Env.get ((t, LV.sl 1 us) :: a) t') = Env.get a t' := by
    have e3 : Nat.beq t t' = false := Bool.eq_false_iff.2 fun h => e1 (Nat.eq_of_beq_eq_true h)
    simp [Env.get, e3]
   rw [h4] at h3
   exact ⟨l2, hs.get t' l2 h3, .inl rfl⟩
 ·refine ⟨fun hc => ?_, o2, hle.get r o2 hr, rfl, rfl, fun i c c2 hc hc2 => .inl (by rw [hc] at hc2; exact (Option.some.inj hc2).symm)⟩
  rw [hc, hn] at hr; cases hr
theorem put_f0 {us : List NM} {j : Nat} (v : Int) (hj : j < us.length) : putCells (us.map mc).flatten (j * 2) [.v (.int .i64 v)] = some ((us.set j (v, (us.getD j default).2)).map mc).flatten := by
 have h1 := put_flat (f := mc) (sz := 2) (fun _ => rfl) us j (v, (us.getD j default).2) hj
 have h2 := drop_flat (f := mc) (sz := 2) (fun _ => rfl) us j hj
 rw [← h1]
 have hlen : (us.map mc).flatten.length = us.length * 2 := by
  rw [flatten_len (sz := 2) (fun row hrow => by obtain ⟨a, _, rfl⟩ := List.mem_map.1 hrow; rfl)]; simp
 have e1 : (us.map mc).flatten.drop (j * 2 + 1) = .v (.int .i64 (us.getD j default).2) :: (us.map mc).flatten.drop (j * 2 + 2) := by
  rw [← List.drop_drop, ← List.drop_drop, h2]
  rfl
 unfold putCells
 rw [if_pos (by rw [hlen]; show j * 2 + 1 ≤ _; omega), if_pos (by rw [hlen]; show j * 2 + 2 ≤ _; omega)]
 show some (_ ++ ([LV.v (.int .i64 v)] ++ (us.map mc).flatten.drop (j * 2 + 1))) = some (_ ++ ([LV.v (.int .i64 v), .v (.int .i64 (us.getD j default).2)] ++ (us.map mc).flatten.drop (j * 2 + 2)))
 rw [e1]; rfl
theorem oStF0 {us : List NM} {r j : Nat} {v : Int} {el : TypeId} (hx : evE e x = some (.ptr r ((0 + j) * 2 + 0))) (hy : evE e y = some (.v (.int .i64 v))) (hE : T bt = some ti) (hr : getH h r = some { cells := (us.map mc).flatten, sz := 2, elem := el, st := 0 }) (hz : 1 = ti.size) (hj : j < us.length) :
  OP P T E ⟨dst, .store bt x y, ty, pos, af, g⟩ id e h (.v undef) [(r, { cells := ((us.set j (v, (us.getD j default).2)).map mc).flatten, sz := 2, elem := el, st := 0 })] [r] := oSt hx hy hE hr rfl rfl hz (by rw [Nat.zero_add, Nat.add_zero]; exact put_f0 v hj)
end
def pA (m k i : Nat) : List M1 := (List.range i).map fun i => ((1 : Nat), lgR m k i)
def pB (m k i : Nat) : List M1 := (List.range i).map fun i => ((1 : Nat), lgI m k i)
def pR (k i : Nat) : List NM := (List.range i).map fun _ => ((k : Int), 1)
def pS (m i : Nat) : List NM := (List.range i).map fun i : Nat => (((m : Int) - (i : Int), 1) : NM)
theorem pA_succ (m k i : Nat) : pA m k (i + 1) = pA m k i ++ [((1 : Nat), lgR m k i)] := by unfold pA; rw [List.range_succ, List.map_append]; rfl
theorem pB_succ (m k i : Nat) : pB m k (i + 1) = pB m k i ++ [((1 : Nat), lgI m k i)] := by unfold pB; rw [List.range_succ, List.map_append]; rfl
theorem pR_succ (k i : Nat) : pR k (i + 1) = pR k i ++ [((k : Int), 1)] := by unfold pR; rw [List.range_succ, List.map_append]; rfl
theorem pS_succ (m i : Nat) : pS m (i + 1) = pS m i ++ [(((m : Int) - (i : Int), 1) : NM)] := by unfold pS; rw [List.range_succ, List.map_append]; rfl
theorem pA_len (m k i : Nat) : (pA m k i).length = i := by simp [pA]
theorem pB_len (m k i : Nat) : (pB m k i).length = i := by simp [pB]
theorem pR_len (k i : Nat) : (pR k i).length = i := by simp [pR]
theorem pS_len (m i : Nat) : (pS m i).length = i := by simp [pS]
theorem lg_row1 {m k i : Nat} {us : List NM} (hl : us.length = m) (hi : i < m) (hu : ∀ t, t < m → us.getD t default = (0, 1)) (h1 : ¬ i + 1 < m) : us.set i ((k : Int), (us.getD i default).2) = lgR m k i := by
 refine glist_eq (by rw [List.length_set, lgR_len, hl]) fun t ht => ?_
 rw [List.length_set] at ht
 unfold lgR
 rw [gset_getD ht, range_getD (by omega), hu i hi, hu t (by omega)]
 unfold lgx
 by_cases e : i = t
 ·rw [if_pos e, if_pos e.symm]
 ·rw [if_neg e, if_neg (Ne.symm e), if_neg (by omega)]
theorem lg_row2 {m k i : Nat} {us : List NM} (hl : us.length = m) (hu : ∀ t, t < m → us.getD t default = (0, 1)) (h1 : i + 1 < m) : (us.set i ((k : Int), (us.getD i default).2)).set (i + 1) (-(k : Int), ((us.set i ((k : Int), (us.getD i default).2)).getD (i + 1) default).2) = lgR m k i := by
 refine glist_eq (by rw [List.length_set, List.length_set, lgR_len, hl]) fun t ht => ?_
 rw [List.length_set, List.length_set] at ht
 unfold lgR
 rw [gset_getD (by rw [List.length_set]; exact ht), gset_getD ht, gset_getD (by omega), range_getD (by omega), hu i (by omega), hu t (by omega), hu (i + 1) h1, if_neg (show ¬ i = i + 1 by omega)]
 unfold lgx
 by_cases e : i + 1 = t
 ·rw [if_pos e, if_neg (by omega), if_pos e.symm]
 ·rw [if_neg e]
  by_cases e2 : i = t
  ·rw [if_pos e2, if_pos e2.symm]
  ·rw [if_neg e2, if_neg (Ne.symm e2), if_neg (Ne.symm e)]
theorem lg_inv1 {m k i : Nat} {vs : List NM} (hl : vs.length = m) (hv : ∀ t, t < m → vs.getD t default = lgy k i t) : vs = lgI m k i := by
 refine glist_eq (by rw [lgI_len, hl]) fun t ht => ?_
 unfold lgI
 rw [range_getD (by omega), hv t (by omega)]
theorem pow_big {k n i : Nat} (hk : 1 ≤ k) (hi : i ≤ n) (h : 1152921504606846976 < k ^ i) : outN ((k : Rat) ^ n) = none := by
 have h1 : ((k : Rat) ^ n) = (((k ^ n : Nat) : Int) : Rat) := by rw [Rat.intCast_natCast, Rat.natCast_pow]
 have h2 : k ^ i ≤ k ^ n := Nat.pow_le_pow_right hk hi
 unfold outN
 rw [h1, Rat.num_intCast, if_neg (by omega)]
def nc (v : Int) : List LV := [.v (.int .i64 (na v)), .v (.bool (nn v)), .sl (nk v) ((ndg v).map d64)]
theorem lvQ_pow (k n : Nat) : LV.agg (nc ((k ^ n : Nat) : Int) ++ nc 1) = lvQ ((k : Rat) ^ n) := by
 have h1 : ((k : Rat) ^ n) = (((k ^ n : Nat) : Int) : Rat) := by rw [Rat.intCast_natCast, Rat.natCast_pow]
 rw [lvQ_eq, h1, Rat.num_intCast, Rat.den_intCast]; rfl
end Go.Ab
set_option linter.unusedVariables false
set_option linter.unusedSimpArgs false
set_option maxRecDepth 100000
namespace Go.Proofs.Ytcmieifjephdcaa
open Go.Ab Go.RowKit
def ti1 : TI := ⟨1, 8, [.nilFunc], .func⟩
def ti2 : TI := ⟨1, 8, [.int .i64 0], (.int .i64)⟩
def ti3 : TI := ⟨1, 8, [.int .i64 0], (.int .i64)⟩
def ti4 : TI := ⟨1, 1, [.bool false], .bool⟩
def ti5 : TI := ⟨1, 1, [.int .u8 0], (.int .u8)⟩
def ti6 : TI := ⟨1, 1, [.int .u8 0], (.int .u8)⟩
def ti7 : TI := ⟨4, 24, [.int .i64 0, .int .i64 0, .bool false, .int .u8 0], (.st [(0, 2), (1, 3), (2, 4), (3, 6)])⟩
def ti8 : TI := ⟨4, 24, [.int .i64 0, .int .i64 0, .bool false, .int .u8 0], (.st [(0, 2), (1, 3), (2, 4), (3, 6)])⟩
def ti9 : TI := ⟨1, 16, [.string ⟨#[]⟩], .str⟩
def ti10 : TI := ⟨1, 16, [.string ⟨#[]⟩], .str⟩
def ti11 : TI := ⟨1, 16, [.string ⟨#[]⟩], .str⟩
def ti12 : TI := ⟨1, 8, [.int .u64 0], (.int .u64)⟩
def ti13 : TI := ⟨2, 24, [.string ⟨#[]⟩, .int .u64 0], (.st [(0, 9), (1, 12)])⟩
def ti14 : TI := ⟨2, 24, [.string ⟨#[]⟩, .int .u64 0], (.st [(0, 9), (1, 12)])⟩
def ti21 : TI := ⟨1, 4, [.int .i32 0], (.int .i32)⟩
def ti22 : TI := ⟨1, 8, [.nilFunc], .func⟩
def ti23 : TI := ⟨1, 24, [.slice none 0 0], (.sl 24)⟩
def ti24 : TI := ⟨1, 24, [.slice none 0 0], (.sl 26)⟩
def ti25 : TI := ⟨2, 16, [.int .i64 0, .int .i64 0], (.st [(0, 3), (1, 3)])⟩
def ti26 : TI := ⟨2, 16, [.int .i64 0, .int .i64 0], (.st [(0, 3), (1, 3)])⟩
def ti27 : TI := ⟨1, 8, [.int .i64 0], (.int .i64)⟩
def ti29 : TI := ⟨1, 8, [.nilFunc], .func⟩
def ti30 : TI := ⟨1, 8, [.nilFunc], .func⟩
def ti32 : TI := ⟨1, 8, [.nilFunc], .func⟩
def ti34 : TI := ⟨1, 8, [.nilFunc], .func⟩
def ti36 : TI := ⟨1, 8, [.nilFunc], .func⟩
def ti37 : TI := ⟨1, 8, [.nilFunc], .func⟩
def ti38 : TI := ⟨1, 8, [.nilFunc], .func⟩
def ti39 : TI := ⟨1, 8, [.nilFunc], .func⟩
def ti40 : TI := ⟨1, 8, [.nilFunc], .func⟩
def ti41 : TI := ⟨1, 8, [.nilFunc], .func⟩
def ti42 : TI := ⟨1, 8, [.nilFunc], .func⟩
def ti43 : TI := ⟨1, 8, [.nilFunc], .func⟩
def ti45 : TI := ⟨1, 8, [.nilFunc], .func⟩
def ti46 : TI := ⟨1, 8, [.nilFunc], .func⟩
def ti47 : TI := ⟨1, 8, [.nilFunc], .func⟩
def ti48 : TI := ⟨1, 8, [.nilFunc], .func⟩
def ti49 : TI := ⟨1, 8, [.nilFunc], .func⟩
def ti50 : TI := ⟨1, 8, [.nilFunc], .func⟩
def ti51 : TI := ⟨1, 8, [.nilFunc], .func⟩
def ti52 : TI := ⟨1, 24, [.slice none 0 0], (.sl 75)⟩
def ti53 : TI := ⟨1, 24, [.slice none 0 0], (.sl 3)⟩
def ti54 : TI := ⟨1, 24, [.slice none 0 0], (.sl 109)⟩
def ti55 : TI := ⟨2, 32, [.int .i64 0, .slice none 0 0], (.st [(0, 3), (1, 54)])⟩
def ti56 : TI := ⟨2, 32, [.int .i64 0, .slice none 0 0], (.st [(0, 3), (1, 54)])⟩
def ti57 : TI := ⟨4, 64, [.int .i64 0, .slice none 0 0, .int .i64 0, .slice none 0 0], (.st [(0, 56), (2, 56)])⟩
def ti58 : TI := ⟨4, 64, [.int .i64 0, .slice none 0 0, .int .i64 0, .slice none 0 0], (.st [(0, 56), (2, 56)])⟩
def ti60 : TI := ⟨1, 8, [.nilFunc], .func⟩
def ti61 : TI := ⟨1, 8, [.nilFunc], .func⟩
def ti62 : TI := ⟨1, 8, [.nilFunc], .func⟩
def ti63 : TI := ⟨1, 8, [.nilFunc], .func⟩
def ti64 : TI := ⟨1, 8, [.nilFunc], .func⟩
def ti65 : TI := ⟨3, 40, [.int .i64 0, .bool false, .slice none 0 0], (.st [(0, 3), (1, 4), (2, 53)])⟩
def ti66 : TI := ⟨3, 40, [.int .i64 0, .bool false, .slice none 0 0], (.st [(0, 3), (1, 4), (2, 53)])⟩
def ti67 : TI := ⟨1, 8, [.nilFunc], .func⟩
def ti68 : TI := ⟨1, 8, [.nilFunc], .func⟩
def ti70 : TI := ⟨1, 8, [.nilFunc], .func⟩
def ti71 : TI := ⟨1, 8, [.nilFunc], .func⟩
def ti72 : TI := ⟨6, 80, [.int .i64 0, .bool false, .slice none 0 0, .int .i64 0, .bool false, .slice none 0 0], (.st [(0, 66), (3, 66)])⟩
def ti73 : TI := ⟨6, 80, [.int .i64 0, .bool false, .slice none 0 0, .int .i64 0, .bool false, .slice none 0 0], (.st [(0, 66), (3, 66)])⟩
def ti74 : TI := ⟨1, 8, [.nilFunc], .func⟩
def ti75 : TI := ⟨1, 24, [.slice none 0 0], (.sl 58)⟩
def ti76 : TI := ⟨1, 8, [.nilFunc], .func⟩
def ti77 : TI := ⟨1, 8, [.nilFunc], .func⟩
def ti78 : TI := ⟨1, 8, [.nilFunc], .func⟩
def ti80 : TI := ⟨1, 8, [.nilFunc], .func⟩
def ti81 : TI := ⟨1, 8, [.nilFunc], .func⟩
def ti82 : TI := ⟨1, 8, [.nilFunc], .func⟩
def ti83 : TI := ⟨1, 24, [.slice none 0 0], (.sl 23)⟩
def ti84 : TI := ⟨1, 8, [.nilFunc], .func⟩
def ti85 : TI := ⟨1, 8, [.nilFunc], .func⟩
def ti86 : TI := ⟨1, 8, [.nilFunc], .func⟩
def ti87 : TI := ⟨1, 8, [.nilFunc], .func⟩
def ti88 : TI := ⟨1, 8, [.int .u64 0], (.int .u64)⟩
def ti89 : TI := ⟨1, 8, [.nilFunc], .func⟩
def ti90 : TI := ⟨1, 8, [.nilFunc], .func⟩
def ti91 : TI := ⟨1, 8, [.nilFunc], .func⟩
def ti92 : TI := ⟨1, 8, [.nilFunc], .func⟩
def ti93 : TI := ⟨1, 8, [.nilFunc], .func⟩
def ti94 : TI := ⟨1, 8, [.nilFunc], .func⟩
def ti95 : TI := ⟨1, 8, [.nilFunc], .func⟩
def ti96 : TI := ⟨1, 8, [.nilFunc], .func⟩
def ti97 : TI := ⟨1, 8, [.nilFunc], .func⟩
def ti98 : TI := ⟨1, 8, [.nilFunc], .func⟩
def ti99 : TI := ⟨1, 8, [.nilFunc], .func⟩
def ti100 : TI := ⟨1, 8, [.nilFunc], .func⟩
def ti101 : TI := ⟨1, 8, [.nilFunc], .func⟩
def ti102 : TI := ⟨1, 8, [.nilFunc], .func⟩
def ti104 : TI := ⟨1, 8, [.nilFunc], .func⟩
def ti105 : TI := ⟨1, 8, [.nilFunc], .func⟩
def ti106 : TI := ⟨1, 8, [.nilFunc], .func⟩
def ti107 : TI := ⟨1, 8, [.nilFunc], .func⟩
def ti108 : TI := ⟨1, 8, [.nilFunc], .func⟩
def ti109 : TI := ⟨1, 4, [.int .u32 0], (.int .u32)⟩
def ti110 : TI := ⟨1, 8, [.nilFunc], .func⟩
def ti111 : TI := ⟨1, 8, [.int .u64 0], (.int .u64)⟩
def ti112 : TI := ⟨1, 8, [.nilFunc], .func⟩
def ti113 : TI := ⟨1, 8, [.nilFunc], .func⟩
def ti114 : TI := ⟨1, 8, [.nilFunc], .func⟩
def ti116 : TI := ⟨1, 8, [.nilFunc], .func⟩
def ti117 : TI := ⟨1, 8, [.nilFunc], .func⟩
def ti118 : TI := ⟨1, 8, [.nilFunc], .func⟩
def ti119 : TI := ⟨1, 8, [.nilFunc], .func⟩
def ti121 : TI := ⟨1, 8, [.nilFunc], .func⟩
def ti123 : TI := ⟨1, 8, [.nilFunc], .func⟩
def ti124 : TI := ⟨1, 8, [.nilFunc], .func⟩
def ti126 : TI := ⟨1, 8, [.nilFunc], .func⟩
def ti128 : TI := ⟨1, 8, [.nilFunc], .func⟩
def ti129 : TI := ⟨1, 8, [.nilFunc], .func⟩
def ti130 : TI := ⟨1, 8, [.nilFunc], .func⟩
def ti131 : TI := ⟨1, 8, [.nilFunc], .func⟩
def ti132 : TI := ⟨1, 8, [.nilFunc], .func⟩
def ti134 : TI := ⟨1, 8, [.nilFunc], .func⟩
def ti136 : TI := ⟨1, 8, [.nilFunc], .func⟩
def ti138 : TI := ⟨1, 8, [.nilFunc], .func⟩
def ti139 : TI := ⟨1, 8, [.nilFunc], .func⟩
def ti140 : TI := ⟨1, 8, [.nilFunc], .func⟩
def ti141 : TI := ⟨1, 8, [.nilFunc], .func⟩
def ti142 : TI := ⟨1, 8, [.nilFunc], .func⟩
def ti144 : TI := ⟨1, 8, [.nilFunc], .func⟩
def ti145 : TI := ⟨1, 8, [.nilFunc], .func⟩
def ti149 : TI := ⟨1, 8, [.nilFunc], .func⟩
def ti155 : TI := ⟨1, 1, [.int .u8 0], (.int .u8)⟩
def ti156 : TI := ⟨1, 1, [.int .u8 0], (.int .u8)⟩
def ti157 : TI := ⟨1, 8, [.nilFunc], .func⟩
def ti159 : TI := ⟨1, 4, [.int .i32 0], (.int .i32)⟩
def ti160 : TI := ⟨1, 4, [.int .i32 0], (.int .i32)⟩
def ti163 : TI := ⟨1, 16, [.string ⟨#[]⟩], (.st [(0, 9)])⟩
def ti164 : TI := ⟨1, 16, [.string ⟨#[]⟩], (.st [(0, 9)])⟩
theorem tok1 : TypeOk Try.prog 1 ti1 := typeOk_of (z := (.nilFunc)) (by kernel_rfl) rfl Try.underlying1 ⟨_, _, _, rfl⟩ rfl (by decide)
theorem tok2 : TypeOk Try.prog 2 ti2 := typeOk_of (z := (.int .i64 0)) (by kernel_rfl) rfl Try.underlying2 rfl rfl (by decide)
theorem tok3 : TypeOk Try.prog 3 ti3 := typeOk_of (z := (.int .i64 0)) (by kernel_rfl) rfl Try.underlying3 rfl rfl (by decide)
theorem tok4 : TypeOk Try.prog 4 ti4 := typeOk_of (z := (.bool false)) (by kernel_rfl) rfl Try.underlying4 rfl rfl (by decide)
theorem tok5 : TypeOk Try.prog 5 ti5 := typeOk_of (z := (.int .u8 0)) (by kernel_rfl) rfl Try.underlying5 rfl rfl (by decide)
theorem tok6 : TypeOk Try.prog 6 ti6 := typeOk_of (z := (.int .u8 0)) (by kernel_rfl) rfl Try.underlying6 rfl rfl (by decide)
theorem tok7 : TypeOk Try.prog 7 ti7 := typeOk_of (z := (.agg #[.int .i64 0, .int .i64 0, .bool false, .int .u8 0])) (by kernel_rfl) rfl Try.underlying7 ⟨_, rfl, rfl⟩ rfl (by decide)
theorem tok8 : TypeOk Try.prog 8 ti8 := typeOk_of (z := (.agg #[.int .i64 0, .int .i64 0, .bool false, .int .u8 0])) (by kernel_rfl) rfl Try.underlying8 ⟨_, rfl, rfl⟩ rfl (by decide)
theorem tok9 : TypeOk Try.prog 9 ti9 := typeOk_of (z := (.string ⟨#[]⟩)) (by kernel_rfl) rfl Try.underlying9 rfl rfl (by decide)
theorem tok10 : TypeOk Try.prog 10 ti10 := typeOk_of (z := (.string ⟨#[]⟩)) (by kernel_rfl) rfl Try.underlying10 rfl rfl (by decide)
theorem tok11 : TypeOk Try.prog 11 ti11 := typeOk_of (z := (.string ⟨#[]⟩)) (by kernel_rfl) rfl Try.underlying11 rfl rfl (by decide)
theorem tok12 : TypeOk Try.prog 12 ti12 := typeOk_of (z := (.int .u64 0)) (by kernel_rfl) rfl Try.underlying12 rfl rfl (by decide)
theorem tok13 : TypeOk Try.prog 13 ti13 := typeOk_of (z := (.agg #[.string ⟨#[]⟩, .int .u64 0])) (by kernel_rfl) rfl Try.underlying13 ⟨_, rfl, rfl⟩ rfl (by decide)
theorem tok14 : TypeOk Try.prog 14 ti14 := typeOk_of (z := (.agg #[.string ⟨#[]⟩, .int .u64 0])) (by kernel_rfl) rfl Try.underlying14 ⟨_, rfl, rfl⟩ rfl (by decide)
theorem tok21 : TypeOk Try.prog 21 ti21 := typeOk_of (z := (.int .i32 0)) (by kernel_rfl) rfl Try.underlying21 rfl rfl (by decide)
theorem tok22 : TypeOk Try.prog 22 ti22 := typeOk_of (z := (.nilFunc)) (by kernel_rfl) rfl Try.underlying22 ⟨_, _, _, rfl⟩ rfl (by decide)
theorem tok23 : TypeOk Try.prog 23 ti23 := typeOk_of (z := (.slice none 0 0)) (by kernel_rfl) rfl Try.underlying23 rfl rfl (by decide)
theorem tok24 : TypeOk Try.prog 24 ti24 := typeOk_of (z := (.slice none 0 0)) (by kernel_rfl) rfl Try.underlying24 rfl rfl (by decide)
theorem tok25 : TypeOk Try.prog 25 ti25 := typeOk_of (z := (.agg #[.int .i64 0, .int .i64 0])) (by kernel_rfl) rfl Try.underlying25 ⟨_, rfl, rfl⟩ rfl (by decide)
theorem tok26 : TypeOk Try.prog 26 ti26 := typeOk_of (z := (.agg #[.int .i64 0, .int .i64 0])) (by kernel_rfl) rfl Try.underlying26 ⟨_, rfl, rfl⟩ rfl (by decide)
theorem tok27 : TypeOk Try.prog 27 ti27 := typeOk_of (z := (.int .i64 0)) (by kernel_rfl) rfl Try.underlying27 rfl rfl (by decide)
theorem tok29 : TypeOk Try.prog 29 ti29 := typeOk_of (z := (.nilFunc)) (by kernel_rfl) rfl Try.underlying29 ⟨_, _, _, rfl⟩ rfl (by decide)
theorem tok30 : TypeOk Try.prog 30 ti30 := typeOk_of (z := (.nilFunc)) (by kernel_rfl) rfl Try.underlying30 ⟨_, _, _, rfl⟩ rfl (by decide)
theorem tok32 : TypeOk Try.prog 32 ti32 := typeOk_of (z := (.nilFunc)) (by kernel_rfl) rfl Try.underlying32 ⟨_, _, _, rfl⟩ rfl (by decide)
theorem tok34 : TypeOk Try.prog 34 ti34 := typeOk_of (z := (.nilFunc)) (by kernel_rfl) rfl Try.underlying34 ⟨_, _, _, rfl⟩ rfl (by decide)
theorem tok36 : TypeOk Try.prog 36 ti36 := typeOk_of (z := (.nilFunc)) (by kernel_rfl) rfl Try.underlying36 ⟨_, _, _, rfl⟩ rfl (by decide)
theorem tok37 : TypeOk Try.prog 37 ti37 := typeOk_of (z := (.nilFunc)) (by kernel_rfl) rfl Try.underlying37 ⟨_, _, _, rfl⟩ rfl (by decide)
theorem tok38 : TypeOk Try.prog 38 ti38 := typeOk_of (z := (.nilFunc)) (by kernel_rfl) rfl Try.underlying38 ⟨_, _, _, rfl⟩ rfl (by decide)
theorem tok39 : TypeOk Try.prog 39 ti39 := typeOk_of (z := (.nilFunc)) (by kernel_rfl) rfl Try.underlying39 ⟨_, _, _, rfl⟩ rfl (by decide)
theorem tok40 : TypeOk Try.prog 40 ti40 := typeOk_of (z := (.nilFunc)) (by kernel_rfl) rfl Try.underlying40 ⟨_, _, _, rfl⟩ rfl (by decide)
theorem tok41 : TypeOk Try.prog 41 ti41 := typeOk_of (z := (.nilFunc)) (by kernel_rfl) rfl Try.underlying41 ⟨_, _, _, rfl⟩ rfl (by decide)
theorem tok42 : TypeOk Try.prog 42 ti42 := typeOk_of (z := (.nilFunc)) (by kernel_rfl) rfl Try.underlying42 ⟨_, _, _, rfl⟩ rfl (by decide)
theorem tok43 : TypeOk Try.prog 43 ti43 := typeOk_of (z := (.nilFunc)) (by kernel_rfl) rfl Try.underlying43 ⟨_, _, _, rfl⟩ rfl (by decide)
theorem tok45 : TypeOk Try.prog 45 ti45 := typeOk_of (z := (.nilFunc)) (by kernel_rfl) rfl Try.underlying45 ⟨_, _, _, rfl⟩ rfl (by decide)
theorem tok46 : TypeOk Try.prog 46 ti46 := typeOk_of (z := (.nilFunc)) (by kernel_rfl) rfl Try.underlying46 ⟨_, _, _, rfl⟩ rfl (by decide)
theorem tok47 : TypeOk Try.prog 47 ti47 := typeOk_of (z := (.nilFunc)) (by kernel_rfl) rfl Try.underlying47 ⟨_, _, _, rfl⟩ rfl (by decide)
theorem tok48 : TypeOk Try.prog 48 ti48 := typeOk_of (z := (.nilFunc)) (by kernel_rfl) rfl Try.underlying48 ⟨_, _, _, rfl⟩ rfl (by decide)
theorem tok49 : TypeOk Try.prog 49 ti49 := typeOk_of (z := (.nilFunc)) (by kernel_rfl) rfl Try.underlying49 ⟨_, _, _, rfl⟩ rfl (by decide)
theorem tok50 : TypeOk Try.prog 50 ti50 := typeOk_of (z := (.nilFunc)) (by kernel_rfl) rfl Try.underlying50 ⟨_, _, _, rfl⟩ rfl (by decide)
theorem tok51 : TypeOk Try.prog 51 ti51 := typeOk_of (z := (.nilFunc)) (by kernel_rfl) rfl Try.underlying51 ⟨_, _, _, rfl⟩ rfl (by decide)
theorem tok52 : TypeOk Try.prog 52 ti52 := typeOk_of (z := (.slice none 0 0)) (by kernel_rfl) rfl Try.underlying52 rfl rfl (by decide)
theorem tok53 : TypeOk Try.prog 53 ti53 := typeOk_of (z := (.slice none 0 0)) (by kernel_rfl) rfl Try.underlying53 rfl rfl (by decide)
theorem tok54 : TypeOk Try.prog 54 ti54 := typeOk_of (z := (.slice none 0 0)) (by kernel_rfl) rfl Try.underlying54 rfl rfl (by decide)
theorem tok55 : TypeOk Try.prog 55 ti55 := typeOk_of (z := (.agg #[.int .i64 0, .slice none 0 0])) (by kernel_rfl) rfl Try.underlying55 ⟨_, rfl, rfl⟩ rfl (by decide)
theorem tok56 : TypeOk Try.prog 56 ti56 := typeOk_of (z := (.agg #[.int .i64 0, .slice none 0 0])) (by kernel_rfl) rfl Try.underlying56 ⟨_, rfl, rfl⟩ rfl (by decide)
theorem tok57 : TypeOk Try.prog 57 ti57 := typeOk_of (z := (.agg #[.int .i64 0, .slice none 0 0, .int .i64 0, .slice none 0 0])) (by kernel_rfl) rfl Try.underlying57 ⟨_, rfl, rfl⟩ rfl (by decide)
theorem tok58 : TypeOk Try.prog 58 ti58 := typeOk_of (z := (.agg #[.int .i64 0, .slice none 0 0, .int .i64 0, .slice none 0 0])) (by kernel_rfl) rfl Try.underlying58 ⟨_, rfl, rfl⟩ rfl (by decide)
theorem tok60 : TypeOk Try.prog 60 ti60 := typeOk_of (z := (.nilFunc)) (by kernel_rfl) rfl Try.underlying60 ⟨_, _, _, rfl⟩ rfl (by decide)
theorem tok61 : TypeOk Try.prog 61 ti61 := typeOk_of (z := (.nilFunc)) (by kernel_rfl) rfl Try.underlying61 ⟨_, _, _, rfl⟩ rfl (by decide)
theorem tok62 : TypeOk Try.prog 62 ti62 := typeOk_of (z := (.nilFunc)) (by kernel_rfl) rfl Try.underlying62 ⟨_, _, _, rfl⟩ rfl (by decide)
theorem tok63 : TypeOk Try.prog 63 ti63 := typeOk_of (z := (.nilFunc)) (by kernel_rfl) rfl Try.underlying63 ⟨_, _, _, rfl⟩ rfl (by decide)
theorem tok64 : TypeOk Try.prog 64 ti64 := typeOk_of (z := (.nilFunc)) (by kernel_rfl) rfl Try.underlying64 ⟨_, _, _, rfl⟩ rfl (by decide)
theorem tok65 : TypeOk Try.prog 65 ti65 := typeOk_of (z := (.agg #[.int .i64 0, .bool false, .slice none 0 0])) (by kernel_rfl) rfl Try.underlying65 ⟨_, rfl, rfl⟩ rfl (by decide)
theorem tok66 : TypeOk Try.prog 66 ti66 := typeOk_of (z := (.agg #[.int .i64 0, .bool false, .slice none 0 0])) (by kernel_rfl) rfl Try.underlying66 ⟨_, rfl, rfl⟩ rfl (by decide)
theorem tok67 : TypeOk Try.prog 67 ti67 := typeOk_of (z := (.nilFunc)) (by kernel_rfl) rfl Try.underlying67 ⟨_, _, _, rfl⟩ rfl (by decide)
theorem tok68 : TypeOk Try.prog 68 ti68 := typeOk_of (z := (.nilFunc)) (by kernel_rfl) rfl Try.underlying68 ⟨_, _, _, rfl⟩ rfl (by decide)
theorem tok70 : TypeOk Try.prog 70 ti70 := typeOk_of (z := (.nilFunc)) (by kernel_rfl) rfl Try.underlying70 ⟨_, _, _, rfl⟩ rfl (by decide)
theorem tok71 : TypeOk Try.prog 71 ti71 := typeOk_of (z := (.nilFunc)) (by kernel_rfl) rfl Try.underlying71 ⟨_, _, _, rfl⟩ rfl (by decide)
theorem tok72 : TypeOk Try.prog 72 ti72 := typeOk_of (z := (.agg #[.int .i64 0, .bool false, .slice none 0 0, .int .i64 0, .bool false, .slice none 0 0])) (by kernel_rfl) rfl Try.underlying72 ⟨_, rfl, rfl⟩ rfl (by decide)
theorem tok73 : TypeOk Try.prog 73 ti73 := typeOk_of (z := (.agg #[.int .i64 0, .bool false, .slice none 0 0, .int .i64 0, .bool false, .slice none 0 0])) (by kernel_rfl) rfl Try.underlying73 ⟨_, rfl, rfl⟩ rfl (by decide)
theorem tok74 : TypeOk Try.prog 74 ti74 := typeOk_of (z := (.nilFunc)) (by kernel_rfl) rfl Try.underlying74 ⟨_, _, _, rfl⟩ rfl (by decide)
theorem tok75 : TypeOk Try.prog 75 ti75 := typeOk_of (z := (.slice none 0 0)) (by kernel_rfl) rfl Try.underlying75 rfl rfl (by decide)
theorem tok76 : TypeOk Try.prog 76 ti76 := typeOk_of (z := (.nilFunc)) (by kernel_rfl) rfl Try.underlying76 ⟨_, _, _, rfl⟩ rfl (by decide)
theorem tok77 : TypeOk Try.prog 77 ti77 := typeOk_of (z := (.nilFunc)) (by kernel_rfl) rfl Try.underlying77 ⟨_, _, _, rfl⟩ rfl (by decide)
theorem tok78 : TypeOk Try.prog 78 ti78 := typeOk_of (z := (.nilFunc)) (by kernel_rfl) rfl Try.underlying78 ⟨_, _, _, rfl⟩ rfl (by decide)
theorem tok80 : TypeOk Try.prog 80 ti80 := typeOk_of (z := (.nilFunc)) (by kernel_rfl) rfl Try.underlying80 ⟨_, _, _, rfl⟩ rfl (by decide)
theorem tok81 : TypeOk Try.prog 81 ti81 := typeOk_of (z := (.nilFunc)) (by kernel_rfl) rfl Try.underlying81 ⟨_, _, _, rfl⟩ rfl (by decide)
theorem tok82 : TypeOk Try.prog 82 ti82 := typeOk_of (z := (.nilFunc)) (by kernel_rfl) rfl Try.underlying82 ⟨_, _, _, rfl⟩ rfl (by decide)
theorem tok83 : TypeOk Try.prog 83 ti83 := typeOk_of (z := (.slice none 0 0)) (by kernel_rfl) rfl Try.underlying83 rfl rfl (by decide)
theorem tok84 : TypeOk Try.prog 84 ti84 := typeOk_of (z := (.nilFunc)) (by kernel_rfl) rfl Try.underlying84 ⟨_, _, _, rfl⟩ rfl (by decide)
theorem tok85 : TypeOk Try.prog 85 ti85 := typeOk_of (z := (.nilFunc)) (by kernel_rfl) rfl Try.underlying85 ⟨_, _, _, rfl⟩ rfl (by decide)
theorem tok86 : TypeOk Try.prog 86 ti86 := typeOk_of (z := (.nilFunc)) (by kernel_rfl) rfl Try.underlying86 ⟨_, _, _, rfl⟩ rfl (by decide)
theorem tok87 : TypeOk Try.prog 87 ti87 := typeOk_of (z := (.nilFunc)) (by kernel_rfl) rfl Try.underlying87 ⟨_, _, _, rfl⟩ rfl (by decide)
theorem tok88 : TypeOk Try.prog 88 ti88 := typeOk_of (z := (.int .u64 0)) (by kernel_rfl) rfl Try.underlying88 rfl rfl (by decide)
theorem tok89 : TypeOk Try.prog 89 ti89 := typeOk_of (z := (.nilFunc)) (by kernel_rfl) rfl Try.underlying89 ⟨_, _, _, rfl⟩ rfl (by decide)
theorem tok90 : TypeOk Try.prog 90 ti90 := typeOk_of (z := (.nilFunc)) (by kernel_rfl) rfl Try.underlying90 ⟨_, _, _, rfl⟩ rfl (by decide)
theorem tok91 : TypeOk Try.prog 91 ti91 := typeOk_of (z := (.nilFunc)) (by kernel_rfl) rfl Try.underlying91 ⟨_, _, _, rfl⟩ rfl (by decide)
theorem tok92 : TypeOk Try.prog 92 ti92 := typeOk_of (z := (.nilFunc)) (by kernel_rfl) rfl Try.underlying92 ⟨_, _, _, rfl⟩ rfl (by decide)
theorem tok93 : TypeOk Try.prog 93 ti93 := typeOk_of (z := (.nilFunc)) (by kernel_rfl) rfl Try.underlying93 ⟨_, _, _, rfl⟩ rfl (by decide)
theorem tok94 : TypeOk Try.prog 94 ti94 := typeOk_of (z := (.nilFunc)) (by kernel_rfl) rfl Try.underlying94 ⟨_, _, _, rfl⟩ rfl (by decide)
theorem tok95 : TypeOk Try.prog 95 ti95 := typeOk_of (z := (.nilFunc)) (by kernel_rfl) rfl Try.underlying95 ⟨_, _, _, rfl⟩ rfl (by decide)
theorem tok96 : TypeOk Try.prog 96 ti96 := typeOk_of (z := (.nilFunc)) (by kernel_rfl) rfl Try.underlying96 ⟨_, _, _, rfl⟩ rfl (by decide)
theorem tok97 : TypeOk Try.prog 97 ti97 := typeOk_of (z := (.nilFunc)) (by kernel_rfl) rfl Try.underlying97 ⟨_, _, _, rfl⟩ rfl (by decide)
theorem tok98 : TypeOk Try.prog 98 ti98 := typeOk_of (z := (.nilFunc)) (by kernel_rfl) rfl Try.underlying98 ⟨_, _, _, rfl⟩ rfl (by decide)
theorem tok99 : TypeOk Try.prog 99 ti99 := typeOk_of (z := (.nilFunc)) (by kernel_rfl) rfl Try.underlying99 ⟨_, _, _, rfl⟩ rfl (by decide)
theorem tok100 : TypeOk Try.prog 100 ti100 := typeOk_of (z := (.nilFunc)) (by kernel_rfl) rfl Try.underlying100 ⟨_, _, _, rfl⟩ rfl (by decide)
theorem tok101 : TypeOk Try.prog 101 ti101 := typeOk_of (z := (.nilFunc)) (by kernel_rfl) rfl Try.underlying101 ⟨_, _, _, rfl⟩ rfl (by decide)
theorem tok102 : TypeOk Try.prog 102 ti102 := typeOk_of (z := (.nilFunc)) (by kernel_rfl) rfl Try.underlying102 ⟨_, _, _, rfl⟩ rfl (by decide)
theorem tok104 : TypeOk Try.prog 104 ti104 := typeOk_of (z := (.nilFunc)) (by kernel_rfl) rfl Try.underlying104 ⟨_, _, _, rfl⟩ rfl (by decide)
theorem tok105 : TypeOk Try.prog 105 ti105 := typeOk_of (z := (.nilFunc)) (by kernel_rfl) rfl Try.underlying105 ⟨_, _, _, rfl⟩ rfl (by decide)
theorem tok106 : TypeOk Try.prog 106 ti106 := typeOk_of (z := (.nilFunc)) (by kernel_rfl) rfl Try.underlying106 ⟨_, _, _, rfl⟩ rfl (by decide)
theorem tok107 : TypeOk Try.prog 107 ti107 := typeOk_of (z := (.nilFunc)) (by kernel_rfl) rfl Try.underlying107 ⟨_, _, _, rfl⟩ rfl (by decide)
theorem tok108 : TypeOk Try.prog 108 ti108 := typeOk_of (z := (.nilFunc)) (by kernel_rfl) rfl Try.underlying108 ⟨_, _, _, rfl⟩ rfl (by decide)
theorem tok109 : TypeOk Try.prog 109 ti109 := typeOk_of (z := (.int .u32 0)) (by kernel_rfl) rfl Try.underlying109 rfl rfl (by decide)
theorem tok110 : TypeOk Try.prog 110 ti110 := typeOk_of (z := (.nilFunc)) (by kernel_rfl) rfl Try.underlying110 ⟨_, _, _, rfl⟩ rfl (by decide)
theorem tok111 : TypeOk Try.prog 111 ti111 := typeOk_of (z := (.int .u64 0)) (by kernel_rfl) rfl Try.underlying111 rfl rfl (by decide)
theorem tok112 : TypeOk Try.prog 112 ti112 := typeOk_of (z := (.nilFunc)) (by kernel_rfl) rfl Try.underlying112 ⟨_, _, _, rfl⟩ rfl (by decide)
theorem tok113 : TypeOk Try.prog 113 ti113 := typeOk_of (z := (.nilFunc)) (by kernel_rfl) rfl Try.underlying113 ⟨_, _, _, rfl⟩ rfl (by decide)
theorem tok114 : TypeOk Try.prog 114 ti114 := typeOk_of (z := (.nilFunc)) (by kernel_rfl) rfl Try.underlying114 ⟨_, _, _, rfl⟩ rfl (by decide)
theorem tok116 : TypeOk Try.prog 116 ti116 := typeOk_of (z := (.nilFunc)) (by kernel_rfl) rfl Try.underlying116 ⟨_, _, _, rfl⟩ rfl (by decide)
theorem tok117 : TypeOk Try.prog 117 ti117 := typeOk_of (z := (.nilFunc)) (by kernel_rfl) rfl Try.underlying117 ⟨_, _, _, rfl⟩ rfl (by decide)
theorem tok118 : TypeOk Try.prog 118 ti118 := typeOk_of (z := (.nilFunc)) (by kernel_rfl) rfl Try.underlying118 ⟨_, _, _, rfl⟩ rfl (by decide)
theorem tok119 : TypeOk Try.prog 119 ti119 := typeOk_of (z := (.nilFunc)) (by kernel_rfl) rfl Try.underlying119 ⟨_, _, _, rfl⟩ rfl (by decide)
theorem tok121 : TypeOk Try.prog 121 ti121 := typeOk_of (z := (.nilFunc)) (by kernel_rfl) rfl Try.underlying121 ⟨_, _, _, rfl⟩ rfl (by decide)
theorem tok123 : TypeOk Try.prog 123 ti123 := typeOk_of (z := (.nilFunc)) (by kernel_rfl) rfl Try.underlying123 ⟨_, _, _, rfl⟩ rfl (by decide)
theorem tok124 : TypeOk Try.prog 124 ti124 := typeOk_of (z := (.nilFunc)) (by kernel_rfl) rfl Try.underlying124 ⟨_, _, _, rfl⟩ rfl (by decide)
theorem tok126 : TypeOk Try.prog 126 ti126 := typeOk_of (z := (.nilFunc)) (by kernel_rfl) rfl Try.underlying126 ⟨_, _, _, rfl⟩ rfl (by decide)
theorem tok128 : TypeOk Try.prog 128 ti128 := typeOk_of (z := (.nilFunc)) (by kernel_rfl) rfl Try.underlying128 ⟨_, _, _, rfl⟩ rfl (by decide)
theorem tok129 : TypeOk Try.prog 129 ti129 := typeOk_of (z := (.nilFunc)) (by kernel_rfl) rfl Try.underlying129 ⟨_, _, _, rfl⟩ rfl (by decide)
theorem tok130 : TypeOk Try.prog 130 ti130 := typeOk_of (z := (.nilFunc)) (by kernel_rfl) rfl Try.underlying130 ⟨_, _, _, rfl⟩ rfl (by decide)
theorem tok131 : TypeOk Try.prog 131 ti131 := typeOk_of (z := (.nilFunc)) (by kernel_rfl) rfl Try.underlying131 ⟨_, _, _, rfl⟩ rfl (by decide)
theorem tok132 : TypeOk Try.prog 132 ti132 := typeOk_of (z := (.nilFunc)) (by kernel_rfl) rfl Try.underlying132 ⟨_, _, _, rfl⟩ rfl (by decide)
theorem tok134 : TypeOk Try.prog 134 ti134 := typeOk_of (z := (.nilFunc)) (by kernel_rfl) rfl Try.underlying134 ⟨_, _, _, rfl⟩ rfl (by decide)
theorem tok136 : TypeOk Try.prog 136 ti136 := typeOk_of (z := (.nilFunc)) (by kernel_rfl) rfl Try.underlying136 ⟨_, _, _, rfl⟩ rfl (by decide)
theorem tok138 : TypeOk Try.prog 138 ti138 := typeOk_of (z := (.nilFunc)) (by kernel_rfl) rfl Try.underlying138 ⟨_, _, _, rfl⟩ rfl (by decide)
theorem tok139 : TypeOk Try.prog 139 ti139 := typeOk_of (z := (.nilFunc)) (by kernel_rfl) rfl Try.underlying139 ⟨_, _, _, rfl⟩ rfl (by decide)
theorem tok140 : TypeOk Try.prog 140 ti140 := typeOk_of (z := (.nilFunc)) (by kernel_rfl) rfl Try.underlying140 ⟨_, _, _, rfl⟩ rfl (by decide)
theorem tok141 : TypeOk Try.prog 141 ti141 := typeOk_of (z := (.nilFunc)) (by kernel_rfl) rfl Try.underlying141 ⟨_, _, _, rfl⟩ rfl (by decide)
theorem tok142 : TypeOk Try.prog 142 ti142 := typeOk_of (z := (.nilFunc)) (by kernel_rfl) rfl Try.underlying142 ⟨_, _, _, rfl⟩ rfl (by decide)
theorem tok144 : TypeOk Try.prog 144 ti144 := typeOk_of (z := (.nilFunc)) (by kernel_rfl) rfl Try.underlying144 ⟨_, _, _, rfl⟩ rfl (by decide)
theorem tok145 : TypeOk Try.prog 145 ti145 := typeOk_of (z := (.nilFunc)) (by kernel_rfl) rfl Try.underlying145 ⟨_, _, _, rfl⟩ rfl (by decide)
theorem tok149 : TypeOk Try.prog 149 ti149 := typeOk_of (z := (.nilFunc)) (by kernel_rfl) rfl Try.underlying149 ⟨_, _, _, rfl⟩ rfl (by decide)
theorem tok155 : TypeOk Try.prog 155 ti155 := typeOk_of (z := (.int .u8 0)) (by kernel_rfl) rfl Try.underlying155 rfl rfl (by decide)
theorem tok156 : TypeOk Try.prog 156 ti156 := typeOk_of (z := (.int .u8 0)) (by kernel_rfl) rfl Try.underlying156 rfl rfl (by decide)
theorem tok157 : TypeOk Try.prog 157 ti157 := typeOk_of (z := (.nilFunc)) (by kernel_rfl) rfl Try.underlying157 ⟨_, _, _, rfl⟩ rfl (by decide)
theorem tok159 : TypeOk Try.prog 159 ti159 := typeOk_of (z := (.int .i32 0)) (by kernel_rfl) rfl Try.underlying159 rfl rfl (by decide)
theorem tok160 : TypeOk Try.prog 160 ti160 := typeOk_of (z := (.int .i32 0)) (by kernel_rfl) rfl Try.underlying160 rfl rfl (by decide)
theorem tok163 : TypeOk Try.prog 163 ti163 := typeOk_of (z := (.agg #[.string ⟨#[]⟩])) (by kernel_rfl) rfl Try.underlying163 ⟨_, rfl, rfl⟩ rfl (by decide)
theorem tok164 : TypeOk Try.prog 164 ti164 := typeOk_of (z := (.agg #[.string ⟨#[]⟩])) (by kernel_rfl) rfl Try.underlying164 ⟨_, rfl, rfl⟩ rfl (by decide)
def tbl : List (Nat × TI) := [(1, ti1), (2, ti2), (3, ti3), (4, ti4), (5, ti5), (6, ti6), (7, ti7), (8, ti8), (9, ti9), (10, ti10), (11, ti11), (12, ti12), (13, ti13), (14, ti14), (21, ti21), (22, ti22), (23, ti23), (24, ti24), (25, ti25), (26, ti26), (27, ti27), (29, ti29), (30, ti30), (32, ti32), (34, ti34), (36, ti36), (37, ti37), (38, ti38), (39, ti39), (40, ti40), (41, ti41), (42, ti42), (43, ti43), (45, ti45), (46, ti46), (47, ti47), (48, ti48), (49, ti49), (50, ti50), (51, ti51), (52, ti52), (53, ti53), (54, ti54), (55, ti55), (56, ti56), (57, ti57), (58, ti58), (60, ti60), (61, ti61), (62, ti62), (63, ti63), (64, ti64), (65, ti65), (66, ti66), (67, ti67), (68, ti68), (70, ti70), (71, ti71), (72, ti72), (73, ti73), (74, ti74), (75, ti75), (76, ti76), (77, ti77), (78, ti78), (80, ti80), (81, ti81), (82, ti82), (83, ti83), (84, ti84), (85, ti85), (86, ti86), (87, ti87), (88, ti88), (89, ti89), (90, ti90), (91, ti91), (92, ti92), (93, ti93), (94, ti94), (95, ti95), (96, ti96), (97, ti97), (98, ti98), (99, ti99), (100, ti100), (101, ti101), (102, ti102), (104, ti104), (105, ti105), (106, ti106), (107, ti107), (108, ti108), (109, ti109), (110, ti110), (111, ti111), (112, ti112), (113, ti113), (114, ti114), (116, ti116), (117, ti117), (118, ti118), (119, ti119), (121, ti121), (123, ti123), (124, ti124), (126, ti126), (128, ti128), (129, ti129), (130, ti130), (131, ti131), (132, ti132), (134, ti134), (136, ti136), (138, ti138), (139, ti139), (140, ti140), (141, ti141), (142, ti142), (144, ti144), (145, ti145), (149, ti149), (155, ti155), (156, ti156), (157, ti157), (159, ti159), (160, ti160), (163, ti163), (164, ti164)]
def T : TT := getT tbl
theorem typesOk : TypesOk Try.prog T := typesOk_of (by simp only [tbl, List.forall_mem_cons]; exact ⟨tok1, tok2, tok3, tok4, tok5, tok6, tok7, tok8, tok9, tok10, tok11, tok12, tok13, tok14, tok21, tok22, tok23, tok24, tok25, tok26, tok27, tok29, tok30, tok32, tok34, tok36, tok37, tok38, tok39, tok40, tok41, tok42, tok43, tok45, tok46, tok47, tok48, tok49, tok50, tok51, tok52, tok53, tok54, tok55, tok56, tok57, tok58, tok60, tok61, tok62, tok63, tok64, tok65, tok66, tok67, tok68, tok70, tok71, tok72, tok73, tok74, tok75, tok76, tok77, tok78, tok80, tok81, tok82, tok83, tok84, tok85, tok86, tok87, tok88, tok89, tok90, tok91, tok92, tok93, tok94, tok95, tok96, tok97, tok98, tok99, tok100, tok101, tok102, tok104, tok105, tok106, tok107, tok108, tok109, tok110, tok111, tok112, tok113, tok114, tok116, tok117, tok118, tok119, tok121, tok123, tok124, tok126, tok128, tok129, tok130, tok131, tok132, tok134, tok136, tok138, tok139, tok140, tok141, tok142, tok144, tok145, tok149, tok155, tok156, tok157, tok159, tok160, tok163, tok164, by simp⟩)
end Go.Proofs.Ytcmieifjephdcaa
set_option linter.unusedVariables false
set_option linter.unusedSimpArgs false
set_option maxRecDepth 100000
namespace Go.Proofs.Ytcmieifjephdcaa
open Go.Ab Go.RowKit
abbrev E0 : TypeId → Bool := fun t => Nat.beq t 26
theorem trim_run (k : Nat) (ds : List Nat) (hk : k ≤ 2) (hl : ds.length < 4611686018427387904) : Run Try.prog T E0 (.call 100 [.sl k (ds.map d32)] (.sl (if k = 0 then 0 else 1) ((trim ds).map d32))) := by
 refine mkcall Try.func100 rfl rfl (Nat.le_of_ble_eq_true rfl) <| Rg 1 rfl <| Ua rfl rfl <| Wn <| WC.block <| WC.loopV (α := Nat × (List Nat)) (fun ⟨k1, es⟩ => [(0, .sl k1 (es.map d32))]) (fun ⟨k1, es⟩ => []) (fun ⟨k1, es⟩ n => (k1 = k ∨ k = 2 ∧ k1 = 1) ∧ trim es = trim ds ∧ es.length < 4611686018427387904) (fun ⟨k1, es⟩ => es.length) (k, ds) ⟨rfl, trivial⟩ trivial ⟨.inl rfl, rfl, hl⟩ ?_
 rintro ⟨k1, es⟩ n hF
 change WC _ _ _ _ _ [(0, .sl k1 (es.map d32))] ([]) n _
 obtain ⟨hk1, hds, hel⟩ := hF
 refine WC.assoc <| Rg 12 rfl <| Um rfl rfl <| WO.U (oLenM rfl rfl) rfl <| WO.U (oGtr rfl rfl) rfl <| WO.D (fun h5 => ?_) (fun h5 => ?_)
 rotate_left
 ·refine Um rfl rfl <| WO.K rfl rfl <| WO.K rfl rfl <| WO.K rfl rfl <| WO.K rfl rfl <| WO.K rfl rfl <| WO.K rfl rfl <| WO.K rfl rfl <| WO.U (oPkF rfl rfl) rfl <| Wn <| WC.cF rfl <| WC.exits <| loopR_exit <| after_exit rfl <| Rg 2 rfl <| Um rfl rfl <| Ua rfl rfl <| Nw [(2, _)] ⟨rfl, trivial⟩ <| WC.ret <| postW (n := 0) (.inr rfl) rfl ?_ (by simp)
  have ht : trim es = es := trim_done (by omega)
  rw [← hds, ht]
  rcases hk1 with rfl | ⟨rfl, rfl⟩
  ·have : k1 = 0 ∨ k1 = 1 ∨ k1 = 2 := by omega
   rcases this with rfl | rfl | rfl
   ·exact .same _
   ·exact .same _
   ·exact .two _
  ·exact .same _
 refine Um rfl rfl <| WO.Ug rfl (oMv rfl) rfl <| WO.Ug rfl (oMv rfl) rfl <| WO.Ug rfl (oLenM rfl rfl) rfl <| WO.Ug rfl (oSub64 rfl rfl (by omega)) rfl <| WO.Ug rfl (oIxM (j := es.length - 1) rfl rfl rfl rfl (by omega) (by omega) rfl) rfl <| WO.Ug rfl (oLd rfl rfl rfl) rfl <| WO.Ug rfl (oEql rfl rfl) rfl <| WO.D (fun h13 => ?_) (fun h13 => ?_)
 ·refine WO.U (oPkT rfl rfl) rfl <| Wn <| WC.cT rfl <| WC.skips <| WC.block1 <| WC.reg1z (z := 6) rfl <| Um rfl rfl <| Um rfl rfl <| WO.U (oLenM rfl rfl) rfl <| WO.U (oSub64 rfl rfl (by omega)) rfl <| WO.U (oSlH (j := es.length - 1) rfl rfl rfl rows_d32 rfl (by omega) (by simp)) rfl <| Ua rfl rfl <| Wn <| after0_normal <| loopR_normal <| ⟨⟨if k1 = 2 then 1 else k1, es.take (es.length - 1)⟩, ⟨congrArg some ?_, trivial⟩, trivial, ⟨?_, ?_, ?_⟩, ?_⟩
  ·have h9 : es.length - 1 < es.length := by omega
   simp [h9]
  ·split <;> omega
  ·rw [trim_step (by omega) (by omega)]; exact hds
  ·simp; omega
  ·simp; omega
 refine WO.U (oPkT rfl rfl) rfl <| Wn <| WC.cF rfl <| WC.exits <| loopR_exit <| after_exit rfl <| Rg 2 rfl <| Um rfl rfl <| Ua rfl rfl <| Nw [(2, _)] ⟨rfl, trivial⟩ <| WC.ret <| postW (n := 0) (.inr rfl) rfl ?_ (by simp)
 have ht : trim es = es := trim_done (by omega)
 rw [← hds, ht]
 rcases hk1 with rfl | ⟨rfl, rfl⟩
 ·have : k1 = 0 ∨ k1 = 1 ∨ k1 = 2 := by omega
  rcases this with rfl | rfl | rfl
  ·exact .same _
  ·exact .same _
  ·exact .two _
 ·exact .same _
theorem sign_run (v : Int) : Run Try.prog T E0 (.call 74 [lvI v] (.v (.int .i64 v.sign))) := by
 refine mkcall Try.func74 rfl rfl (Nat.le_of_ble_eq_true rfl) <| Rg 2 rfl <| WO.S (oBx rfl rfl) rfl <| Ua rfl rfl <| Wn <| WC.block <| Rg 4 rfl <| WO.U (oFaP rfl rfl rfl rfl rfl) rfl <| WO.U (oLdP rfl rfl rfl rfl rfl) rfl <| WO.U (oGtr rfl rfl) rfl <| WO.D (fun h6 => ?_) (fun h6 => ?_)
 ·refine Ua rfl rfl <| Wn <| WC.cT1 rfl <| Rg 1 rfl <| Ua rfl rfl <| Wn <| WC.ret <| after_ret <| post (n := 0) (.inr rfl) rfl (congrArg (fun z => LV.v (.int .i64 z)) ?_) (by simp)
  exact (Int.sign_eq_one_of_pos ((ia_pos v).1 h6)).symm
 refine Ua rfl rfl <| Wn <| WC.cF1 rfl <| Rg 4 rfl <| WO.U (oFaP rfl rfl rfl rfl rfl) rfl <| WO.U (oLdP rfl rfl rfl rfl rfl) rfl <| WO.U (oLss rfl rfl) rfl <| WO.D (fun h10 => ?_) (fun h10 => ?_)
 ·refine Ua rfl rfl <| Wn <| WC.cT1 rfl <| Rg 1 rfl <| Ua rfl rfl <| Wn <| WC.ret <| after_ret <| post (n := 0) (.inr rfl) rfl (congrArg (fun z => LV.v (.int .i64 z)) ?_) (by simp)
  exact (Int.sign_eq_neg_one_of_neg ((ia_neg v).1 h10)).symm
 refine Ua rfl rfl <| Wn <| WC.cF1 rfl <| WC.skip <| after_normal <| Rg 1 rfl <| Ua rfl rfl <| Wn <| WC.ret <| post (n := 0) (.inr rfl) rfl (congrArg (fun z => LV.v (.int .i64 z)) ?_) (by simp)
 have h1 := ia_pos v
 have h2 := ia_neg v
 have : v = 0 := by omega
 subst this; rfl
theorem neg_run (v : Int) : Run Try.prog T E0 (.call 75 [lvI v] (lvI (-v))) := by
 have hb := ia_bd v
 refine mkcall Try.func75 rfl rfl (Nat.le_of_ble_eq_true rfl) <| Rg 2 rfl <| WO.S (oBx rfl rfl) rfl <| WO.S (oAl rfl) rfl <| Wn <| Rg 7 rfl <| WO.U (oFaP rfl rfl rfl rfl rfl) rfl <| WO.U (oLdP rfl rfl rfl rfl rfl) rfl <| WO.U (oNeg64 rfl (by omega)) rfl <| WO.U (oFaP rfl rfl rfl rfl rfl) rfl <| WO.U (oLdP rfl rfl rfl rfl rfl) rfl <| WO.U (oBd (cs := [_, _]) rfl rfl rfl rfl rfl) rfl <| WO.S0 (oSt (cs' := [_, _]) rfl rfl rfl rfl rfl rfl rfl rfl) <| Wn <| WC.ret <| post (n := 0) (.inr rfl) rfl ?_ (by simp)
 simp only [lvI, ia_negate, ik_negate, idg_negate]; rfl
theorem abs_run (v : Int) : Run Try.prog T E0 (.call 96 [lvI v] (lvI v.natAbs)) := by
 refine mkcall Try.func96 rfl rfl (Nat.le_of_ble_eq_true rfl) <| Rg 2 rfl <| WO.S (oBx rfl rfl) rfl <| WO.S (oAl rfl) rfl <| Wn <| WC.assoc <| Rg 3 rfl <| WO.U (oFaP rfl rfl rfl rfl rfl) rfl <| WO.U (oLdP rfl rfl rfl rfl rfl) rfl <| WO.U (oLss rfl rfl) rfl <| WO.D (fun h5 => ?_) (fun h5 => ?_)
 rotate_left
 ·refine Wn <| WC.cF rfl <| WC.skips <| Rg 2 rfl <| WO.U (oLdP (l := .agg [_, _]) rfl rfl rfl rfl rfl) rfl <| WO.S0 (oSt (cs' := [_, _]) rfl rfl rfl rfl rfl rfl rfl rfl) <| Wn <| WC.ret <| post (n := 0) (.inr rfl) rfl ?_ (by simp)
  have h1 := ia_neg v
  have : (v.natAbs : Int) = v := by omega
  rw [this]; rfl
 refine Wn <| WC.cT rfl <| WC.assoc <| Rg 3 rfl <| WO.U (oLdP (l := .agg [_, _]) rfl rfl rfl rfl rfl) rfl <| WO.U (oCall rfl (neg_run _) (by simp)) rfl <| WO.S0 (oSt (cs' := [_, _]) rfl rfl rfl rfl rfl rfl rfl rfl) <| Wn <| WC.rets <| post (n := 0) (.inr rfl) rfl ?_ (by simp)
 have h1 := (ia_neg v).1 h5
 have : (v.natAbs : Int) = -v := by omega
 rw [this]; rfl
theorem one_run  : Run Try.prog T E0 (.call 79 [] (lvI 1)) := by
 refine mkcall Try.func79 rfl rfl (Nat.le_of_ble_eq_true rfl) <| Rg 1 rfl <| WO.S (oAl rfl) rfl <| Wn <| Rg 2 rfl <| WO.U (oBd (cs := [_, _]) rfl rfl rfl rfl rfl) rfl <| WO.S0 (oSt (cs' := [_, _]) rfl rfl rfl rfl rfl rfl rfl rfl) <| Wn <| WC.ret ?_
 exact post (n := 0) (.inr rfl) rfl rfl (by simp)
theorem of_run (v : Int) (hv : -9223372036854775808 ≤ v ∧ v ≤ 9223372036854775807) : Run Try.prog T E0 (.call 73 [.v (.int .i64 v)] (lvI v)) := by
 refine mkcall Try.func73 rfl rfl (Nat.le_of_ble_eq_true rfl) <| Rg 1 rfl <| WO.S (oAl rfl) rfl <| Wn <| WC.assoc <| Rg 6 rfl <| Um rfl rfl <| WO.U (oGtr rfl rfl) rfl <| WO.D (fun h6 => ?_) (fun h6 => ?_)
 rotate_left
 ·refine Um rfl rfl <| WO.K rfl rfl <| WO.K rfl rfl <| WO.U (oPkF rfl rfl) rfl <| Wn <| WC.cF rfl <| WC.skips <| Rg 1 rfl <| Ua rfl rfl <| Wn <| Rg 3 rfl <| Um rfl rfl <| WO.U (cI (v % 18446744073709551616) (oCnv rfl rfl rfl) (IntKind.wrap_u64 _)) rfl <| Ua rfl rfl <| Wn <| WC.assoc <| Rg 2 rfl <| Um rfl rfl <| WO.U (oLss rfl rfl) rfl <| WO.D (fun h16 => ?_) (fun h16 => ?_)
  rotate_left
  ·refine Wn <| WC.cF rfl <| WC.skips <| Rg 9 rfl <| Um rfl rfl <| Um rfl rfl <| WO.U (cI (((v.natAbs % 4294967296 : Nat) : Int)) (oCnv rfl rfl rfl) (by rw [IntKind.wrap_u32]; omega)) rfl <| Um rfl rfl <| WO.U (cI (((v.natAbs / 4294967296 : Nat) : Int)) (oShrU (s := 32) rfl rfl (by omega)) (by omega)) rfl <| WO.U (cI (((v.natAbs / 4294967296 : Nat) : Int)) (oCnv rfl rfl rfl) (by rw [IntKind.wrap_u32]; omega)) rfl <| WO.U (oBs' (cs := [_, _]) (rows := [[_], [_]]) rfl rfl (by decide) rfl rfl rfl) rfl <| WO.U (oBd (cs := [_, _]) rfl rfl rfl rfl rfl) rfl <| WO.S0 (oSt (cs' := [_, _]) rfl rfl rfl rfl rfl rfl rfl rfl) <| Nw [(2, _)] ⟨rfl, trivial⟩ <| WC.ret ?_
   omega
  refine Wn <| WC.cT rfl <| Rg 4 rfl <| Um rfl rfl <| WO.U (cI (((v.natAbs : Nat) : Int)) (oNeg rfl) (by rw [IntKind.wrap_u64]; omega)) rfl <| Ua rfl rfl <| Ua rfl rfl <| Nw [(2, _), (3, _), (4, _)] ⟨rfl, rfl, rfl, trivial⟩ <| Rg 9 rfl <| Um rfl rfl <| Um rfl rfl <| WO.U (cI (((v.natAbs % 4294967296 : Nat) : Int)) (oCnv rfl rfl rfl) (by rw [IntKind.wrap_u32]; omega)) rfl <| Um rfl rfl <| WO.U (cI (((v.natAbs / 4294967296 : Nat) : Int)) (oShrU (s := 32) rfl rfl (by omega)) (by omega)) rfl <| WO.U (cI (((v.natAbs / 4294967296 : Nat) : Int)) (oCnv rfl rfl rfl) (by rw [IntKind.wrap_u32]; omega)) rfl <| WO.U (oBs' (cs := [_, _]) (rows := [[_], [_]]) rfl rfl (by decide) rfl rfl rfl) rfl <| WO.U (oBd (cs := [_, _]) rfl rfl rfl rfl rfl) rfl <| WO.S0 (oSt (cs' := [_, _]) rfl rfl rfl rfl rfl rfl rfl rfl) <| Wn <| WC.ret <| postW (n := 0) (l := .agg [_, _]) (.inr rfl) rfl ?_ (by simp)
  have hns : ¬ small v := by unfold small; omega
  rw [lvI_big hns, Int.sign_eq_neg_one_of_neg h16, ← two_big (m := v.natAbs) (by omega) (by omega)]
  exact .int _ _
 refine Um rfl rfl <| WO.Ug rfl (oMv rfl) rfl <| WO.Ug rfl (oLss rfl rfl) rfl <| WO.D (fun h9 => ?_) (fun h9 => ?_)
 ·refine WO.U (oPkT rfl rfl) rfl <| Wn <| WC.cT rfl <| WC.assoc <| Rg 3 rfl <| Um rfl rfl <| WO.U (oBd (cs := [_, _]) rfl rfl rfl rfl rfl) rfl <| WO.S0 (oSt (cs' := [_, _]) rfl rfl rfl rfl rfl rfl rfl rfl) <| Wn <| WC.rets <| post (n := 0) (.inr rfl) rfl ?_ (by simp)
  rw [lvI_small ⟨h6, h9⟩]; rfl
 refine WO.U (oPkT rfl rfl) rfl <| Wn <| WC.cF rfl <| WC.skips <| Rg 1 rfl <| Ua rfl rfl <| Wn <| Rg 3 rfl <| Um rfl rfl <| WO.U (cI (v % 18446744073709551616) (oCnv rfl rfl rfl) (IntKind.wrap_u64 _)) rfl <| Ua rfl rfl <| Wn <| WC.assoc <| Rg 2 rfl <| Um rfl rfl <| WO.U (oLss rfl rfl) rfl <| WO.D (fun h16 => ?_) (fun h16 => ?_)
 rotate_left
 ·refine Wn <| WC.cF rfl <| WC.skips <| Rg 9 rfl <| Um rfl rfl <| Um rfl rfl <| WO.U (cI (((v.natAbs % 4294967296 : Nat) : Int)) (oCnv rfl rfl rfl) (by rw [IntKind.wrap_u32]; omega)) rfl <| Um rfl rfl <| WO.U (cI (((v.natAbs / 4294967296 : Nat) : Int)) (oShrU (s := 32) rfl rfl (by omega)) (by omega)) rfl <| WO.U (cI (((v.natAbs / 4294967296 : Nat) : Int)) (oCnv rfl rfl rfl) (by rw [IntKind.wrap_u32]; omega)) rfl <| WO.U (oBs' (cs := [_, _]) (rows := [[_], [_]]) rfl rfl (by decide) rfl rfl rfl) rfl <| WO.U (oBd (cs := [_, _]) rfl rfl rfl rfl rfl) rfl <| WO.S0 (oSt (cs' := [_, _]) rfl rfl rfl rfl rfl rfl rfl rfl) <| Nw [(2, _)] ⟨rfl, trivial⟩ <| WC.ret <| postW (n := 0) (l := .agg [_, _]) (.inr rfl) rfl ?_ (by simp)
  have hns : ¬ small v := by unfold small; omega
  rw [lvI_big hns, Int.sign_eq_one_of_pos (by omega), ← two_big (m := v.natAbs) (by omega) (by omega)]
  exact .int _ _
 refine Wn <| WC.cT rfl <| Rg 4 rfl <| Um rfl rfl <| WO.U (cI (((v.natAbs : Nat) : Int)) (oNeg rfl) (by rw [IntKind.wrap_u64]; omega)) rfl <| Ua rfl rfl <| Ua rfl rfl <| Nw [(2, _), (3, _), (4, _)] ⟨rfl, rfl, rfl, trivial⟩ <| Rg 9 rfl <| Um rfl rfl <| Um rfl rfl <| WO.U (cI (((v.natAbs % 4294967296 : Nat) : Int)) (oCnv rfl rfl rfl) (by rw [IntKind.wrap_u32]; omega)) rfl <| Um rfl rfl <| WO.U (cI (((v.natAbs / 4294967296 : Nat) : Int)) (oShrU (s := 32) rfl rfl (by omega)) (by omega)) rfl <| WO.U (cI (((v.natAbs / 4294967296 : Nat) : Int)) (oCnv rfl rfl rfl) (by rw [IntKind.wrap_u32]; omega)) rfl <| WO.U (oBs' (cs := [_, _]) (rows := [[_], [_]]) rfl rfl (by decide) rfl rfl rfl) rfl <| WO.U (oBd (cs := [_, _]) rfl rfl rfl rfl rfl) rfl <| WO.S0 (oSt (cs' := [_, _]) rfl rfl rfl rfl rfl rfl rfl rfl) <| Wn <| WC.ret <| postW (n := 0) (l := .agg [_, _]) (.inr rfl) rfl ?_ (by simp)
 have hns : ¬ small v := by unfold small; omega
 rw [lvI_big hns, Int.sign_eq_neg_one_of_neg h16, ← two_big (m := v.natAbs) (by omega) (by omega)]
 exact .int _ _
theorem int_run (v b : Int) (hb : 0 ≤ b ∧ b < 4611686018427387904) : Run Try.prog T E0 (.call 56 [lvI v, .v (.int .i64 b)] (.tup [.v (.int .i64 (if -b ≤ v ∧ v ≤ b then v else 0)), .v (.bool (decide (-b ≤ v ∧ v ≤ b)))])) := by
 refine mkcall Try.func56 rfl rfl (Nat.le_of_ble_eq_true rfl) <| Rg 3 rfl <| WO.S (oBx rfl rfl) rfl <| Ua rfl rfl <| Ua rfl rfl <| Wn <| WC.assoc <| Rg 16 rfl <| WO.U (oFaP rfl rfl rfl rfl rfl) rfl <| WO.U (oLdP rfl rfl rfl rfl rfl) rfl <| WO.U (oNilN rfl rfl) rfl <| WO.B (fun h8 => ?_) (fun h8 => ?_)
 ·refine Um rfl rfl <| WO.K rfl rfl <| WO.K rfl rfl <| WO.K rfl rfl <| WO.K rfl rfl <| WO.U (oPkT rfl rfl) rfl <| Um rfl rfl <| WO.K rfl rfl <| WO.K rfl rfl <| WO.K rfl rfl <| WO.K rfl rfl <| WO.K rfl rfl <| WO.U (oPkT rfl rfl) rfl <| Nw [(2, _), (21, _)] ⟨rfl, rfl, trivial⟩ <| WC.cT rfl <| WC.assoc <| Rg 2 rfl <| Ua rfl rfl <| Ua rfl rfl <| Wn <| WC.rets <| post (n := 0) (.inr rfl) rfl ?_ (by simp)
  have hs := ik_eq'.1 h8
  have hn : ¬ (-b ≤ v ∧ v ≤ b) := by unfold small at hs; omega
  rw [if_neg hn, decide_eq_false hn]; rfl
 refine Um rfl rfl <| WO.Ug rfl (oFaP rfl rfl rfl rfl rfl) rfl <| WO.Ug rfl (oLdP rfl rfl rfl rfl rfl) rfl <| WO.Ug rfl (oMv rfl) rfl <| WO.Ug rfl (oGtr rfl rfl) rfl <| WO.D (fun h13 => ?_) (fun h13 => ?_)
 ·refine WO.U (oPkF rfl rfl) rfl <| Um rfl rfl <| WO.K rfl rfl <| WO.K rfl rfl <| WO.K rfl rfl <| WO.K rfl rfl <| WO.K rfl rfl <| WO.U (oPkT rfl rfl) rfl <| Nw [(2, _), (21, _)] ⟨rfl, rfl, trivial⟩ <| WC.cT rfl <| WC.assoc <| Rg 2 rfl <| Ua rfl rfl <| Ua rfl rfl <| Wn <| WC.rets <| post (n := 0) (.inr rfl) rfl ?_ (by simp)
  have hs := ia_small (ik_ne'.1 h8)
  have hn : ¬ (-b ≤ v ∧ v ≤ b) := by omega
  rw [if_neg hn, decide_eq_false hn]; rfl
 refine WO.U (oPkF rfl rfl) rfl <| Um rfl rfl <| WO.Ug rfl (oFaP rfl rfl rfl rfl rfl) rfl <| WO.Ug rfl (oLdP rfl rfl rfl rfl rfl) rfl <| WO.Ug rfl (oMv rfl) rfl <| WO.Ug rfl (oNeg64 rfl (by omega)) rfl <| WO.Ug rfl (oLss rfl rfl) rfl <| WO.D (fun h20 => ?_) (fun h20 => ?_)
 ·refine WO.U (oPkF rfl rfl) rfl <| Nw [(2, _), (21, _)] ⟨rfl, rfl, trivial⟩ <| WC.cT rfl <| WC.assoc <| Rg 2 rfl <| Ua rfl rfl <| Ua rfl rfl <| Wn <| WC.rets <| post (n := 0) (.inr rfl) rfl ?_ (by simp)
  have hs := ia_small (ik_ne'.1 h8)
  have hn : ¬ (-b ≤ v ∧ v ≤ b) := by omega
  rw [if_neg hn, decide_eq_false hn]; rfl
 refine WO.U (oPkF rfl rfl) rfl <| Nw [(2, _), (21, _)] ⟨rfl, rfl, trivial⟩ <| WC.cF rfl <| WC.skips <| Rg 4 rfl <| WO.U (oFaP rfl rfl rfl rfl rfl) rfl <| WO.U (oLdP rfl rfl rfl rfl rfl) rfl <| Ua rfl rfl <| Ua rfl rfl <| Wn <| WC.ret <| post (n := 0) (.inr rfl) rfl ?_ (by simp)
 have hs := ia_small (ik_ne'.1 h8)
 have hn : -b ≤ v ∧ v ≤ b := by omega
 rw [if_pos hn, decide_eq_true hn]
 exact congrArg (fun z => LV.tup [.v (.int .i64 z), .v (.bool true)]) hs
theorem digits_run (v : Int) : Run Try.prog T E0 (.call 89 [lvI v] (.tup [.v (.int .i64 v.sign), .sl 1 ((dgs B32 v.natAbs).map d32)])) := by
 have hb := ia_bd v
 refine mkcall Try.func89 rfl rfl (Nat.le_of_ble_eq_true rfl) <| Rg 3 rfl <| WO.S (oBx rfl rfl) rfl <| Ua rfl rfl <| Ua rfl rfl <| Wn <| WC.assoc <| Rg 3 rfl <| WO.U (oFaP rfl rfl rfl rfl rfl) rfl <| WO.U (oLdP rfl rfl rfl rfl rfl) rfl <| WO.U (oNilN rfl rfl) rfl <| WO.B (fun h8 => ?_) (fun h8 => ?_)
 ·refine Wn <| WC.cT rfl <| WC.assoc <| WC.draw (z := 6) rfl (by kernel_rfl) <| WD.U (oFaP rfl rfl rfl rfl rfl) rfl <| WD.U (oLdP rfl rfl rfl rfl rfl) rfl <| WD.U (oFaP rfl rfl rfl rfl rfl) rfl <| WD.U (oLdP rfl rfl rfl rfl rfl) rfl <| WD.U (oAs rfl) rfl <| WD.U (oAs rfl) rfl <| WD.nil (drawOk_of (by kernel_rfl)) rfl <| WC.rets <| post (n := 0) (.inr rfl) rfl ?_ (by simp)
  have hs := ik_eq'.1 h8
  rw [ia_big hs, ik_big hs, idg_big hs]; rfl
 have hs := ik_ne'.1 h8
 have hia := ia_small hs
 refine Wn <| WC.cF rfl <| WC.skips <| Rg 2 rfl <| Ua rfl rfl <| Ua rfl rfl <| Wn <| WC.block <| Rg 4 rfl <| WO.U (oFaP rfl rfl rfl rfl rfl) rfl <| WO.U (oLdP rfl rfl rfl rfl rfl) rfl <| WO.U (oGtr rfl rfl) rfl <| WO.D (fun h16 => ?_) (fun h16 => ?_)
 ·refine Ua rfl rfl <| Wn <| WC.cT1 rfl <| WC.draw1z (z := 5) rfl (by kernel_rfl) <| WD.U (oFaP rfl rfl rfl rfl rfl) rfl <| WD.U (oLdP rfl rfl rfl rfl rfl) rfl <| WD.U (cI (((v.natAbs : Nat) : Int)) (oCnv rfl rfl rfl) (by rw [IntKind.wrap_u64]; omega)) rfl <| WD.U (oAs rfl) rfl <| WD.U (oAs rfl) rfl <| WD.nil (drawOk_of (by kernel_rfl)) rfl <| after_normal <| WC.weak [(4, _), (5, _)] ⟨rfl, rfl, trivial⟩ <| Rg 10 rfl <| Um rfl rfl <| Um rfl rfl <| WO.U (cI (((v.natAbs % 4294967296 : Nat) : Int)) (oCnv rfl rfl rfl) (by rw [IntKind.wrap_u32]; omega)) rfl <| Um rfl rfl <| WO.U (cI (((v.natAbs / 4294967296 : Nat) : Int)) (oShrU (s := 32) rfl rfl (by omega)) (by omega)) rfl <| WO.U (cI (((v.natAbs / 4294967296 : Nat) : Int)) (oCnv rfl rfl rfl) (by rw [IntKind.wrap_u32]; omega)) rfl <| WO.U (oBs' (cs := [_, _]) (rows := [[_], [_]]) rfl rfl (by decide) rfl rfl rfl) rfl <| WO.U (oCall rfl (trim_run 2 [v.natAbs % 4294967296, v.natAbs / 4294967296] (by omega) (by simp)) (by simp)) rfl <| Ua rfl rfl <| Ua rfl rfl <| WO.nil ?_
  refine WC.ret <| post (n := 0) (.inr rfl) rfl ?_ (by simp)
  rw [← two_dg (m := v.natAbs) (by omega), Int.sign_eq_one_of_pos (by omega)]; rfl
 refine Ua rfl rfl <| Wn <| WC.cF1 rfl <| Rg 4 rfl <| WO.U (oFaP rfl rfl rfl rfl rfl) rfl <| WO.U (oLdP rfl rfl rfl rfl rfl) rfl <| WO.U (oLss rfl rfl) rfl <| WO.D (fun h23 => ?_) (fun h23 => ?_)
 rotate_left
 ·refine Ua rfl rfl <| Nw [(1, _), (4, _), (5, _), (20, _)] ⟨rfl, rfl, rfl, rfl, trivial⟩ <| WC.cF1 rfl <| WC.skip <| after_normal <| Rg 10 rfl <| Um rfl rfl <| Um rfl rfl <| WO.U (cI (((v.natAbs % 4294967296 : Nat) : Int)) (oCnv rfl rfl rfl) (by rw [IntKind.wrap_u32]; omega)) rfl <| Um rfl rfl <| WO.U (cI (((v.natAbs / 4294967296 : Nat) : Int)) (oShrU (s := 32) rfl rfl (by omega)) (by omega)) rfl <| WO.U (cI (((v.natAbs / 4294967296 : Nat) : Int)) (oCnv rfl rfl rfl) (by rw [IntKind.wrap_u32]; omega)) rfl <| WO.U (oBs' (cs := [_, _]) (rows := [[_], [_]]) rfl rfl (by decide) rfl rfl rfl) rfl <| WO.U (oCall rfl (trim_run 2 [v.natAbs % 4294967296, v.natAbs / 4294967296] (by omega) (by simp)) (by simp)) rfl <| Ua rfl rfl <| Ua rfl rfl <| Wn <| WC.ret <| post (n := 0) (.inr rfl) rfl ?_ (by simp)
  have h0 : v = 0 := by omega
  rw [← two_dg (m := v.natAbs) (by omega)]
  subst h0; rfl
 refine Ua rfl rfl <| Nw [(1, _), (4, _), (5, _), (20, _)] ⟨rfl, rfl, rfl, rfl, trivial⟩ <| WC.cT1 rfl <| WC.draw1z (z := 6) rfl (by kernel_rfl) <| WD.U (oFaP rfl rfl rfl rfl rfl) rfl <| WD.U (oLdP rfl rfl rfl rfl rfl) rfl <| WD.U (oNeg64 rfl (by omega)) rfl <| WD.U (cI (((v.natAbs : Nat) : Int)) (oCnv rfl rfl rfl) (by rw [IntKind.wrap_u64]; omega)) rfl <| WD.U (oAs rfl) rfl <| WD.U (oAs rfl) rfl <| WD.nil (drawOk_of (by kernel_rfl)) rfl <| after_normal <| Rg 10 rfl <| Um rfl rfl <| Um rfl rfl <| WO.U (cI (((v.natAbs % 4294967296 : Nat) : Int)) (oCnv rfl rfl rfl) (by rw [IntKind.wrap_u32]; omega)) rfl <| Um rfl rfl <| WO.U (cI (((v.natAbs / 4294967296 : Nat) : Int)) (oShrU (s := 32) rfl rfl (by omega)) (by omega)) rfl <| WO.U (cI (((v.natAbs / 4294967296 : Nat) : Int)) (oCnv rfl rfl rfl) (by rw [IntKind.wrap_u32]; omega)) rfl <| WO.U (oBs' (cs := [_, _]) (rows := [[_], [_]]) rfl rfl (by decide) rfl rfl rfl) rfl <| WO.U (oCall rfl (trim_run 2 [v.natAbs % 4294967296, v.natAbs / 4294967296] (by omega) (by simp)) (by simp)) rfl <| Ua rfl rfl <| Ua rfl rfl ?_
 refine Nw [(2, _), (3, _)] ⟨rfl, rfl, trivial⟩ <| WC.ret <| post (n := 0) (.inr rfl) rfl ?_ (by simp)
 rw [← two_dg (m := v.natAbs) (by omega), Int.sign_eq_neg_one_of_neg (by omega)]; rfl
theorem add32_run (x y c : Nat) (hx : x < 4294967296) (hy : y < 4294967296) (hc : c ≤ 1) : Run Try.prog T E0 (.call 109 [.v (.int .u32 (x : Int)), .v (.int .u32 (y : Int)), .v (.int .u32 (c : Int))] (.tup [.v (.int .u32 (((x + y + c) % 4294967296 : Nat) : Int)), .v (.int .u32 (((x + y + c) / 4294967296 : Nat) : Int))])) := by
 refine mkcall Try.func109 rfl rfl (Nat.le_of_ble_eq_true rfl) <| Rg 2 rfl <| Ua rfl rfl <| Ua rfl rfl <| Wn <| Rg 9 rfl <| Um rfl rfl <| WO.U (cI ((x : Int)) (oCnv rfl rfl rfl) (by rw [IntKind.wrap_u64]; omega)) rfl <| Um rfl rfl <| WO.U (cI ((y : Int)) (oCnv rfl rfl rfl) (by rw [IntKind.wrap_u64]; omega)) rfl <| WO.U (cI (((x + y : Nat) : Int)) (oAddU rfl rfl) (by omega)) rfl <| Um rfl rfl <| WO.U (cI ((c : Int)) (oCnv rfl rfl rfl) (by rw [IntKind.wrap_u64]; omega)) rfl <| WO.U (cI (((x + y + c : Nat) : Int)) (oAddU rfl rfl) (by omega)) rfl <| Ua rfl rfl <| Wn <| Rg 3 rfl <| Um rfl rfl <| WO.U (cI ((((x + y + c) % 4294967296 : Nat) : Int)) (oCnv rfl rfl rfl) (by rw [IntKind.wrap_u32]; omega)) rfl <| Ua rfl rfl <| Nw [(6, _), (8, _)] ⟨rfl, rfl, trivial⟩ <| Rg 4 rfl <| Um rfl rfl ?_
 refine WO.U (cI ((((x + y + c) / 4294967296 : Nat) : Int)) (oShrU (s := 32) rfl rfl (by omega)) (by omega)) rfl <| WO.U (cI ((((x + y + c) / 4294967296 : Nat) : Int)) (oCnv rfl rfl rfl) (by rw [IntKind.wrap_u32]; omega)) rfl <| Ua rfl rfl <| Wn <| WC.ret ?_
 exact post (n := 0) (.inr rfl) rfl rfl (by simp)
theorem compare_run (k1 k2 : Nat) (xs ys : List Nat) (hx : Dg B32 xs) (hy : Dg B32 ys) (tx : Trm xs) (ty : Trm ys) (lx : xs.length < 4611686018427387904) (ly : ys.length < 4611686018427387904) : Run Try.prog T E0 (.call 98 [.sl k1 (xs.map d32), .sl k2 (ys.map d32)] (.v (.int .i64 ((val B32 xs : Int) - val B32 ys).sign))) := by
 refine mkcall Try.func98 rfl rfl (Nat.le_of_ble_eq_true rfl) <| Rg 1 rfl <| Ua rfl rfl <| Wn <| WC.assoc <| Rg 5 rfl <| Um rfl rfl <| WO.U (oLenM rfl rfl) rfl <| Um rfl rfl <| WO.U (oLenM rfl rfl) rfl <| WO.U (oNeq rfl rfl) rfl <| WO.D (fun h10 => ?_) (fun h10 => ?_)
 ·refine Wn <| WC.cT rfl <| WC.assoc <| WC.assoc <| Rg 5 rfl <| Um rfl rfl <| WO.U (oLenM rfl rfl) rfl <| Um rfl rfl <| WO.U (oLenM rfl rfl) rfl <| WO.U (oLss rfl rfl) rfl <| WO.D (fun h15 => ?_) (fun h15 => ?_)
  ·refine Wn <| WC.cT rfl <| WC.assoc <| Rg 1 rfl <| Ua rfl rfl <| Wn <| WC.rets <| post (n := 0) (.inr rfl) rfl (congrArg (fun z => LV.v (.int .i64 z)) ?_) (by simp)
   have := val_lt_len (B := B32) (by decide) hx ty (by omega)
   exact (Int.sign_eq_neg_one_of_neg (by omega)).symm
  refine Wn <| WC.cF rfl <| WC.skips <| WC.assoc <| Rg 1 rfl <| Ua rfl rfl <| Wn <| WC.rets <| post (n := 0) (.inr rfl) rfl (congrArg (fun z => LV.v (.int .i64 z)) ?_) (by simp)
  have := val_lt_len (B := B32) (by decide) hy tx (by omega)
  exact (Int.sign_eq_one_of_pos (by omega)).symm
 have hlen : xs.length = ys.length := by omega
 refine Wn <| WC.cF rfl <| WC.skips <| WC.assoc <| Rg 4 rfl <| Um rfl rfl <| WO.U (oLenM rfl rfl) rfl <| WO.U (oSub64 rfl rfl (by omega)) rfl <| Ua rfl rfl <| Wn <| WC.block <| WC.loopV (α := Nat) (fun k => [(0, .sl k1 (xs.map d32)), (1, .sl k2 (ys.map d32)), (5, .v (.int .i64 ((k : Int) - 1)))]) (fun k => []) (fun k n => k ≤ xs.length ∧ xs.drop k = ys.drop k) (fun k => k) (xs.length) ⟨rfl, rfl, rfl, trivial⟩ trivial ⟨Nat.le_refl _, by rw [List.drop_length, hlen, List.drop_length]⟩ ?_
 rintro k n hF
 change WC _ _ _ _ _ [(0, .sl k1 (xs.map d32)), (1, .sl k2 (ys.map d32)), (5, .v (.int .i64 ((k : Int) - 1)))] ([]) n _
 obtain ⟨hk, hd⟩ := hF
 refine WC.assoc <| Rg 2 rfl <| Um rfl rfl <| WO.U (oGeq rfl rfl) rfl <| WO.D (fun h20 => ?_) (fun h20 => ?_)
 rotate_left
 ·refine Wn <| WC.cF rfl <| WC.exits <| loopR_exit <| after_exit rfl <| Rg 1 rfl <| Ua rfl rfl <| Wn <| WC.ret <| post (n := 0) (.inr rfl) rfl (congrArg (fun z => LV.v (.int .i64 z)) ?_) (by simp)
  have h0 : k = 0 := by omega
  subst h0
  simp only [List.drop_zero] at hd
  subst hd
  simp
 refine Wn <| WC.cT rfl <| WC.skips <| WC.block <| WC.draw (z := 9) rfl (by kernel_rfl) <| Dm rfl rfl <| Dm rfl rfl <| WD.U (oIxM (j := k - 1) rfl rfl rfl rfl (by omega) (by omega) rfl) rfl <| WD.U (oLd rfl rfl rfl) rfl <| Dm rfl rfl <| Dm rfl rfl <| WD.U (oIxM (j := k - 1) rfl rfl rfl rfl (by omega) (by omega) rfl) rfl <| WD.U (oLd rfl rfl rfl) rfl <| WD.U (oNeq rfl rfl) rfl <| WD.D (fun h31 => ?_) (fun h31 => ?_)
 rotate_left
 ·refine WD.nil (drawOk_of (by kernel_rfl)) rfl <| WC.cF1 rfl <| WC.skip <| after_normal <| WC.reg1z (z := 3) rfl <| Um rfl rfl <| WO.U (cI (((k - 1 : Nat) : Int) - 1) (oSub64 rfl rfl (by omega)) (by omega)) rfl <| Ua rfl rfl <| Wn <| loopR_normal ?_
  have hj : k - 1 + 1 = k := by omega
  refine ⟨k - 1, ⟨rfl, rfl, rfl, trivial⟩, trivial, ⟨by omega, ?_⟩, by show k - 1 < k; omega⟩
  rw [drop_cons_getD (by omega : k - 1 < xs.length), drop_cons_getD (by omega : k - 1 < ys.length), hj, hd]
  congr 1; omega
 refine WD.nil (drawOk_of (by kernel_rfl)) rfl <| WC.cT1 rfl <| WC.assoc <| WC.draw (z := 9) rfl (by kernel_rfl) <| Dm rfl rfl <| Dm rfl rfl <| WD.U (oIxM (j := k - 1) rfl rfl rfl rfl (by omega) (by omega) rfl) rfl <| WD.U (oLd rfl rfl rfl) rfl <| Dm rfl rfl <| Dm rfl rfl <| WD.U (oIxM (j := k - 1) rfl rfl rfl rfl (by omega) (by omega) rfl) rfl <| WD.U (oLd rfl rfl rfl) rfl <| WD.U (oLss rfl rfl) rfl <| WD.D (fun h40 => ?_) (fun h40 => ?_)
 ·refine WD.nil (drawOk_of (by kernel_rfl)) rfl <| WC.weak [(40, _)] ⟨rfl, trivial⟩ <| WC.cT rfl <| WC.assoc <| Rg 1 rfl <| Ua rfl rfl <| Wn <| WC.rets <| after_ret <| loopR_ret <| after_ret <| post (n := 0) (.inr rfl) rfl (congrArg (fun z => LV.v (.int .i64 z)) ?_) (by simp)
  have hj : k - 1 + 1 = k := by omega
  have := val_lt_at (B := B32) (ys := ys) (by decide) hx (k := k - 1) (by omega) (by omega) (by rw [hj]; exact hd) (by omega)
  exact (Int.sign_eq_neg_one_of_neg (by omega)).symm
 refine WD.nil (drawOk_of (by kernel_rfl)) rfl <| WC.weak [(40, _)] ⟨rfl, trivial⟩ <| WC.cF rfl <| WC.skips <| Rg 1 rfl <| Ua rfl rfl <| Wn <| WC.ret <| after_ret <| loopR_ret <| after_ret <| post (n := 0) (.inr rfl) rfl (congrArg (fun z => LV.v (.int .i64 z)) ?_) (by simp)
 have hj : k - 1 + 1 = k := by omega
 have := val_lt_at (B := B32) (ys := xs) (by decide) hy (k := k - 1) (by omega) (by omega) (by rw [hj]; exact hd.symm) (by omega)
 exact (Int.sign_eq_one_of_pos (by omega)).symm
end Go.Proofs.Ytcmieifjephdcaa
set_option linter.unusedVariables false
set_option linter.unusedSimpArgs false
set_option maxRecDepth 100000
namespace Go.Proofs.Ytcmieifjephdcaa
open Go.Ab Go.RowKit
theorem sub32_run (x y c : Nat) (hx : x < 4294967296) (hy : y < 4294967296) (hc : c ≤ 1) : Run Try.prog T E0 (.call 110 [.v (.int .u32 (x : Int)), .v (.int .u32 (y : Int)), .v (.int .u32 (c : Int))] (.tup [.v (.int .u32 ((((x + 8589934592 - y - c) % 4294967296) : Nat) : Int)), .v (.int .u32 ((if x < y + c then 1 else 0 : Nat) : Int))])) := by
 have hxy : x ^^^ y < 4294967296 := Nat.xor_lt_two_pow (n := 32) hx hy
 refine mkcall Try.func110 rfl rfl (Nat.le_of_ble_eq_true rfl) <| Rg 2 rfl <| Ua rfl rfl <| Ua rfl rfl <| Wn <| Rg 6 rfl <| Um rfl rfl <| Um rfl rfl <| WO.U (oSub32 rfl rfl) rfl <| Um rfl rfl <| WO.U (cI (((((x + 8589934592 - y - c) % 4294967296) : Nat) : Int)) (oSub32 rfl rfl) (by omega)) rfl <| Ua rfl rfl <| Wn <| Rg 13 rfl <| Um rfl rfl <| WO.U (oCom32 (a := x) rfl hx) rfl <| Um rfl rfl <| WO.U (oBin (v := .int .u32 (((4294967295 - x) &&& y : Nat) : Int)) rfl rfl (and32 (by omega) hy)) rfl <| Um rfl rfl <| Um rfl rfl <| WO.U (oBin (v := .int .u32 ((x ^^^ y : Nat) : Int)) rfl rfl (xor32 hx hy)) rfl <| WO.U (oCom32 (a := x ^^^ y) rfl hxy) rfl <| Um rfl rfl <| WO.U (oBin (v := .int .u32 (((4294967295 - (x ^^^ y)) &&& ((x + 8589934592 - y - c) % 4294967296) : Nat) : Int)) rfl rfl (and32 (by omega) (by omega))) rfl ?_
 refine WO.U (oBin (v := .int .u32 ((((4294967295 - x) &&& y) ||| ((4294967295 - (x ^^^ y)) &&& ((x + 8589934592 - y - c) % 4294967296)) : Nat) : Int)) rfl rfl (or32 (Nat.lt_of_le_of_lt Nat.and_le_right hy) (Nat.lt_of_le_of_lt Nat.and_le_left (by omega)))) rfl <| WO.U (cI (((if x < y + c then 1 else 0 : Nat) : Int)) (oShr32 (s := 31) rfl rfl (by omega)) (by rw [← borrow hx hy hc (d := ((x + 8589934592 - y - c) % 4294967296)) (by omega)]; rfl)) rfl <| Ua rfl rfl <| Nw [(6, _), (7, _)] ⟨rfl, rfl, trivial⟩ <| WC.ret ?_
 exact post (n := 0) (.inr rfl) rfl rfl (by simp)
theorem plus_run (k1 k2 : Nat) (xs ys : List Nat) (hx : Dg B32 xs) (hy : Dg B32 ys) (lx : xs.length < 1099511627776) (ly : ys.length < 1099511627776) : ∃ r, Run Try.prog T E0 (.call 97 [.sl k1 (xs.map d32), .sl k2 (ys.map d32)] r) ∧ ∃ ds, r = .sl 1 (ds.map d32) ∧ Dg B32 ds ∧ val B32 ds = val B32 xs + val B32 ys ∧ ds.length ≤ max xs.length ys.length + 1 := by
 refine mkcallE Try.func97 rfl rfl (Nat.le_of_ble_eq_true rfl) ?_
 have J3 : ∀ (k1 k2 : Nat) (us ws : List Nat) (hu : Dg B32 us) (hw : Dg B32 ws) (hle : ws.length ≤ us.length) (hm : us.length ≤ max xs.length ys.length) (hs : val B32 us + val B32 ws = val B32 xs + val B32 ys) (n : Nat) , WC Try.prog T E0 Try.f97.ntmps (codeR (codeR (codeOf Try.f97))) [(0, .sl k1 (us.map d32)), (1, .sl k2 (ws.map d32))] [] n (fun x e h n => ∃ r, (∃ ds, r = .sl 1 (ds.map d32) ∧ Dg B32 ds ∧ val B32 ds = val B32 xs + val B32 ys ∧ ds.length ≤ max xs.length ys.length + 1) ∧ Post T Try.f97.results.toList r x e h n) := by
  intro k1 k2 us ws hu hw hle hm hs n
  refine Rg 5 rfl <| Um rfl rfl <| WO.U (oLenM rfl rfl) rfl <| WO.U (oAdd64 rfl rfl (by omega)) rfl <| WO.S (oMk (a := 0) (b := us.length + 1) rfl rfl rfl rfl rfl rfl (by decide) (by omega) (by show 4 * (us.length + 1) ≤ _; omega) (by omega)) rfl <| Ua rfl rfl <| Wn <| Rg 1 rfl <| Ua rfl rfl <| Wn <| WC.assoc <| Rg 3 rfl <| Um rfl rfl <| WO.U (oLenM rfl rfl) rfl <| Um rfl rfl <| Wn <| WC.block <| WC.loopV (α := Nat × Nat × (List Nat)) (fun ⟨c, q, ds⟩ => [(0, .sl k1 (us.map d32)), (1, .sl k2 (ws.map d32)), (5, .ref q 1 0 ds.length), (6, .v (.int .u32 (c : Int))), (22, .v (.int .i64 (us.length : Int))), (23, .v (.int .i64 (ds.length : Int)))]) (fun ⟨c, q, ds⟩ => [(q, { cells := (ds.map d32).flatten, sz := 1, elem := 109, st := 0 })]) (fun ⟨c, q, ds⟩ n => ds.length ≤ us.length ∧ Dg B32 ds ∧ c ≤ 1 ∧ val B32 ds + B32 ^ ds.length * c = val B32 (us.take ds.length) + val B32 (ws.take ds.length)) (fun ⟨c, q, ds⟩ => us.length - ds.length) (0, n + 3, []) ⟨rfl, rfl, rfl, rfl, rfl, rfl, trivial⟩ ⟨g0, trivial⟩ ⟨Nat.zero_le _, by intro d hd; simp at hd, by omega, by simp [val]⟩ ?_
  rintro ⟨c, q, ds⟩ n hF
  change WC _ _ _ _ _ [(0, .sl k1 (us.map d32)), (1, .sl k2 (ws.map d32)), (5, .ref q 1 0 ds.length), (6, .v (.int .u32 (c : Int))), (22, .v (.int .i64 (us.length : Int))), (23, .v (.int .i64 (ds.length : Int)))] ([(q, { cells := (ds.map d32).flatten, sz := 1, elem := 109, st := 0 })]) n _
  obtain ⟨hdl, hdd, hc, hi⟩ := hF
  refine Rg 1 rfl <| WO.U (oLss rfl rfl) rfl <| WO.D (fun h24 => ?_) (fun h24 => ?_)
  rotate_left
  ·refine Wn <| WC.cF rfl <| WC.exits <| loopR_exit <| after_exit rfl <| Rg 5 rfl <| Um rfl rfl <| Um rfl rfl <| WO.U (oBs' (cs := [_]) (rows := [[_]]) rfl rfl (by decide) rfl rfl rfl) rfl <| WO.S (oApM (f := d32) rfl rfl rfl rfl rfl (fun _ => rfl) (by decide) g0 (by show (2 * (ds.length + 1) + 256) * 4 ≤ _; omega) (by omega)) rfl <| Ua rfl rfl <| Wn <| WC.ret <| ⟨.sl 1 ((ds ++ [c]).map d32), ⟨_, rfl, hdd.snoc (by show c < 4294967296; omega), ?_, by simp; omega⟩, postRef (n := 0) _ (.inr rfl) rfl (by simp) g0 (by show (0 : Nat) ≠ 2; decide) rfl (by decide) rfl rows_d32 data_rows_d32⟩
   have hl : ds.length = us.length := by omega
   rw [val_snoc, hi, List.take_of_length_le (by omega), List.take_of_length_le (by omega), hs]
  refine Wn <| WC.cT rfl <| WC.skips <| WC.block <| Rg 2 rfl <| Um rfl rfl <| Ua rfl rfl <| Wn <| Rg 1 rfl <| Ua rfl rfl <| Wn <| WC.assoc <| Rg 4 rfl <| Um rfl rfl <| Um rfl rfl <| WO.U (oLenM rfl rfl) rfl <| WO.U (oLss rfl rfl) rfl <| WO.D (fun h29 => ?_) (fun h29 => ?_)
  rotate_left
  ·refine Wn <| WC.cF rfl <| WC.skips <| Rg 1 rfl <| Ua rfl rfl <| Nw [(0, _), (1, _), (5, _), (6, _), (7, _), (8, _), (22, _), (23, _)] ⟨rfl, rfl, rfl, rfl, rfl, rfl, rfl, rfl, trivial⟩ ?_
   have hxl : us.getD ds.length default < 4294967296 := getD_lt hu (by omega)
   refine Rg 12 rfl <| Um rfl rfl <| Um rfl rfl <| WO.U (oIxM rfl rfl rfl rfl rfl (by omega) rfl) rfl <| WO.U (oLd rfl rfl rfl) rfl <| Um rfl rfl <| Um rfl rfl <| WO.U (oCall rfl (add32_run (us.getD ds.length default) 0 c hxl (by decide) hc) (by simp)) rfl <| Um rfl rfl <| WO.U (oEx rfl rfl) rfl <| WO.U (oEx rfl rfl) rfl <| Ua rfl rfl <| Ua rfl rfl <| Nw [(0, _), (1, _), (5, _), (6, _), (9, _), (22, _), (23, _)] ⟨rfl, rfl, rfl, rfl, rfl, rfl, rfl, trivial⟩ <| WC.reg1z (z := 5) rfl <| Um rfl rfl <| Um rfl rfl <| WO.U (oBs' (cs := [_]) (rows := [[_]]) rfl rfl (by decide) rfl rfl rfl) rfl <| WO.S (oApM (f := d32) rfl rfl rfl rfl rfl (fun _ => rfl) (by decide) g0 (by show (2 * (ds.length + 1) + 256) * 4 ≤ _; omega) (by omega)) rfl <| Ua rfl rfl <| Wn <| after_normal <| WC.reg1z (z := 2) rfl ?_
   refine WO.U (cI (((ds.length + 1 : Nat) : Int)) (oAdd64 rfl rfl (by omega)) (by omega)) rfl <| Um rfl rfl <| Wn <| loopR_normal <| ⟨⟨_, _, ds ++ [_]⟩, ⟨rfl, rfl, rfl, rfl, rfl, congrArg some (by simp), trivial⟩, ⟨g0, trivial⟩, ⟨by simp; omega, hdd.snoc (Nat.mod_lt _ (by decide)), by omega, plus_step hi rfl (getD_out (by omega)).symm⟩, by simp; omega⟩
  refine Wn <| WC.cT rfl <| Rg 5 rfl <| Um rfl rfl <| Um rfl rfl <| WO.U (oIxM rfl rfl rfl rfl rfl (by omega) rfl) rfl <| WO.U (oLd rfl rfl rfl) rfl <| Ua rfl rfl <| Nw [(0, _), (1, _), (5, _), (6, _), (7, _), (8, _), (22, _), (23, _)] ⟨rfl, rfl, rfl, rfl, rfl, rfl, rfl, rfl, trivial⟩ <| Rg 1 rfl <| Ua rfl rfl <| WO.nil ?_
  have hxl : us.getD ds.length default < 4294967296 := getD_lt hu (by omega)
  have hyl : ws.getD ds.length default < 4294967296 := getD_lt hw (by omega)
  refine Rg 12 rfl <| Um rfl rfl <| Um rfl rfl <| WO.U (oIxM rfl rfl rfl rfl rfl (by omega) rfl) rfl <| WO.U (oLd rfl rfl rfl) rfl <| Um rfl rfl <| Um rfl rfl <| WO.U (oCall rfl (add32_run (us.getD ds.length default) (ws.getD ds.length default) c hxl hyl hc) (by simp)) rfl <| Um rfl rfl <| WO.U (oEx rfl rfl) rfl <| WO.U (oEx rfl rfl) rfl <| Ua rfl rfl <| Ua rfl rfl <| Nw [(0, _), (1, _), (5, _), (6, _), (9, _), (22, _), (23, _)] ⟨rfl, rfl, rfl, rfl, rfl, rfl, rfl, trivial⟩ <| WC.reg1z (z := 5) rfl <| Um rfl rfl <| Um rfl rfl <| WO.U (oBs' (cs := [_]) (rows := [[_]]) rfl rfl (by decide) rfl rfl rfl) rfl <| WO.S (oApM (f := d32) rfl rfl rfl rfl rfl (fun _ => rfl) (by decide) g0 (by show (2 * (ds.length + 1) + 256) * 4 ≤ _; omega) (by omega)) rfl <| Ua rfl rfl <| Wn <| after_normal <| WC.reg1z (z := 2) rfl ?_
  refine WO.U (cI (((ds.length + 1 : Nat) : Int)) (oAdd64 rfl rfl (by omega)) (by omega)) rfl <| Um rfl rfl <| Wn <| loopR_normal <| ⟨⟨_, _, ds ++ [_]⟩, ⟨rfl, rfl, rfl, rfl, rfl, congrArg some (by simp), trivial⟩, ⟨g0, trivial⟩, ⟨by simp; omega, hdd.snoc (Nat.mod_lt _ (by decide)), by omega, plus_step hi rfl rfl⟩, by simp; omega⟩
 refine Rg 1 rfl <| Ua rfl rfl <| Wn <| WC.assoc <| Rg 5 rfl <| Um rfl rfl <| WO.U (oLenM rfl rfl) rfl <| Um rfl rfl <| WO.U (oLenM rfl rfl) rfl <| WO.U (oLss rfl rfl) rfl <| WO.D (fun h14 => ?_) (fun h14 => ?_)
 rotate_left
 ·refine Wn <| WC.cF rfl <| WC.skips <| WC.weak [(0, _), (1, _)] ⟨rfl, rfl, trivial⟩ ?_
  exact J3 _ _ xs ys hx hy (by omega) (by omega) rfl _
 refine Wn <| WC.cT rfl <| Rg 4 rfl <| Um rfl rfl <| Um rfl rfl <| Ua rfl rfl <| Ua rfl rfl <| Nw [(0, _), (1, _)] ⟨rfl, rfl, trivial⟩ ?_
 exact J3 _ _ ys xs hy hx (by omega) (by omega) (by omega) _
theorem minus_run (k1 k2 : Nat) (xs ys : List Nat) (hx : Dg B32 xs) (hy : Dg B32 ys) (lx : xs.length < 1099511627776) (hle : ys.length ≤ xs.length) (hv : val B32 ys ≤ val B32 xs) : ∃ r, Run Try.prog T E0 (.call 99 [.sl k1 (xs.map d32), .sl k2 (ys.map d32)] r) ∧ ∃ ds, r = .sl 1 (ds.map d32) ∧ Dg B32 ds ∧ val B32 ds = val B32 xs - val B32 ys ∧ ds.length = xs.length := by
 refine mkcallE Try.func99 rfl rfl (Nat.le_of_ble_eq_true rfl) <| Rg 1 rfl <| Ua rfl rfl <| Wn <| Rg 4 rfl <| Um rfl rfl <| WO.U (oLenM rfl rfl) rfl <| WO.S (oMk (a := 0) (b := xs.length) rfl rfl rfl rfl rfl rfl (by decide) (by omega) (by show 4 * xs.length ≤ _; omega) (by omega)) rfl <| Ua rfl rfl <| Wn <| Rg 1 rfl <| Ua rfl rfl <| Wn <| WC.assoc <| Rg 3 rfl <| Um rfl rfl <| WO.U (oLenM rfl rfl) rfl <| Um rfl rfl <| Wn <| WC.block <| WC.loopV (α := Nat × Nat × (List Nat)) (fun ⟨c, q, ds⟩ => [(0, .sl k1 (xs.map d32)), (1, .sl k2 (ys.map d32)), (5, .ref q 1 0 ds.length), (6, .v (.int .u32 (c : Int))), (14, .v (.int .i64 (xs.length : Int))), (15, .v (.int .i64 (ds.length : Int)))]) (fun ⟨c, q, ds⟩ => [(q, { cells := (ds.map d32).flatten, sz := 1, elem := 109, st := 0 })]) (fun ⟨c, q, ds⟩ n => ds.length ≤ xs.length ∧ Dg B32 ds ∧ c ≤ 1 ∧ val B32 (xs.take ds.length) + B32 ^ ds.length * c = val B32 ds + val B32 (ys.take ds.length)) (fun ⟨c, q, ds⟩ => xs.length - ds.length) (0, 0 + 1 + 2, []) ⟨rfl, rfl, rfl, rfl, rfl, rfl, trivial⟩ ⟨g0, trivial⟩ ⟨Nat.zero_le _, by intro d hd; simp at hd, by omega, by simp [val]⟩ ?_
 rintro ⟨c, q, ds⟩ n hF
 change WC _ _ _ _ _ [(0, .sl k1 (xs.map d32)), (1, .sl k2 (ys.map d32)), (5, .ref q 1 0 ds.length), (6, .v (.int .u32 (c : Int))), (14, .v (.int .i64 (xs.length : Int))), (15, .v (.int .i64 (ds.length : Int)))] ([(q, { cells := (ds.map d32).flatten, sz := 1, elem := 109, st := 0 })]) n _
 obtain ⟨hdl, hdd, hc, hi⟩ := hF
 refine Rg 1 rfl <| WO.U (oLss rfl rfl) rfl <| WO.D (fun h16 => ?_) (fun h16 => ?_)
 rotate_left
 ·refine Wn <| WC.cF rfl <| WC.exits <| loopR_exit <| after_exit rfl <| Rg 2 rfl <| Um rfl rfl <| Ua rfl rfl <| Wn <| WC.ret <| ⟨.sl 1 (ds.map d32), ⟨_, rfl, hdd, ?_, by omega⟩, postRef (n := 0) _ (.inr rfl) rfl (by simp) g0 (by show (0 : Nat) ≠ 2; decide) rfl (by decide) rfl rows_d32 data_rows_d32⟩
  have hl : ds.length = xs.length := by omega
  rw [List.take_of_length_le (by omega), List.take_of_length_le (by omega)] at hi
  have hlt := val_lt (B := B32) (by decide) hdd
  rcases (show c = 0 ∨ c = 1 by omega) with rfl | rfl
  ·omega
  ·omega
 refine Wn <| WC.cT rfl <| WC.skips <| WC.block <| Rg 2 rfl <| Um rfl rfl <| Ua rfl rfl <| Wn <| Rg 1 rfl <| Ua rfl rfl <| Wn <| WC.assoc <| Rg 4 rfl <| Um rfl rfl <| Um rfl rfl <| WO.U (oLenM rfl rfl) rfl <| WO.U (oLss rfl rfl) rfl <| WO.D (fun h21 => ?_) (fun h21 => ?_)
 rotate_left
 ·refine Wn <| WC.cF rfl <| WC.skips <| Rg 1 rfl <| Ua rfl rfl <| Nw [(0, _), (1, _), (5, _), (6, _), (7, _), (8, _), (14, _), (15, _)] ⟨rfl, rfl, rfl, rfl, rfl, rfl, rfl, rfl, trivial⟩ ?_
  have hxl : xs.getD ds.length default < 4294967296 := getD_lt hx (by omega)
  refine Rg 12 rfl <| Um rfl rfl <| Um rfl rfl <| WO.U (oIxM rfl rfl rfl rfl rfl (by omega) rfl) rfl <| WO.U (oLd rfl rfl rfl) rfl <| Um rfl rfl <| Um rfl rfl <| WO.U (oCall rfl (sub32_run (xs.getD ds.length default) 0 c hxl (by decide) hc) (by simp)) rfl <| Um rfl rfl <| WO.U (oEx rfl rfl) rfl <| WO.U (oEx rfl rfl) rfl <| Ua rfl rfl <| Ua rfl rfl <| Nw [(0, _), (1, _), (5, _), (6, _), (9, _), (14, _), (15, _)] ⟨rfl, rfl, rfl, rfl, rfl, rfl, rfl, trivial⟩ <| WC.reg1z (z := 5) rfl <| Um rfl rfl <| Um rfl rfl <| WO.U (oBs' (cs := [_]) (rows := [[_]]) rfl rfl (by decide) rfl rfl rfl) rfl <| WO.S (oApM (f := d32) rfl rfl rfl rfl rfl (fun _ => rfl) (by decide) g0 (by show (2 * (ds.length + 1) + 256) * 4 ≤ _; omega) (by omega)) rfl <| Ua rfl rfl <| Wn <| after_normal <| WC.reg1z (z := 2) rfl ?_
  refine WO.U (cI (((ds.length + 1 : Nat) : Int)) (oAdd64 rfl rfl (by omega)) (by omega)) rfl <| Um rfl rfl <| Wn <| loopR_normal <| ⟨⟨_, _, ds ++ [_]⟩, ⟨rfl, rfl, rfl, rfl, rfl, congrArg some (by simp), trivial⟩, ⟨g0, trivial⟩, ⟨by simp; omega, hdd.snoc (Nat.mod_lt _ (by decide)), by split <;> omega, minus_step hi rfl (getD_out (by omega)).symm (by show _ = _ + 4294967296 * _; split <;> omega)⟩, by simp; omega⟩
 refine Wn <| WC.cT rfl <| Rg 5 rfl <| Um rfl rfl <| Um rfl rfl <| WO.U (oIxM rfl rfl rfl rfl rfl (by omega) rfl) rfl <| WO.U (oLd rfl rfl rfl) rfl <| Ua rfl rfl <| Nw [(0, _), (1, _), (5, _), (6, _), (7, _), (8, _), (14, _), (15, _)] ⟨rfl, rfl, rfl, rfl, rfl, rfl, rfl, rfl, trivial⟩ <| Rg 1 rfl <| Ua rfl rfl <| WO.nil ?_
 have hxl : xs.getD ds.length default < 4294967296 := getD_lt hx (by omega)
 have hyl : ys.getD ds.length default < 4294967296 := getD_lt hy (by omega)
 refine Rg 12 rfl <| Um rfl rfl <| Um rfl rfl <| WO.U (oIxM rfl rfl rfl rfl rfl (by omega) rfl) rfl <| WO.U (oLd rfl rfl rfl) rfl <| Um rfl rfl <| Um rfl rfl <| WO.U (oCall rfl (sub32_run (xs.getD ds.length default) (ys.getD ds.length default) c hxl hyl hc) (by simp)) rfl <| Um rfl rfl <| WO.U (oEx rfl rfl) rfl <| WO.U (oEx rfl rfl) rfl <| Ua rfl rfl <| Ua rfl rfl <| Nw [(0, _), (1, _), (5, _), (6, _), (9, _), (14, _), (15, _)] ⟨rfl, rfl, rfl, rfl, rfl, rfl, rfl, trivial⟩ <| WC.reg1z (z := 5) rfl <| Um rfl rfl <| Um rfl rfl <| WO.U (oBs' (cs := [_]) (rows := [[_]]) rfl rfl (by decide) rfl rfl rfl) rfl <| WO.S (oApM (f := d32) rfl rfl rfl rfl rfl (fun _ => rfl) (by decide) g0 (by show (2 * (ds.length + 1) + 256) * 4 ≤ _; omega) (by omega)) rfl <| Ua rfl rfl <| Wn <| after_normal <| WC.reg1z (z := 2) rfl ?_
 refine WO.U (cI (((ds.length + 1 : Nat) : Int)) (oAdd64 rfl rfl (by omega)) (by omega)) rfl <| Um rfl rfl <| Wn <| loopR_normal <| ⟨⟨_, _, ds ++ [_]⟩, ⟨rfl, rfl, rfl, rfl, rfl, congrArg some (by simp), trivial⟩, ⟨g0, trivial⟩, ⟨by simp; omega, hdd.snoc (Nat.mod_lt _ (by decide)), by split <;> omega, minus_step hi rfl rfl (by show _ = _ + 4294967296 * _; split <;> omega)⟩, by simp; omega⟩
theorem made_run (s : Int) (k : Nat) (ds : List Nat) (hs : s = 1 ∨ s = -1 ∨ s = 0 ∧ val B32 ds = 0) (hk : k = 1 ∨ k = 2) (hd : Dg B32 ds) (hl : ds.length < 4611686018427387904) : Run Try.prog T E0 (.call 90 [.v (.int .i64 s), .sl k (ds.map d32)] (lvI (s * val B32 ds))) := by
 have hkk : (if k = 0 then 0 else 1) = 1 := by rw [if_neg (by omega)]
 have htd := trim_dg hd
 have hrun := trim_run k ds (by omega) hl
 rw [hkk] at hrun
 have htl : (trim ds).length ≤ ds.length := by
  unfold trim; simpa using (List.dropWhile_sublist (· == 0) (l := ds.reverse)).length_le
 generalize hes : trim ds = es at *
 refine mkcall Try.func90 rfl rfl (Nat.le_of_ble_eq_true rfl) <| Rg 1 rfl <| WO.S (oAl rfl) rfl <| Wn <| Rg 3 rfl <| Um rfl rfl <| WO.U (oCall rfl (hrun) (by simp)) rfl <| Ua rfl rfl <| Wn <| WC.assoc <| Rg 3 rfl <| Um rfl rfl <| WO.U (oLenM rfl rfl) rfl <| WO.U (oLeq rfl rfl) rfl <| WO.D (fun h12 => ?_) (fun h12 => ?_)
 rotate_left
 ·refine Wn <| WC.cF rfl <| WC.skips <| Rg 4 rfl <| Um rfl rfl <| Um rfl rfl <| WO.U (oBd (cs := [_, _]) rfl rfl rfl rfl rfl) rfl <| WO.S0 (oSt (cs' := [_, _]) rfl rfl rfl rfl rfl rfl rfl rfl) <| Wn <| WC.ret <| post (n := 0) (.inr rfl) rfl ?_ (by simp)
  have hb := val_big hd (by rw [hes]; omega)
  rw [lvI_made hd (by have : val B32 ds = val 4294967296 ds := rfl; omega) hb, hes]; rfl
 refine Wn <| WC.cT rfl <| WC.assoc <| Rg 1 rfl <| Ua rfl rfl <| Wn <| WC.assoc <| WC.assoc <| Rg 3 rfl <| Um rfl rfl <| WO.U (oLenM rfl rfl) rfl <| Um rfl rfl <| Wn <| WC.block <| WC.loopV (α := Nat × Nat) (fun ⟨i, m⟩ => [(0, .v (.int .i64 s)), (1, .sl 1 (es.map d32)), (4, .ptr 0 0), (5, .v (.int .u64 (m : Int))), (13, .sl 1 (es.map d32)), (14, .v (.int .i64 (es.length : Int))), (15, .v (.int .i64 (i : Int)))]) (fun ⟨i, m⟩ => [(0, { cells := [.v (.int .i64 0), .sl 0 []], sz := 2, elem := 56, st := 0 })]) (fun ⟨i, m⟩ n => i ≤ es.length ∧ m = val B32 (es.take i)) (fun ⟨i, m⟩ => es.length - i) (0, 0) ⟨rfl, rfl, rfl, rfl, rfl, rfl, rfl, trivial⟩ ⟨rfl, trivial⟩ ⟨Nat.zero_le _, by simp [val]⟩ ?_
 rintro ⟨i, m⟩ n hF
 change WC _ _ _ _ _ [(0, .v (.int .i64 s)), (1, .sl 1 (es.map d32)), (4, .ptr 0 0), (5, .v (.int .u64 (m : Int))), (13, .sl 1 (es.map d32)), (14, .v (.int .i64 (es.length : Int))), (15, .v (.int .i64 (i : Int)))] ([(0, { cells := [.v (.int .i64 0), .sl 0 []], sz := 2, elem := 56, st := 0 })]) n _
 obtain ⟨hi, hm⟩ := hF
 refine Rg 1 rfl <| WO.U (oLss rfl rfl) rfl <| WO.D (fun h16 => ?_) (fun h16 => ?_)
 ·refine Wn <| WC.cT rfl <| WC.skips <| WC.block <| Rg 5 rfl <| Um rfl rfl <| WO.U (oIxM rfl rfl rfl rfl rfl (by omega) rfl) rfl <| WO.U (oLd rfl rfl rfl) rfl <| Ua rfl rfl <| Ua rfl rfl <| WO.nil ?_
  have hxl : es.getD i default < 4294967296 := getD_lt htd (by omega)
  have hml : m < 4294967296 ^ i := by
   have := val_lt (B := 4294967296) (by decide) (htd.take i)
   rw [List.length_take, Nat.min_eq_left hi] at this
   rw [hm]; exact this
  refine WC.reg1z (z := 8) rfl <| Um rfl rfl <| Um rfl rfl <| WO.U (cI (((es.getD i default : Nat) : Int)) (oCnv rfl rfl rfl) (by rw [IntKind.wrap_u64]; omega)) rfl <| Um rfl rfl <| WO.U (cI (((32 * i : Nat) : Int)) (oMul64 rfl rfl (by omega)) (by omega)) rfl <| WO.U (cI (((es.getD i default * 4294967296 ^ i : Nat) : Int)) (oShlU (s := 32 * i) rfl rfl (by omega)) (shl_dig (by omega) hxl)) rfl <| WO.U (oBin (v := .int .u64 ((m + 4294967296 ^ i * es.getD i default : Nat) : Int)) rfl rfl (or_dig (by omega) hxl hml)) rfl <| Ua rfl rfl <| Wn <| after_normal <| WC.weak [(0, _), (1, _), (4, _), (5, _), (13, _), (14, _), (15, _)] ⟨rfl, rfl, rfl, rfl, rfl, rfl, rfl, trivial⟩ <| WC.reg1z (z := 2) rfl <| WO.U (cI (((i + 1 : Nat) : Int)) (oAdd64 rfl rfl (by omega)) (by omega)) rfl <| Um rfl rfl <| Wn <| loopR_normal <| ⟨⟨i + 1, _⟩, ⟨rfl, rfl, rfl, rfl, rfl, rfl, rfl, trivial⟩, ⟨rfl, trivial⟩, ⟨by omega, ?_⟩, by show es.length - (i + 1) < es.length - i; omega⟩
  rw [take_succ_val, hm]
 refine Wn <| WC.cF rfl <| WC.exits <| loopR_exit <| after_exit rfl <| WC.assoc <| Rg 2 rfl <| Um rfl rfl <| WO.U (oLss rfl rfl) rfl <| WO.D (fun h29 => ?_) (fun h29 => ?_)
 rotate_left
 ·refine Wn <| WC.cF rfl <| WC.skips <| Rg 4 rfl <| Um rfl rfl <| Um rfl rfl <| WO.U (oBd (cs := [_, _]) rfl rfl rfl rfl rfl) rfl <| WO.S0 (oSt (cs' := [_, _]) rfl rfl rfl rfl rfl rfl rfl rfl) <| Wn <| WC.ret ?_
  have hE : m = val B32 ds := by
   rw [hm, List.take_of_length_le (by omega), ← hes, trim_val]
  refine post (n := 0) (.inr rfl) rfl ?_ (by simp)
  rw [lvI_made hd (by omega) (by show 4611686018427387904 ≤ val B32 ds; omega), hes]; rfl
 refine Wn <| WC.cT rfl <| WC.assoc <| Rg 6 rfl <| Um rfl rfl <| Um rfl rfl <| WO.U (cI ((m : Int)) (oCnv rfl rfl rfl) (by rw [IntWalk.i64_in _ (by omega)])) rfl <| WO.U (oMul64 rfl rfl (by rcases hs with rfl | rfl | ⟨rfl, _⟩ <;> omega)) rfl <| WO.U (oBd (cs := [_, _]) rfl rfl rfl rfl rfl) rfl <| WO.S0 (oSt (cs' := [_, _]) rfl rfl rfl rfl rfl rfl rfl rfl) <| Nw [(4, _)] ⟨rfl, trivial⟩ <| WC.rets ?_
 have hE : m = val B32 ds := by
  rw [hm, List.take_of_length_le (by omega), ← hes, trim_val]
 refine post (n := 0) (.inr rfl) rfl ?_ (by simp)
 rw [lvI_small (by unfold small; rw [← hE]; rcases hs with rfl | rfl | ⟨rfl, _⟩ <;> omega), ← hE]; rfl
end Go.Proofs.Ytcmieifjephdcaa
set_option linter.unusedVariables false
set_option linter.unusedSimpArgs false
set_option maxRecDepth 100000
namespace Go.Proofs.Ytcmieifjephdcaa
open Go.Ab Go.RowKit
theorem ia0 {v : Int} (h : v.sign = 0) : v = 0 := Int.sign_eq_zero_iff_zero.1 h
theorem add_run (v w : Int) (hv : len32 v < 1099511627775) (hw : len32 w < 1099511627775) : Run Try.prog T E0 (.call 86 [lvI v, lvI w] (lvI (v + w))) := by
 have bv := ia_bd v
 have bw := ia_bd w
 have ev := sign_mul_abs v
 have ew := sign_mul_abs w
 have dv := dgs_val (B := B32) (by decide) v.natAbs
 have dw := dgs_val (B := B32) (by decide) w.natAbs
 have qv := dgs_dg (B := B32) (by decide) v.natAbs
 have qw := dgs_dg (B := B32) (by decide) w.natAbs
 have tv := dgs_tr (B := B32) (by decide) v.natAbs
 have tw := dgs_tr (B := B32) (by decide) w.natAbs
 have lv : (dgs B32 v.natAbs).length < 1099511627775 := hv
 have lw : (dgs B32 w.natAbs).length < 1099511627775 := hw
 refine mkcall Try.func86 rfl rfl (Nat.le_of_ble_eq_true rfl) <| Rg 3 rfl <| WO.S (oBx rfl rfl) rfl <| WO.S (oBx rfl rfl) rfl <| WO.S (oAl rfl) rfl <| Wn <| WC.assoc <| Rg 8 rfl <| WO.U (oFaP rfl rfl rfl rfl rfl) rfl <| WO.U (oLdP rfl rfl rfl rfl rfl) rfl <| WO.U (oNilE rfl rfl) rfl <| WO.B (fun h11 => ?_) (fun h11 => ?_)
 rotate_left
 ·refine Um rfl rfl <| WO.K rfl rfl <| WO.K rfl rfl <| WO.K rfl rfl <| WO.U (oPkF rfl rfl) rfl <| Wn <| WC.cF rfl <| WC.skips <| Rg 7 rfl <| WO.U (oLdP (l := .agg [_, _]) rfl rfl rfl rfl rfl) rfl <| WO.U (oCall rfl (digits_run _) (by simp)) rfl <| Um rfl rfl <| WO.U (oEx rfl rfl) rfl <| WO.U (oEx rfl rfl) rfl <| Ua rfl rfl <| Ua rfl rfl <| Nw [(2, _), (3, _), (4, _), (5, _), (6, _)] ⟨rfl, rfl, rfl, rfl, rfl, trivial⟩ <| Rg 7 rfl <| WO.U (oLdP (l := .agg [_, _]) rfl rfl rfl rfl rfl) rfl <| WO.U (oCall rfl (digits_run _) (by simp)) rfl <| Um rfl rfl <| WO.U (oEx rfl rfl) rfl <| WO.U (oEx rfl rfl) rfl ?_
  refine Ua rfl rfl <| Ua rfl rfl <| Wn <| WC.block <| Rg 3 rfl <| Um rfl rfl <| WO.U (oEql rfl rfl) rfl <| WO.D (fun h35 => ?_) (fun h35 => ?_)
  ·refine Ua rfl rfl <| Nw [(2, _), (3, _), (4, _), (5, _), (6, _), (7, _), (8, _), (33, _)] ⟨rfl, rfl, rfl, rfl, rfl, rfl, rfl, rfl, trivial⟩ <| WC.cT1 rfl <| Rg 2 rfl <| WO.U (oLdP (l := .agg [_, _]) rfl rfl rfl rfl rfl) rfl <| WO.S0 (oSt (cs' := [_, _]) rfl rfl rfl rfl rfl rfl rfl rfl) <| Wn <| WC.ret <| after_ret <| post (n := 0) (.inr rfl) rfl ?_ (by simp)
   rw [ia0 h35, Int.zero_add]; rfl
  refine Ua rfl rfl <| Nw [(2, _), (3, _), (4, _), (5, _), (6, _), (7, _), (8, _), (33, _)] ⟨rfl, rfl, rfl, rfl, rfl, rfl, rfl, rfl, trivial⟩ <| WC.cF1 rfl <| Rg 3 rfl <| Um rfl rfl <| WO.U (oEql rfl rfl) rfl <| WO.D (fun h39 => ?_) (fun h39 => ?_)
  ·refine Ua rfl rfl <| Wn <| WC.cT1 rfl <| Rg 2 rfl <| WO.U (oLdP (l := .agg [_, _]) rfl rfl rfl rfl rfl) rfl <| WO.S0 (oSt (cs' := [_, _]) rfl rfl rfl rfl rfl rfl rfl rfl) <| Wn <| WC.ret <| after_ret <| post (n := 0) (.inr rfl) rfl ?_ (by simp)
   rw [ia0 h39, Int.add_zero]; rfl
  refine Ua rfl rfl <| Wn <| WC.cF1 rfl <| Rg 4 rfl <| Um rfl rfl <| Um rfl rfl <| WO.U (oEql rfl rfl) rfl <| WO.D (fun h44 => ?_) (fun h44 => ?_)
  ·refine Ua rfl rfl <| Nw [(4, _), (5, _), (6, _), (7, _), (8, _), (41, _)] ⟨rfl, rfl, rfl, rfl, rfl, rfl, trivial⟩ <| WC.cT1 rfl ?_
   have hsv : v.sign = 1 ∨ v.sign = -1 := by rcases Int.sign_trichotomy v with h | h | h <;> omega
   obtain ⟨r, hr, ds, rfl, hdd, hvl, hln⟩ := plus_run 1 1 _ _ qv qw (by omega) (by omega)
   refine Rg 6 rfl <| Um rfl rfl <| Um rfl rfl <| Um rfl rfl <| WO.U (oCall rfl (hr) (by simp)) rfl <| WO.U (oCall rfl (made_run v.sign 1 ds (by omega) (.inl rfl) hdd (by omega)) (by simp)) rfl <| WO.S0 (oSt (cs' := [_, _]) rfl rfl rfl rfl rfl rfl rfl rfl) <| Wn <| WC.ret <| after_ret <| post (n := 0) (.inr rfl) rfl ?_ (by simp)
   have : v.sign * (val B32 ds : Int) = v + w := by
    rw [hvl, dv, dw]; rcases hsv with h | h <;> rw [h] at ev h44 ⊢ <;> rw [← h44] at ew <;> omega
   rw [this]; rfl
  refine Ua rfl rfl <| Nw [(4, _), (5, _), (6, _), (7, _), (8, _), (41, _)] ⟨rfl, rfl, rfl, rfl, rfl, rfl, trivial⟩ <| WC.cF1 rfl <| Rg 5 rfl <| Um rfl rfl <| Um rfl rfl <| WO.U (oCall rfl (compare_run 1 1 _ _ qv qw tv tw (by omega) (by omega)) (by simp)) rfl <| WO.U (oGeq rfl rfl) rfl <| WO.D (fun h54 => ?_) (fun h54 => ?_)
  ·refine Ua rfl rfl <| Wn <| WC.cT1 rfl ?_
   have hsv : v.sign = 1 ∨ v.sign = -1 := by rcases Int.sign_trichotomy v with h | h | h <;> omega
   have hge : val B32 (dgs B32 w.natAbs) ≤ val B32 (dgs B32 v.natAbs) := by
    rcases Nat.lt_or_ge (val B32 (dgs B32 v.natAbs)) (val B32 (dgs B32 w.natAbs)) with h | h
    ·rw [Int.sign_eq_neg_one_of_neg (by omega)] at h54; omega
    ·exact h
   have hll : (dgs B32 w.natAbs).length ≤ (dgs B32 v.natAbs).length := by
    rcases Nat.lt_or_ge (dgs B32 v.natAbs).length (dgs B32 w.natAbs).length with h | h
    ·have := val_lt_len (by decide) qv tw h; omega
    ·exact h
   obtain ⟨r, hr, ds, rfl, hdd, hvl, hln⟩ := minus_run 1 1 _ _ qv qw (by omega) hll hge
   refine Rg 6 rfl <| Um rfl rfl <| Um rfl rfl <| Um rfl rfl <| WO.U (oCall rfl (hr) (by simp)) rfl <| WO.U (oCall rfl (made_run v.sign 1 ds (by omega) (.inl rfl) hdd (by omega)) (by simp)) rfl <| WO.S0 (oSt (cs' := [_, _]) rfl rfl rfl rfl rfl rfl rfl rfl) <| Nw [(4, _)] ⟨rfl, trivial⟩ <| WC.ret <| after_ret <| post (n := 0) (.inr rfl) rfl ?_ (by simp)
   have : v.sign * (val B32 ds : Int) = v + w := by
    rw [hvl, dv, dw] at *; rcases hsv with h | h <;> rw [h] at ev h44 ⊢ <;> rcases (show w.sign = 1 ∨ w.sign = -1 by rcases Int.sign_trichotomy w with h | h | h <;> omega) with k | k <;> rw [k] at ew h44 <;> omega
   rw [this]; rfl
  refine Ua rfl rfl <| Wn <| WC.cF1 rfl <| WC.skip <| after_normal ?_
  have hsv : w.sign = 1 ∨ w.sign = -1 := by rcases Int.sign_trichotomy w with h | h | h <;> omega
  have hge : val B32 (dgs B32 v.natAbs) ≤ val B32 (dgs B32 w.natAbs) := by
   rcases Nat.lt_or_ge (val B32 (dgs B32 w.natAbs)) (val B32 (dgs B32 v.natAbs)) with h | h
   ·rw [Int.sign_eq_one_of_pos (by omega)] at h54; omega
   ·exact h
  have hll : (dgs B32 v.natAbs).length ≤ (dgs B32 w.natAbs).length := by
   rcases Nat.lt_or_ge (dgs B32 w.natAbs).length (dgs B32 v.natAbs).length with h | h
   ·have := val_lt_len (by decide) qw tv h; omega
   ·exact h
  obtain ⟨r, hr, ds, rfl, hdd, hvl, hln⟩ := minus_run 1 1 _ _ qw qv (by omega) hll hge
  refine Rg 6 rfl <| Um rfl rfl <| Um rfl rfl <| Um rfl rfl <| WO.U (oCall rfl (hr) (by simp)) rfl <| WO.U (oCall rfl (made_run w.sign 1 ds (by omega) (.inl rfl) hdd (by omega)) (by simp)) rfl <| WO.S0 (oSt (cs' := [_, _]) rfl rfl rfl rfl rfl rfl rfl rfl) <| Nw [(4, _)] ⟨rfl, trivial⟩ <| WC.ret <| post (n := 0) (.inr rfl) rfl ?_ (by simp)
  have : w.sign * (val B32 ds : Int) = v + w := by
   rw [hvl, dv, dw] at *; rcases hsv with h | h <;> rw [h] at ew h44 ⊢ <;> rcases (show v.sign = 1 ∨ v.sign = -1 by rcases Int.sign_trichotomy v with h | h | h <;> omega) with k | k <;> rw [k] at ev h44 <;> omega
  rw [this]; rfl
 refine Um rfl rfl <| WO.Ug rfl (oFaP rfl rfl rfl rfl rfl) rfl <| WO.Ug rfl (oLdP rfl rfl rfl rfl rfl) rfl <| WO.Ug rfl (oNilE rfl rfl) rfl <| WO.B (fun h15 => ?_) (fun h15 => ?_)
 ·refine WO.U (oPkT rfl rfl) rfl <| Wn <| WC.cT rfl <| WC.assoc <| Rg 7 rfl <| WO.U (oFaP rfl rfl rfl rfl rfl) rfl <| WO.U (oLdP rfl rfl rfl rfl rfl) rfl <| WO.U (oFaP rfl rfl rfl rfl rfl) rfl <| WO.U (oLdP rfl rfl rfl rfl rfl) rfl <| WO.U (oAdd64 rfl rfl (by omega)) rfl <| WO.U (oCall rfl (of_run _ (by omega)) (by simp)) rfl <| WO.S0 (oSt (cs' := [_, _]) rfl rfl rfl rfl rfl rfl rfl rfl) <| Nw [(4, _)] ⟨rfl, trivial⟩ <| WC.rets <| post (n := 0) (.inr rfl) rfl ?_ (by simp)
  rw [ia_small (ik_eq.1 h11), ia_small (ik_eq.1 h15)]; rfl
 refine WO.U (oPkT rfl rfl) rfl <| Wn <| WC.cF rfl <| WC.skips <| Rg 7 rfl <| WO.U (oLdP (l := .agg [_, _]) rfl rfl rfl rfl rfl) rfl <| WO.U (oCall rfl (digits_run _) (by simp)) rfl <| Um rfl rfl <| WO.U (oEx rfl rfl) rfl <| WO.U (oEx rfl rfl) rfl <| Ua rfl rfl <| Ua rfl rfl <| Nw [(2, _), (3, _), (4, _), (5, _), (6, _)] ⟨rfl, rfl, rfl, rfl, rfl, trivial⟩ <| Rg 7 rfl <| WO.U (oLdP (l := .agg [_, _]) rfl rfl rfl rfl rfl) rfl <| WO.U (oCall rfl (digits_run _) (by simp)) rfl <| Um rfl rfl <| WO.U (oEx rfl rfl) rfl <| WO.U (oEx rfl rfl) rfl <| Ua rfl rfl <| Ua rfl rfl <| Wn <| WC.block ?_
 refine Rg 3 rfl <| Um rfl rfl <| WO.U (oEql rfl rfl) rfl <| WO.D (fun h35 => ?_) (fun h35 => ?_)
 ·refine Ua rfl rfl <| Nw [(2, _), (3, _), (4, _), (5, _), (6, _), (7, _), (8, _), (33, _)] ⟨rfl, rfl, rfl, rfl, rfl, rfl, rfl, rfl, trivial⟩ <| WC.cT1 rfl <| Rg 2 rfl <| WO.U (oLdP (l := .agg [_, _]) rfl rfl rfl rfl rfl) rfl <| WO.S0 (oSt (cs' := [_, _]) rfl rfl rfl rfl rfl rfl rfl rfl) <| Wn <| WC.ret <| after_ret <| post (n := 0) (.inr rfl) rfl ?_ (by simp)
  rw [ia0 h35, Int.zero_add]; rfl
 refine Ua rfl rfl <| Nw [(2, _), (3, _), (4, _), (5, _), (6, _), (7, _), (8, _), (33, _)] ⟨rfl, rfl, rfl, rfl, rfl, rfl, rfl, rfl, trivial⟩ <| WC.cF1 rfl <| Rg 3 rfl <| Um rfl rfl <| WO.U (oEql rfl rfl) rfl <| WO.D (fun h39 => ?_) (fun h39 => ?_)
 ·refine Ua rfl rfl <| Wn <| WC.cT1 rfl <| Rg 2 rfl <| WO.U (oLdP (l := .agg [_, _]) rfl rfl rfl rfl rfl) rfl <| WO.S0 (oSt (cs' := [_, _]) rfl rfl rfl rfl rfl rfl rfl rfl) <| Wn <| WC.ret <| after_ret <| post (n := 0) (.inr rfl) rfl ?_ (by simp)
  rw [ia0 h39, Int.add_zero]; rfl
 refine Ua rfl rfl <| Wn <| WC.cF1 rfl <| Rg 4 rfl <| Um rfl rfl <| Um rfl rfl <| WO.U (oEql rfl rfl) rfl <| WO.D (fun h44 => ?_) (fun h44 => ?_)
 ·refine Ua rfl rfl <| Nw [(4, _), (5, _), (6, _), (7, _), (8, _), (41, _)] ⟨rfl, rfl, rfl, rfl, rfl, rfl, trivial⟩ <| WC.cT1 rfl ?_
  have hsv : v.sign = 1 ∨ v.sign = -1 := by rcases Int.sign_trichotomy v with h | h | h <;> omega
  obtain ⟨r, hr, ds, rfl, hdd, hvl, hln⟩ := plus_run 1 1 _ _ qv qw (by omega) (by omega)
  refine Rg 6 rfl <| Um rfl rfl <| Um rfl rfl <| Um rfl rfl <| WO.U (oCall rfl (hr) (by simp)) rfl <| WO.U (oCall rfl (made_run v.sign 1 ds (by omega) (.inl rfl) hdd (by omega)) (by simp)) rfl <| WO.S0 (oSt (cs' := [_, _]) rfl rfl rfl rfl rfl rfl rfl rfl) <| Wn <| WC.ret <| after_ret <| post (n := 0) (.inr rfl) rfl ?_ (by simp)
  have : v.sign * (val B32 ds : Int) = v + w := by
   rw [hvl, dv, dw]; rcases hsv with h | h <;> rw [h] at ev h44 ⊢ <;> rw [← h44] at ew <;> omega
  rw [this]; rfl
 refine Ua rfl rfl <| Nw [(4, _), (5, _), (6, _), (7, _), (8, _), (41, _)] ⟨rfl, rfl, rfl, rfl, rfl, rfl, trivial⟩ <| WC.cF1 rfl <| Rg 5 rfl <| Um rfl rfl <| Um rfl rfl <| WO.U (oCall rfl (compare_run 1 1 _ _ qv qw tv tw (by omega) (by omega)) (by simp)) rfl <| WO.U (oGeq rfl rfl) rfl <| WO.D (fun h54 => ?_) (fun h54 => ?_)
 ·refine Ua rfl rfl <| Wn <| WC.cT1 rfl ?_
  have hsv : v.sign = 1 ∨ v.sign = -1 := by rcases Int.sign_trichotomy v with h | h | h <;> omega
  have hge : val B32 (dgs B32 w.natAbs) ≤ val B32 (dgs B32 v.natAbs) := by
   rcases Nat.lt_or_ge (val B32 (dgs B32 v.natAbs)) (val B32 (dgs B32 w.natAbs)) with h | h
   ·rw [Int.sign_eq_neg_one_of_neg (by omega)] at h54; omega
   ·exact h
  have hll : (dgs B32 w.natAbs).length ≤ (dgs B32 v.natAbs).length := by
   rcases Nat.lt_or_ge (dgs B32 v.natAbs).length (dgs B32 w.natAbs).length with h | h
   ·have := val_lt_len (by decide) qv tw h; omega
   ·exact h
  obtain ⟨r, hr, ds, rfl, hdd, hvl, hln⟩ := minus_run 1 1 _ _ qv qw (by omega) hll hge
  refine Rg 6 rfl <| Um rfl rfl <| Um rfl rfl <| Um rfl rfl <| WO.U (oCall rfl (hr) (by simp)) rfl <| WO.U (oCall rfl (made_run v.sign 1 ds (by omega) (.inl rfl) hdd (by omega)) (by simp)) rfl <| WO.S0 (oSt (cs' := [_, _]) rfl rfl rfl rfl rfl rfl rfl rfl) <| Nw [(4, _)] ⟨rfl, trivial⟩ <| WC.ret <| after_ret <| post (n := 0) (.inr rfl) rfl ?_ (by simp)
  have : v.sign * (val B32 ds : Int) = v + w := by
   rw [hvl, dv, dw] at *; rcases hsv with h | h <;> rw [h] at ev h44 ⊢ <;> rcases (show w.sign = 1 ∨ w.sign = -1 by rcases Int.sign_trichotomy w with h | h | h <;> omega) with k | k <;> rw [k] at ew h44 <;> omega
  rw [this]; rfl
 refine Ua rfl rfl <| Wn <| WC.cF1 rfl <| WC.skip <| after_normal ?_
 have hsv : w.sign = 1 ∨ w.sign = -1 := by rcases Int.sign_trichotomy w with h | h | h <;> omega
 have hge : val B32 (dgs B32 v.natAbs) ≤ val B32 (dgs B32 w.natAbs) := by
  rcases Nat.lt_or_ge (val B32 (dgs B32 w.natAbs)) (val B32 (dgs B32 v.natAbs)) with h | h
  ·rw [Int.sign_eq_one_of_pos (by omega)] at h54; omega
  ·exact h
 have hll : (dgs B32 v.natAbs).length ≤ (dgs B32 w.natAbs).length := by
  rcases Nat.lt_or_ge (dgs B32 w.natAbs).length (dgs B32 v.natAbs).length with h | h
  ·have := val_lt_len (by decide) qw tv h; omega
  ·exact h
 obtain ⟨r, hr, ds, rfl, hdd, hvl, hln⟩ := minus_run 1 1 _ _ qw qv (by omega) hll hge
 refine Rg 6 rfl <| Um rfl rfl <| Um rfl rfl <| Um rfl rfl <| WO.U (oCall rfl (hr) (by simp)) rfl <| WO.U (oCall rfl (made_run w.sign 1 ds (by omega) (.inl rfl) hdd (by omega)) (by simp)) rfl <| WO.S0 (oSt (cs' := [_, _]) rfl rfl rfl rfl rfl rfl rfl rfl) <| Nw [(4, _)] ⟨rfl, trivial⟩ <| WC.ret <| post (n := 0) (.inr rfl) rfl ?_ (by simp)
 have : w.sign * (val B32 ds : Int) = v + w := by
  rw [hvl, dv, dw] at *; rcases hsv with h | h <;> rw [h] at ew h44 ⊢ <;> rcases (show v.sign = 1 ∨ v.sign = -1 by rcases Int.sign_trichotomy v with h | h | h <;> omega) with k | k <;> rw [k] at ev h44 <;> omega
 rw [this]; rfl
end Go.Proofs.Ytcmieifjephdcaa
set_option linter.unusedVariables false
set_option linter.unusedSimpArgs false
set_option maxRecDepth 100000
namespace Go.Proofs.Ytcmieifjephdcaa
open Go.Ab Go.RowKit
theorem mul64_run (x y : Nat) (hx : x < 18446744073709551616) (hy : y < 18446744073709551616) : Run Try.prog T E0 (.call 88 [.v (.int .u64 (x : Int)), .v (.int .u64 (y : Int))] (.tup [.v (.int .u64 ((x * y / 18446744073709551616 : Nat) : Int)), .v (.int .u64 ((x * y % 18446744073709551616 : Nat) : Int))])) := by
 obtain ⟨p00, h00⟩ : ∃ p, p = (x % 4294967296) * (y % 4294967296) := ⟨_, rfl⟩
 obtain ⟨p10, h10⟩ : ∃ p, p = (x / 4294967296) * (y % 4294967296) := ⟨_, rfl⟩
 obtain ⟨p01, h01⟩ : ∃ p, p = (x % 4294967296) * (y / 4294967296) := ⟨_, rfl⟩
 obtain ⟨p11, h11⟩ : ∃ p, p = (x / 4294967296) * (y / 4294967296) := ⟨_, rfl⟩
 have b00 := mul_dig (a := x % 4294967296) (b := y % 4294967296) (by omega) (by omega)
 have b10 := mul_dig (a := x / 4294967296) (b := y % 4294967296) (by omega) (by omega)
 have b01 := mul_dig (a := x % 4294967296) (b := y / 4294967296) (by omega) (by omega)
 have b11 := mul_dig (a := x / 4294967296) (b := y / 4294967296) (by omega) (by omega)
 have hxy := mul_words h00 h10 h01 h11
 rw [← h00] at b00
 rw [← h10] at b10
 rw [← h01] at b01
 rw [← h11] at b11
 refine mkcall Try.func88 rfl rfl (Nat.le_of_ble_eq_true rfl) <| Rg 2 rfl <| Ua rfl rfl <| Ua rfl rfl <| Wn <| Rg 3 rfl <| Um rfl rfl <| WO.U (oBin (v := .int .u64 ((x % 4294967296 : Nat) : Int)) rfl rfl (mask32 hx)) rfl <| Ua rfl rfl <| Wn <| Rg 3 rfl <| Um rfl rfl <| WO.U (cI (((x / 4294967296 : Nat) : Int)) (oShrU (s := 32) rfl rfl (by omega)) (by omega)) rfl <| Ua rfl rfl <| Wn <| Rg 3 rfl <| Um rfl rfl <| WO.U (oBin (v := .int .u64 ((y % 4294967296 : Nat) : Int)) rfl rfl (mask32 hy)) rfl <| Ua rfl rfl <| Wn <| Rg 3 rfl <| Um rfl rfl <| WO.U (cI (((y / 4294967296 : Nat) : Int)) (oShrU (s := 32) rfl rfl (by omega)) (by omega)) rfl <| Ua rfl rfl ?_
 refine Nw [(0, _), (1, _), (6, _), (7, _), (8, _), (9, _)] ⟨rfl, rfl, rfl, rfl, rfl, rfl, trivial⟩ <| Rg 4 rfl <| Um rfl rfl <| Um rfl rfl <| WO.U (cI ((p00 : Int)) (oMulU rfl rfl) (by rw [← Int.natCast_mul, ← h00]; omega)) rfl <| Ua rfl rfl <| Wn <| Rg 7 rfl <| Um rfl rfl <| Um rfl rfl <| WO.U (cI ((p10 : Int)) (oMulU rfl rfl) (by rw [← Int.natCast_mul, ← h10]; omega)) rfl <| Um rfl rfl <| WO.U (cI (((p00 / 4294967296 : Nat) : Int)) (oShrU (s := 32) rfl rfl (by omega)) (by omega)) rfl <| WO.U (cI (((p10 + p00 / 4294967296 : Nat) : Int)) (oAddU rfl rfl) (by omega)) rfl <| Ua rfl rfl <| Nw [(0, _), (1, _), (6, _), (7, _), (9, _), (11, _)] ⟨rfl, rfl, rfl, rfl, rfl, rfl, trivial⟩ <| Rg 3 rfl <| Um rfl rfl <| WO.U (oBin (v := .int .u64 (((p10 + p00 / 4294967296) % 4294967296 : Nat) : Int)) rfl rfl (mask32 (by omega))) rfl <| Ua rfl rfl <| Wn <| Rg 3 rfl ?_
 refine Um rfl rfl <| WO.U (cI ((((p10 + p00 / 4294967296) / 4294967296 : Nat) : Int)) (oShrU (s := 32) rfl rfl (by omega)) (by omega)) rfl <| Ua rfl rfl <| Wn <| Rg 6 rfl <| Um rfl rfl <| Um rfl rfl <| Um rfl rfl <| WO.U (cI ((p01 : Int)) (oMulU rfl rfl) (by rw [← Int.natCast_mul, ← h01]; omega)) rfl <| WO.U (cI ((((p10 + p00 / 4294967296) % 4294967296 + p01 : Nat) : Int)) (oAddU rfl rfl) (by omega)) rfl <| Ua rfl rfl <| Nw [(0, _), (1, _), (7, _), (9, _), (12, _), (13, _)] ⟨rfl, rfl, rfl, rfl, rfl, rfl, trivial⟩ <| Rg 9 rfl <| Um rfl rfl <| Um rfl rfl <| WO.U (cI ((p11 : Int)) (oMulU rfl rfl) (by rw [← Int.natCast_mul, ← h11]; omega)) rfl <| Um rfl rfl <| WO.U (cI (((p11 + (p10 + p00 / 4294967296) / 4294967296 : Nat) : Int)) (oAddU rfl rfl) (by omega)) rfl <| Um rfl rfl <| WO.U (cI (((((p10 + p00 / 4294967296) % 4294967296 + p01) / 4294967296 : Nat) : Int)) (oShrU (s := 32) rfl rfl (by omega)) (by omega)) rfl <| WO.U (cI (((x * y / 18446744073709551616 : Nat) : Int)) (oAddU rfl rfl) (by rw [hxy]; omega)) rfl <| Ua rfl rfl <| WO.nil ?_
 refine WC.weak [(0, _), (1, _), (4, _)] ⟨rfl, rfl, rfl, trivial⟩ <| Rg 4 rfl <| Um rfl rfl <| Um rfl rfl <| WO.U (cI (((x * y % 18446744073709551616 : Nat) : Int)) (oMulU rfl rfl) (by rw [← Int.natCast_mul]; rfl)) rfl <| Ua rfl rfl <| Wn <| WC.ret ?_
 exact post (n := 0) (.inr rfl) rfl rfl (by simp)
theorem mul_run (v w : Int) (hv : len32 v < 549755813888) (hw : len32 w < 549755813888) : Run Try.prog T E0 (.call 77 [lvI v, lvI w] (lvI (v * w))) := by
 have bv := ia_bd v
 have bw := ia_bd w
 have ev := sign_mul_abs v
 have ew := sign_mul_abs w
 have evw : v * w = v.sign * w.sign * ((v.natAbs * w.natAbs : Nat) : Int) := by
  rw [Int.natCast_mul]; grind
 obtain ⟨σ, hσ⟩ : ∃ σ, σ = v.sign * w.sign := ⟨_, rfl⟩
 have hs3 : σ = 1 ∨ σ = -1 ∨ σ = 0 ∧ v.natAbs * w.natAbs = 0 := by
  rcases Int.sign_trichotomy v with h | h | h <;> rcases Int.sign_trichotomy w with k | k | k <;> rw [h, k] at hσ <;> simp at hσ <;> first | exact .inl hσ | exact .inr (.inl hσ) | skip
  all_goals (refine .inr (.inr ⟨hσ, ?_⟩); first | (rw [ia0 h]; simp; done) | (rw [ia0 k]; simp))
 rw [← hσ] at evw
 obtain ⟨xs, hxs⟩ : ∃ xs, xs = dgs B32 v.natAbs := ⟨_, rfl⟩
 obtain ⟨ys, hys⟩ : ∃ ys, ys = dgs B32 w.natAbs := ⟨_, rfl⟩
 have dv : val B32 xs = v.natAbs := by rw [hxs]; exact dgs_val (by decide) _
 have dw : val B32 ys = w.natAbs := by rw [hys]; exact dgs_val (by decide) _
 have qv : Dg B32 xs := by rw [hxs]; exact dgs_dg (by decide) _
 have qw : Dg B32 ys := by rw [hys]; exact dgs_dg (by decide) _
 have lv : xs.length < 549755813888 := by rw [hxs]; exact hv
 have lw : ys.length < 549755813888 := by rw [hys]; exact hw
 refine mkcall Try.func77 rfl rfl (Nat.le_of_ble_eq_true rfl) ?_
 have J5 : ∀  (n : Nat) (hn : 3 ≤ n), WC Try.prog T E0 Try.f77.ntmps (codeR (codeR (codeOf Try.f77))) [(2, .ptr 0 0), (3, .ptr 1 0), (4, .ptr 2 0)] [(2, { cells := [.v (.int .i64 0), .sl 0 []], sz := 2, elem := 56, st := 0 }), (1, { cells := (lvI w).cells, sz := (lvI w).cells.length, elem := 56, st := 0 }), (0, { cells := (lvI v).cells, sz := (lvI v).cells.length, elem := 56, st := 0 })] n (Post T Try.f77.results.toList (lvI (v * w))) := by
  intro  n hn
  refine Rg 7 rfl <| WO.U (oLdP (l := .agg [_, _]) rfl rfl rfl rfl rfl) rfl <| WO.U (oCall rfl ((hxs ▸ digits_run v)) (by simp)) rfl <| Um rfl rfl <| WO.U (oEx rfl rfl) rfl <| WO.U (oEx rfl rfl) rfl <| Ua rfl rfl <| Ua rfl rfl <| Wn <| Rg 7 rfl <| WO.U (oLdP (l := .agg [_, _]) rfl rfl rfl rfl rfl) rfl <| WO.U (oCall rfl ((hys ▸ digits_run w)) (by simp)) rfl <| Um rfl rfl <| WO.U (oEx rfl rfl) rfl <| WO.U (oEx rfl rfl) rfl <| Ua rfl rfl <| Ua rfl rfl <| Nw [(4, _), (7, _), (8, _), (9, _), (10, _)] ⟨rfl, rfl, rfl, rfl, rfl, trivial⟩ <| Rg 7 rfl <| Um rfl rfl <| WO.U (oLenM rfl rfl) rfl <| Um rfl rfl <| WO.U (oLenM rfl rfl) rfl ?_
  refine WO.U (oAdd64 rfl rfl (by omega)) rfl <| WO.S (oMk (a := xs.length + ys.length) (b := xs.length + ys.length) rfl rfl rfl rfl (by omega) (by omega) (by decide) (by omega) (by show 4 * (xs.length + ys.length) ≤ _; omega) (by omega)) rfl <| Ua rfl rfl <| Wn <| WC.assoc <| Rg 3 rfl <| Um rfl rfl <| WO.U (oLenM rfl rfl) rfl <| Um rfl rfl <| Nw [(4, _), (7, _), (9, _), (10, _), (11, _), (74, _), (75, _), (76, _)] ⟨rfl, rfl, rfl, rfl, rfl, rfl, rfl, rfl, trivial⟩ <| WC.block <| WC.loopV (α := Nat × Nat × (List Nat)) (fun ⟨i, q, us⟩ => [(4, .ptr 2 0), (7, .v (.int .i64 v.sign)), (9, .v (.int .i64 w.sign)), (10, .sl 1 (ys.map d32)), (11, .ref q 1 0 us.length), (74, .sl 1 (xs.map d32)), (75, .v (.int .i64 (xs.length : Int))), (76, .v (.int .i64 (i : Int)))]) (fun ⟨i, q, us⟩ => [(q, { cells := (us.map d32).flatten, sz := 1, elem := 109, st := 0 }), (2, { cells := [.v (.int .i64 0), .sl 0 []], sz := 2, elem := 56, st := 0 })]) (fun ⟨i, q, us⟩ n => i ≤ xs.length ∧ us.length = xs.length + ys.length ∧ Dg B32 us ∧ val B32 us = val B32 (xs.take i) * val B32 ys ∧ (∀ j, i + ys.length ≤ j → us.getD j default = 0) ∧ 2 < q) (fun ⟨i, q, us⟩ => xs.length - i) (0, n + 7 + 7 + 5, List.replicate (xs.length + ys.length) 0) ⟨rfl, rfl, rfl, rfl, congrArg some (by rw [List.length_replicate]; rfl), rfl, rfl, rfl, trivial⟩ ⟨g0.trans (by rw [List.map_replicate]; rfl), g1 (by omega) rfl, trivial⟩ ⟨Nat.zero_le _, by simp, by intro d hd; simp at hd; rw [hd.2]; decide, by rw [val_zeros]; simp [val], by intro j _; exact getD_zeros _ _, by omega⟩ ?_
  rintro ⟨i, q, us⟩ n hF
  change WC _ _ _ _ _ [(4, .ptr 2 0), (7, .v (.int .i64 v.sign)), (9, .v (.int .i64 w.sign)), (10, .sl 1 (ys.map d32)), (11, .ref q 1 0 us.length), (74, .sl 1 (xs.map d32)), (75, .v (.int .i64 (xs.length : Int))), (76, .v (.int .i64 (i : Int)))] ([(q, { cells := (us.map d32).flatten, sz := 1, elem := 109, st := 0 }), (2, { cells := [.v (.int .i64 0), .sl 0 []], sz := 2, elem := 56, st := 0 })]) n _
  obtain ⟨hi, hul, hud, huv, huz, hq⟩ := hF
  refine Rg 1 rfl <| WO.U (oLss rfl rfl) rfl <| WO.D (fun h77 => ?_) (fun h77 => ?_)
  rotate_left
  ·refine Wn <| WC.cF rfl <| WC.exits <| loopR_exit <| after_exit rfl ?_
   have hE : val B32 us = v.natAbs * w.natAbs := by
    rw [huv, List.take_of_length_le (by omega), dv, dw]
   refine Rg 6 rfl <| Um rfl rfl <| Um rfl rfl <| WO.U (cI σ (oMul64 rfl rfl (by rw [← hσ]; omega)) hσ.symm) rfl <| Um rfl rfl <| WO.S (oCallF [.v (.int .i64 σ), .sl 1 (us.map d32)] [(q, { cells := (us.map d32).flatten, sz := 1, elem := 109, st := 1 })] rfl (made_run σ 1 us (by rw [hE]; exact hs3) (.inl rfl) hud (by omega)) (.data (by simp) (.own _ (by simp) g0 (by show (0 : Nat) ≠ 2; decide) rfl (by decide) (by simp [keys]) rfl rows_d32 data_rows_d32 .nil)) (by intro p hp; simp at hp; subst hp; exact ⟨_, g0, by show (0 : Nat) ≠ 2; decide, rfl⟩)) rfl <| WO.S0 (oSt (cs' := [_, _]) rfl rfl rfl (g1 (by omega) (g1 (by omega) rfl)) rfl rfl rfl rfl) <| Wn <| WC.ret <| post (n := 0) (.inr rfl) rfl ?_ (by simp)
   rw [evw, ← hE]; rfl
  refine Wn <| WC.cT rfl <| WC.skips <| WC.block <| Rg 5 rfl <| Um rfl rfl <| WO.U (oIxM rfl rfl rfl rfl rfl (by omega) rfl) rfl <| WO.U (oLd rfl rfl rfl) rfl <| Ua rfl rfl <| Ua rfl rfl <| Wn <| Rg 1 rfl <| Ua rfl rfl <| Nw [(4, _), (7, _), (9, _), (10, _), (11, _), (12, _), (13, _), (14, _), (74, _), (75, _), (76, _)] ⟨rfl, rfl, rfl, rfl, rfl, rfl, rfl, rfl, rfl, rfl, rfl, trivial⟩ <| WC.assoc <| Rg 3 rfl <| Um rfl rfl <| WO.U (oLenM rfl rfl) rfl <| Um rfl rfl <| Wn <| WC.block <| WC.loopV (α := Nat × Nat × (List Nat)) (fun ⟨k, c, us1⟩ => [(4, .ptr 2 0), (7, .v (.int .i64 v.sign)), (9, .v (.int .i64 w.sign)), (10, .sl 1 (ys.map d32)), (11, .ref q 1 0 us1.length), (12, .v (.int .i64 (i : Int))), (13, .v (.int .u32 (xs.getD i default : Int))), (14, .v (.int .u64 (c : Int))), (74, .sl 1 (xs.map d32)), (75, .v (.int .i64 (xs.length : Int))), (76, .v (.int .i64 (i : Int))), (81, .sl 1 (ys.map d32)), (82, .v (.int .i64 (ys.length : Int))), (83, .v (.int .i64 (k : Int)))]) (fun ⟨k, c, us1⟩ => [(q, { cells := (us1.map d32).flatten, sz := 1, elem := 109, st := 0 }), (2, { cells := [.v (.int .i64 0), .sl 0 []], sz := 2, elem := 56, st := 0 })]) (fun ⟨k, c, us1⟩ n => k ≤ ys.length ∧ us1.length = us.length ∧ Dg B32 us1 ∧ c < 4294967296 ∧ val B32 us1 + B32 ^ (i + k) * c = val B32 us + B32 ^ i * (xs.getD i default * val B32 (ys.take k)) ∧ (∀ j, i + k ≤ j → us1.getD j default = us.getD j default)) (fun ⟨k, c, us1⟩ => ys.length - k) (0, 0, us) ⟨rfl, rfl, rfl, rfl, rfl, rfl, rfl, rfl, rfl, rfl, rfl, rfl, rfl, rfl, trivial⟩ ⟨g0, g1 (by omega) rfl, trivial⟩ ⟨Nat.zero_le _, rfl, hud, by decide, by simp [val], fun _ _ => rfl⟩ ?_
  rintro ⟨k, c, us1⟩ n hG
  change WC _ _ _ _ _ [(4, .ptr 2 0), (7, .v (.int .i64 v.sign)), (9, .v (.int .i64 w.sign)), (10, .sl 1 (ys.map d32)), (11, .ref q 1 0 us1.length), (12, .v (.int .i64 (i : Int))), (13, .v (.int .u32 (xs.getD i default : Int))), (14, .v (.int .u64 (c : Int))), (74, .sl 1 (xs.map d32)), (75, .v (.int .i64 (xs.length : Int))), (76, .v (.int .i64 (i : Int))), (81, .sl 1 (ys.map d32)), (82, .v (.int .i64 (ys.length : Int))), (83, .v (.int .i64 (k : Int)))] ([(q, { cells := (us1.map d32).flatten, sz := 1, elem := 109, st := 0 }), (2, { cells := [.v (.int .i64 0), .sl 0 []], sz := 2, elem := 56, st := 0 })]) n _
  obtain ⟨hk, hl1, hd1, hc1, hv1, hz1⟩ := hG
  refine Rg 1 rfl <| WO.U (oLss rfl rfl) rfl <| WO.D (fun h84 => ?_) (fun h84 => ?_)
  rotate_left
  ·refine Nw [(4, _), (7, _), (9, _), (10, _), (11, _), (12, _), (13, _), (14, _), (74, _), (75, _), (76, _), (81, _), (82, _), (83, _), (84, _)] ⟨rfl, rfl, rfl, rfl, rfl, rfl, rfl, rfl, rfl, rfl, rfl, rfl, rfl, rfl, rfl, trivial⟩ <| WC.cF rfl <| WC.exits <| loopR_exit <| after_exit rfl <| WC.weak [(4, _), (7, _), (9, _), (10, _), (11, _), (12, _), (14, _), (74, _), (75, _), (76, _)] ⟨rfl, rfl, rfl, rfl, rfl, rfl, rfl, rfl, rfl, rfl, trivial⟩ <| WC.reg1z (z := 9) rfl <| Um rfl rfl <| Um rfl rfl <| Um rfl rfl <| WO.U (oLenM rfl rfl) rfl <| WO.U (cI (((i + ys.length : Nat) : Int)) (oAdd64 rfl rfl (by omega)) (by omega)) rfl <| Um rfl rfl <| WO.U (cI ((c : Int)) (oCnv rfl rfl rfl) (by rw [IntKind.wrap_u32]; omega)) rfl <| WO.U (oIxR rfl rfl rfl rfl rfl (by omega) rfl) rfl <| WO.S0 (oStO (f := d32) (us := us1) c rfl rfl rfl g0 (fun _ => rfl) rfl rfl (by omega) rfl) <| Wn <| after_normal <| WC.weak [(4, _), (7, _), (9, _), (10, _), (11, _), (74, _), (75, _), (76, _)] ⟨rfl, rfl, rfl, rfl, rfl, rfl, rfl, rfl, trivial⟩ <| WC.reg1z (z := 2) rfl <| WO.U (cI (((i + 1 : Nat) : Int)) (oAdd64 rfl rfl (by omega)) (by omega)) rfl <| Um rfl rfl <| WO.nil ?_
   refine loopR_normal <| ⟨⟨i + 1, q, us1.set (i + ys.length) c⟩, ⟨rfl, rfl, rfl, rfl, congrArg some (by rw [List.length_set]), rfl, rfl, rfl, trivial⟩, ⟨g0, g1 (by omega) (g1 (by omega) rfl), trivial⟩, ⟨by omega, by rw [List.length_set]; omega, hd1.set _ hc1, ?_, ?_, hq⟩, by show xs.length - (i + 1) < xs.length - i; omega⟩
   ·have hk' : k = ys.length := by omega
    subst hk'
    have h1 := val_set (B := B32) us1 (i + ys.length) c (by omega)
    rw [hz1 _ (Nat.le_refl _), huz _ (Nat.le_refl _), Nat.mul_zero, Nat.add_zero] at h1
    rw [h1, hv1, huv, take_succ_val, List.take_of_length_le (Nat.le_refl _), Nat.add_mul, Nat.mul_assoc]
   ·intro j hj
    rw [lgetD_set (by omega), hz1 j (by omega)]; exact huz j (by omega)
  refine Nw [(4, _), (7, _), (9, _), (10, _), (11, _), (12, _), (13, _), (14, _), (74, _), (75, _), (76, _), (81, _), (82, _), (83, _), (84, _)] ⟨rfl, rfl, rfl, rfl, rfl, rfl, rfl, rfl, rfl, rfl, rfl, rfl, rfl, rfl, rfl, trivial⟩ <| WC.cT rfl <| WC.skips <| WC.block <| Rg 5 rfl <| Um rfl rfl <| WO.U (oIxM rfl rfl rfl rfl rfl (by omega) rfl) rfl <| WO.U (oLd rfl rfl rfl) rfl <| Ua rfl rfl <| Ua rfl rfl <| Nw [(4, _), (7, _), (9, _), (10, _), (11, _), (12, _), (13, _), (14, _), (15, _), (16, _), (74, _), (75, _), (76, _), (81, _), (82, _), (83, _)] ⟨rfl, rfl, rfl, rfl, rfl, rfl, rfl, rfl, rfl, rfl, rfl, rfl, rfl, rfl, rfl, rfl, trivial⟩ ?_
  have hp : xs.getD i default < 4294967296 := getD_lt qv (by omega)
  have hqk : ys.getD k default < 4294967296 := getD_lt qw (by omega)
  have ho : us1.getD (i + k) default < 4294967296 := getD_lt hd1 (by omega)
  have hpq := mul_dig hp hqk
  refine Rg 16 rfl <| Um rfl rfl <| Um rfl rfl <| WO.U (cI ((xs.getD i default : Int)) (oCnv rfl rfl rfl) (by rw [IntKind.wrap_u64]; omega)) rfl <| Um rfl rfl <| WO.U (cI ((ys.getD k default : Int)) (oCnv rfl rfl rfl) (by rw [IntKind.wrap_u64]; omega)) rfl <| WO.U (cI (((xs.getD i default * ys.getD k default : Nat) : Int)) (oMulU rfl rfl) (by rw [← Int.natCast_mul]; omega)) rfl <| Um rfl rfl <| Um rfl rfl <| Um rfl rfl <| WO.U (cI (((i + k : Nat) : Int)) (oAdd64 rfl rfl (by omega)) (by omega)) rfl <| WO.U (oIxR rfl rfl rfl rfl rfl (by omega) rfl) rfl <| WO.U (oLdO (f := d32) (us := us1) (j := i + k) rfl rfl g0 (fun _ => rfl) rfl (by decide) (by omega) rfl) rfl <| WO.U (cI ((us1.getD (i + k) default : Int)) (oCnv rfl rfl rfl) (by rw [IntKind.wrap_u64]; omega)) rfl <| WO.U (cI (((xs.getD i default * ys.getD k default + us1.getD (i + k) default : Nat) : Int)) (oAddU rfl rfl) (by omega)) rfl <| WO.U (cI ((((c + (xs.getD i default * ys.getD k default + us1.getD (i + k) default)) : Nat) : Int)) (oAddU rfl rfl) (by omega)) rfl <| Ua rfl rfl <| Nw [(4, _), (7, _), (9, _), (10, _), (11, _), (12, _), (13, _), (14, _), (15, _), (74, _), (75, _), (76, _), (81, _), (82, _), (83, _)] ⟨rfl, rfl, rfl, rfl, rfl, rfl, rfl, rfl, rfl, rfl, rfl, rfl, rfl, rfl, rfl, trivial⟩ <| Rg 8 rfl <| Um rfl rfl <| Um rfl rfl <| Um rfl rfl <| WO.U (cI (((i + k : Nat) : Int)) (oAdd64 rfl rfl (by omega)) (by omega)) rfl ?_
  refine Um rfl rfl <| WO.U (cI ((((c + (xs.getD i default * ys.getD k default + us1.getD (i + k) default)) % 4294967296 : Nat) : Int)) (oCnv rfl rfl rfl) (by rw [IntKind.wrap_u32]; omega)) rfl <| WO.U (oIxR rfl rfl rfl rfl rfl (by omega) rfl) rfl <| WO.S0 (oStO (f := d32) (us := us1) ((c + (xs.getD i default * ys.getD k default + us1.getD (i + k) default)) % 4294967296) rfl rfl rfl g0 (fun _ => rfl) rfl rfl (by omega) rfl) <| Nw [(4, _), (7, _), (9, _), (10, _), (11, _), (12, _), (13, _), (14, _), (74, _), (75, _), (76, _), (81, _), (82, _), (83, _)] ⟨rfl, rfl, rfl, rfl, rfl, rfl, rfl, rfl, rfl, rfl, rfl, rfl, rfl, rfl, trivial⟩ <| WC.reg1z (z := 3) rfl <| Um rfl rfl <| WO.U (cI ((((c + (xs.getD i default * ys.getD k default + us1.getD (i + k) default)) / 4294967296 : Nat) : Int)) (oShrU (s := 32) rfl rfl (by omega)) (by omega)) rfl <| Ua rfl rfl <| Wn <| after_normal <| WC.weak [(4, _), (7, _), (9, _), (10, _), (11, _), (12, _), (13, _), (14, _), (74, _), (75, _), (76, _), (81, _), (82, _), (83, _)] ⟨rfl, rfl, rfl, rfl, rfl, rfl, rfl, rfl, rfl, rfl, rfl, rfl, rfl, rfl, trivial⟩ <| WC.reg1z (z := 2) rfl <| WO.U (cI (((k + 1 : Nat) : Int)) (oAdd64 rfl rfl (by omega)) (by omega)) rfl <| Um rfl rfl <| Wn <| loopR_normal <| ⟨⟨k + 1, (c + (xs.getD i default * ys.getD k default + us1.getD (i + k) default)) / 4294967296, us1.set (i + k) ((c + (xs.getD i default * ys.getD k default + us1.getD (i + k) default)) % 4294967296)⟩, ⟨rfl, rfl, rfl, rfl, congrArg some (by rw [List.length_set]), rfl, rfl, rfl, rfl, rfl, rfl, rfl, rfl, rfl, trivial⟩, ⟨g0, g1 (by omega) (g1 (by omega) rfl), trivial⟩, ⟨by omega, by rw [List.length_set]; exact hl1, hd1.set _ (Nat.mod_lt _ (by decide)), by omega, mul_step hv1 (by omega), ?_⟩, by show ys.length - (k + 1) < ys.length - k; omega⟩
  intro j hj
  rw [lgetD_set (by omega)]; exact hz1 j (by omega)
 refine Rg 3 rfl <| WO.S (oBx rfl rfl) rfl <| WO.S (oBx rfl rfl) rfl <| WO.S (oAl rfl) rfl <| Wn <| WC.assoc <| Rg 8 rfl <| WO.U (oFaP rfl rfl rfl rfl rfl) rfl <| WO.U (oLdP rfl rfl rfl rfl rfl) rfl <| WO.U (oNilE rfl rfl) rfl <| WO.B (fun h19 => ?_) (fun h19 => ?_)
 rotate_left
 ·refine Um rfl rfl <| WO.K rfl rfl <| WO.K rfl rfl <| WO.K rfl rfl <| WO.U (oPkF rfl rfl) rfl <| Wn <| WC.cF rfl <| WC.skips <| WC.weak [(2, _), (3, _), (4, _)] ⟨rfl, rfl, rfl, trivial⟩ ?_
  exact J5 _ (by omega)
 refine Um rfl rfl <| WO.Ug rfl (oFaP rfl rfl rfl rfl rfl) rfl <| WO.Ug rfl (oLdP rfl rfl rfl rfl rfl) rfl <| WO.Ug rfl (oNilE rfl rfl) rfl <| WO.B (fun h23 => ?_) (fun h23 => ?_)
 rotate_left
 ·refine WO.U (oPkT rfl rfl) rfl <| Wn <| WC.cF rfl <| WC.skips <| WC.weak [(2, _), (3, _), (4, _)] ⟨rfl, rfl, rfl, trivial⟩ ?_
  exact J5 _ (by omega)
 refine WO.U (oPkT rfl rfl) rfl <| Wn <| WC.cT rfl <| WC.assoc ?_
 have hia := ia_small (ik_eq.1 h19)
 have hiw := ia_small (ik_eq.1 h23)
 refine Rg 20 rfl <| WO.U (oFaP rfl rfl rfl rfl rfl) rfl <| WO.U (oLdP rfl rfl rfl rfl rfl) rfl <| WO.U (oFaP rfl rfl rfl rfl rfl) rfl <| WO.U (oLdP rfl rfl rfl rfl rfl) rfl <| WO.U (oNeg64 rfl (by omega)) rfl <| WO.U (cI (((v.natAbs : Nat) : Int)) (oMax rfl rfl) (by rw [hia]; split <;> omega)) rfl <| WO.U (cI (((v.natAbs : Nat) : Int)) (oCnv rfl rfl rfl) (by rw [IntKind.wrap_u64]; omega)) rfl <| WO.U (oFaP rfl rfl rfl rfl rfl) rfl <| WO.U (oLdP rfl rfl rfl rfl rfl) rfl <| WO.U (oFaP rfl rfl rfl rfl rfl) rfl <| WO.U (oLdP rfl rfl rfl rfl rfl) rfl <| WO.U (oNeg64 rfl (by omega)) rfl <| WO.U (cI (((w.natAbs : Nat) : Int)) (oMax rfl rfl) (by rw [hiw]; split <;> omega)) rfl <| WO.U (cI (((w.natAbs : Nat) : Int)) (oCnv rfl rfl rfl) (by rw [IntKind.wrap_u64]; omega)) rfl <| WO.U (oCall rfl (mul64_run v.natAbs w.natAbs (by omega) (by omega)) (by simp)) rfl <| Um rfl rfl <| WO.U (oEx rfl rfl) rfl <| WO.U (oEx rfl rfl) rfl <| Ua rfl rfl <| Ua rfl rfl <| Nw [(2, _), (3, _), (4, _), (5, _), (6, _)] ⟨rfl, rfl, rfl, rfl, rfl, trivial⟩ <| WC.assoc ?_
 refine Rg 6 rfl <| Um rfl rfl <| WO.U (oEql rfl rfl) rfl <| WO.D (fun h44 => ?_) (fun h44 => ?_)
 rotate_left
 ·refine Um rfl rfl <| WO.K rfl rfl <| WO.K rfl rfl <| WO.U (oPkF rfl rfl) rfl <| Wn <| WC.cF rfl <| WC.skips <| WC.weak [(2, _), (3, _), (4, _)] ⟨rfl, rfl, rfl, trivial⟩ ?_
  exact J5 _ (by omega)
 refine Um rfl rfl <| WO.Ug rfl (oMv rfl) rfl <| WO.Ug rfl (oLss rfl rfl) rfl <| WO.D (fun h47 => ?_) (fun h47 => ?_)
 rotate_left
 ·refine WO.U (oPkT rfl rfl) rfl <| Wn <| WC.cF rfl <| WC.skips <| WC.weak [(2, _), (3, _), (4, _)] ⟨rfl, rfl, rfl, trivial⟩ ?_
  exact J5 _ (by omega)
 refine WO.U (oPkT rfl rfl) rfl <| Wn <| WC.cT rfl <| WC.assoc <| WC.draw (z := 10) rfl (by kernel_rfl) <| WD.U (oLdP (l := .agg [_, _]) rfl rfl rfl rfl rfl) rfl <| WD.U (oCall rfl (sign_run _) (by simp)) rfl <| WD.U (oLdP (l := .agg [_, _]) rfl rfl rfl rfl rfl) rfl <| WD.U (oCall rfl (sign_run _) (by simp)) rfl <| WD.U (cI σ (oMul64 rfl rfl (by rw [← hσ]; omega)) hσ.symm) rfl <| Dm rfl rfl <| WD.U (cI (((v.natAbs * w.natAbs : Nat) : Int)) (oCnv rfl rfl rfl) (by rw [IntWalk.i64_in _ (by omega)]; omega)) rfl <| WD.U (oMul64 rfl rfl (by rcases hs3 with h | h | ⟨h, _⟩ <;> rw [h] <;> omega)) rfl <| WD.U (oBd (cs := [_, _]) rfl rfl rfl rfl rfl) rfl <| WD.S0 (oSt (cs' := [_, _]) rfl rfl rfl rfl rfl rfl rfl rfl) <| WD.nil (drawOk_of (by kernel_rfl)) rfl <| WC.weak [(4, _)] ⟨rfl, trivial⟩ <| WC.rets <| post (n := 0) (.inr rfl) rfl ?_ (by simp)
 rw [evw, lvI_small (by unfold small; rcases hs3 with h | h | ⟨h, _⟩ <;> rw [h] <;> omega)]; rfl
end Go.Proofs.Ytcmieifjephdcaa
set_option linter.unusedVariables false
set_option linter.unusedSimpArgs false
set_option maxRecDepth 100000
namespace Go.Proofs.Ytcmieifjephdcaa
open Go.Ab Go.RowKit
theorem div32_run (hi lo y : Nat) (hh : hi < y) (hl : lo < 4294967296) (hy : y < 4294967296) : Run Try.prog T E0 (.call 111 [.v (.int .u32 (hi : Int)), .v (.int .u32 (lo : Int)), .v (.int .u32 (y : Int))] (.tup [.v (.int .u32 (((hi * 4294967296 + lo) / y : Nat) : Int)), .v (.int .u32 (((hi * 4294967296 + lo) % y : Nat) : Int))])) := by
 have hq : (hi * 4294967296 + lo) / y < 4294967296 := by
  rw [Nat.div_lt_iff_lt_mul (by omega)]; have := Nat.mul_le_mul_left 4294967296 (show hi + 1 ≤ y from hh); omega
 have hr : (hi * 4294967296 + lo) % y < y := Nat.mod_lt _ (by omega)
 obtain ⟨Q, hQ⟩ : ∃ Q, Q = (hi * 4294967296 + lo) / y := ⟨_, rfl⟩
 obtain ⟨R, hR⟩ : ∃ R, R = (hi * 4294967296 + lo) % y := ⟨_, rfl⟩
 rw [← hQ] at hq
 rw [← hR] at hr
 refine mkcall Try.func111 rfl rfl (Nat.le_of_ble_eq_true rfl) <| Rg 2 rfl <| Ua rfl rfl <| Ua rfl rfl <| Wn <| WC.assoc <| Rg 7 rfl <| Um rfl rfl <| WO.U (oNeq rfl rfl) rfl <| WO.D (fun h10 => ?_) (fun h10 => ?_)
 rotate_left
 ·omega
 refine Um rfl rfl <| WO.Ug rfl (oMv rfl) rfl <| WO.Ug rfl (oMv rfl) rfl <| WO.Ug rfl (oLeq rfl rfl) rfl <| WO.D (fun h14 => ?_) (fun h14 => ?_)
 ·omega
 refine WO.U (oPkT rfl rfl) rfl <| Wn <| WC.cF rfl <| WC.skips <| Rg 7 rfl <| Um rfl rfl <| WO.U (cI ((hi : Int)) (oCnv rfl rfl rfl) (by rw [IntKind.wrap_u64]; omega)) rfl <| WO.U (cI (((hi * 4294967296 : Nat) : Int)) (oShlU (s := 32) rfl rfl (by omega)) (by omega)) rfl <| Um rfl rfl <| WO.U (cI ((lo : Int)) (oCnv rfl rfl rfl) (by rw [IntKind.wrap_u64]; omega)) rfl <| WO.U (oBin (v := .int .u64 (((hi * 4294967296 + lo) : Nat) : Int)) rfl rfl (or_hi (by omega) hl)) rfl <| Ua rfl rfl <| Nw [(2, _), (8, _)] ⟨rfl, rfl, trivial⟩ <| WC.draw (z := 12) rfl (by kernel_rfl) <| Dm rfl rfl <| Dm rfl rfl <| WD.U (cI ((y : Int)) (oCnv rfl rfl rfl) (by rw [IntKind.wrap_u64]; omega)) rfl <| WD.U (cI ((Q : Int)) (oQuoU rfl rfl (by omega) (by omega)) (by rw [hQ])) rfl <| WD.U (cI ((Q : Int)) (oCnv rfl rfl rfl) (by rw [IntKind.wrap_u32]; omega)) rfl <| Dm rfl rfl <| Dm rfl rfl <| WD.U (cI ((y : Int)) (oCnv rfl rfl rfl) (by rw [IntKind.wrap_u64]; omega)) rfl <| WD.U (cI ((R : Int)) (oRemU rfl rfl (by omega)) (by rw [hR])) rfl ?_
 refine WD.U (cI ((R : Int)) (oCnv rfl rfl rfl) (by rw [IntKind.wrap_u32]; omega)) rfl <| WD.U (oAs rfl) rfl <| WD.U (oAs rfl) rfl <| WD.nil (drawOk_of (by kernel_rfl)) rfl <| WC.ret ?_
 exact post (n := 0) (.inr rfl) rfl (by rw [← hQ, ← hR]; rfl) (by simp)
theorem short_run (k0 : Nat) (xs : List Nat) (y : Nat) (hx : Dg B32 xs) (hy : 0 < y) (hy2 : y < 4294967296) (lx : xs.length < 1099511627776) : ∃ r, Run Try.prog T E0 (.call 101 [.sl k0 (xs.map d32), .v (.int .u32 (y : Int))] r) ∧ ∃ ds rest, r = .tup [.sl 1 (ds.map d32), .v (.int .u32 ((rest : Nat) : Int))] ∧ Dg B32 ds ∧ rest < y ∧ val B32 ds * y + rest = val B32 xs ∧ ds.length = xs.length := by
 refine mkcallE Try.func101 rfl rfl (Nat.le_of_ble_eq_true rfl) <| Rg 2 rfl <| Ua rfl rfl <| Ua rfl rfl <| Wn <| Rg 4 rfl <| Um rfl rfl <| WO.U (oLenM rfl rfl) rfl <| WO.S (oMk (a := xs.length) (b := xs.length) rfl rfl rfl rfl (by omega) (by omega) (by decide) (by omega) (by show 4 * xs.length ≤ _; omega) (by omega)) rfl <| Ua rfl rfl <| Wn <| Rg 1 rfl <| Ua rfl rfl <| Wn <| WC.assoc <| Rg 4 rfl <| Um rfl rfl <| WO.U (oLenM rfl rfl) rfl <| WO.U (oSub64 rfl rfl (by omega)) rfl <| Ua rfl rfl <| Wn <| WC.block <| WC.loopV (α := Nat × Nat × (List Nat)) (fun ⟨k, rest, us⟩ => [(0, .sl k0 (xs.map d32)), (1, .v (.int .u32 (y : Int))), (6, .ref (0 + 2 + 2) 1 0 us.length), (7, .v (.int .u32 (rest : Int))), (8, .v (.int .i64 ((k : Int) - 1)))]) (fun ⟨k, rest, us⟩ => [(0 + 2 + 2, { cells := (us.map d32).flatten, sz := 1, elem := 109, st := 0 })]) (fun ⟨k, rest, us⟩ n => k ≤ xs.length ∧ us.length = xs.length ∧ Dg B32 us ∧ rest < y ∧ val B32 (us.drop k) * y + rest = val B32 (xs.drop k)) (fun ⟨k, rest, us⟩ => k) (xs.length, 0, List.replicate xs.length 0) ⟨rfl, rfl, congrArg some (by rw [List.length_replicate]; rfl), rfl, rfl, trivial⟩ ⟨g0.trans (by rw [List.map_replicate]; rfl), trivial⟩ ⟨Nat.le_refl _, by simp, by intro d hd; simp at hd; rw [hd.2]; decide, hy, by simp [val]⟩ ?_
 rintro ⟨k, rest, us⟩ n hF
 change WC _ _ _ _ _ [(0, .sl k0 (xs.map d32)), (1, .v (.int .u32 (y : Int))), (6, .ref (0 + 2 + 2) 1 0 us.length), (7, .v (.int .u32 (rest : Int))), (8, .v (.int .i64 ((k : Int) - 1)))] ([(0 + 2 + 2, { cells := (us.map d32).flatten, sz := 1, elem := 109, st := 0 })]) n _
 obtain ⟨hk, hul, hud, hrest, huv⟩ := hF
 refine WC.assoc <| Rg 2 rfl <| Um rfl rfl <| WO.U (oGeq rfl rfl) rfl <| WO.D (fun h16 => ?_) (fun h16 => ?_)
 rotate_left
 ·refine Wn <| WC.cF rfl <| WC.exits <| loopR_exit <| after_exit rfl <| Rg 4 rfl <| Um rfl rfl <| Um rfl rfl <| Ua rfl rfl <| Ua rfl rfl <| Wn <| WC.ret <| ⟨.tup [.sl 1 (us.map d32), .v (.int .u32 (rest : Int))], ⟨us, rest, rfl, hud, hrest, ?_, hul⟩, postA (n := 0) [(0 + 2 + 2, { cells := (us.map d32).flatten, sz := 1, elem := 109, st := 1 })] (.inr rfl) rfl (.own _ (by simp) rfl (by show (0 : Nat) ≠ 2; decide) rfl (by decide) (by simp [keys]) rfl rows_d32 data_rows_d32 (.data (by simp) .nil)) (by intro p hp; simp at hp; subst hp; exact ⟨_, rfl, by show (0 : Nat) ≠ 2; decide, rfl⟩)⟩
  have h0 : k = 0 := by omega
  subst h0
  simpa using huv
 refine Wn <| WC.cT rfl <| WC.skips <| WC.block ?_
 have hxl : xs.getD (k - 1) default < 4294967296 := getD_lt hx (by omega)
 have hq : (rest * 4294967296 + xs.getD (k - 1) default) / y < 4294967296 := by
  rw [Nat.div_lt_iff_lt_mul hy]; have := Nat.mul_le_mul_left 4294967296 (show rest + 1 ≤ y from hrest); omega
 refine WC.reg1z (z := 15) rfl <| Um rfl rfl <| Um rfl rfl <| Um rfl rfl <| Um rfl rfl <| Um rfl rfl <| WO.U (oIxM (j := k - 1) rfl rfl rfl rfl (by omega) (by omega) rfl) rfl <| WO.U (oLd rfl rfl rfl) rfl <| Um rfl rfl <| WO.U (oCall rfl (div32_run rest (xs.getD (k - 1) default) y hrest hxl hy2) (by simp)) rfl <| Um rfl rfl <| WO.U (oEx rfl rfl) rfl <| WO.U (oEx rfl rfl) rfl <| WO.U (oIxR (j := k - 1) rfl rfl rfl rfl (by omega) (by omega) rfl) rfl <| WO.S0 (oStO (f := d32) (us := us) ((rest * 4294967296 + xs.getD (k - 1) default) / y) rfl rfl rfl g0 (fun _ => rfl) rfl rfl (by omega) rfl) <| Ua rfl rfl <| Wn <| after_normal <| WC.weak [(0, _), (1, _), (6, _), (7, _), (8, _)] ⟨rfl, rfl, rfl, rfl, rfl, trivial⟩ <| WC.reg1z (z := 3) rfl <| Um rfl rfl <| WO.U (cI (((k - 1 : Nat) : Int) - 1) (oSub64 rfl rfl (by omega)) (by omega)) rfl <| Ua rfl rfl <| WO.nil ?_
 refine loopR_normal ?_
 have hj : k - 1 + 1 = k := by omega
 refine ⟨⟨k - 1, (rest * 4294967296 + xs.getD (k - 1) default) % y, us.set (k - 1) ((rest * 4294967296 + xs.getD (k - 1) default) / y)⟩, ⟨rfl, rfl, congrArg some (by rw [List.length_set]), rfl, rfl, trivial⟩, ⟨g0, trivial⟩, ⟨by omega, by rw [List.length_set]; exact hul, hud.set _ hq, Nat.mod_lt _ hy, ?_⟩, by show k - 1 < k; omega⟩
 exact short_step hy (by rw [hj]; exact huv) (by omega) (by omega)
end Go.Proofs.Ytcmieifjephdcaa
set_option linter.unusedVariables false
set_option linter.unusedSimpArgs false
set_option maxRecDepth 100000
namespace Go.Proofs.Ytcmieifjephdcaa
open Go.Ab Go.RowKit
theorem shifted_run (k0 : Nat) (xs : List Nat) (sh : Nat) (hx : Dg B32 xs) (hn : sh < 32) (lx : xs.length < 1099511627776) : ∃ sz len ob, Run Try.prog T E0 (.callO 113 [.sl k0 (xs.map d32), .v (.int .i64 (sh : Int))] (.ref 0 sz 0 len) ob) ∧ ∃ ds, sz = 1 ∧ len = ds.length ∧ ob = { cells := (ds.map d32).flatten, sz := 1, elem := 109, st := 0 } ∧ Dg B32 ds ∧ val B32 ds = val B32 xs * 2 ^ sh ∧ ds.length = xs.length + 1 := by
 have hp : (2 : Nat) ^ sh ≤ 2 ^ 31 := Nat.pow_le_pow_right (by decide) (by omega)
 have hp0 : 0 < (2 : Nat) ^ sh := Nat.pow_pos (by decide)
 refine mkcallO Try.func113 rfl rfl (Nat.le_of_ble_eq_true rfl) <| Rg 1 rfl <| Ua rfl rfl <| Wn <| Rg 5 rfl <| Um rfl rfl <| WO.U (oLenM rfl rfl) rfl <| WO.U (oAdd64 rfl rfl (by omega)) rfl <| WO.S (oMk (a := xs.length + 1) (b := xs.length + 1) rfl rfl rfl rfl (by omega) (by omega) (by decide) (by omega) (by show 4 * (xs.length + 1) ≤ _; omega) (by omega)) rfl <| Ua rfl rfl <| Wn <| WC.assoc <| Rg 3 rfl <| Um rfl rfl <| WO.U (oLenM rfl rfl) rfl <| Um rfl rfl <| Wn <| WC.block <| WC.loopV (α := Nat × (List Nat)) (fun ⟨i, us⟩ => [(1, .v (.int .i64 (sh : Int))), (5, .ref (0 + 1 + 3) 1 0 us.length), (13, .sl k0 (xs.map d32)), (14, .v (.int .i64 (xs.length : Int))), (15, .v (.int .i64 (i : Int)))]) (fun ⟨i, us⟩ => [(0 + 1 + 3, { cells := (us.map d32).flatten, sz := 1, elem := 109, st := 0 })]) (fun ⟨i, us⟩ n => i ≤ xs.length ∧ us.length = xs.length + 1 ∧ Dg B32 us ∧ val B32 us = val B32 (xs.take i) * 2 ^ sh ∧ (∀ j, i < j → us.getD j default = 0) ∧ us.getD i default < 2 ^ sh) (fun ⟨i, us⟩ => xs.length - i) (0, List.replicate (xs.length + 1) 0) ⟨rfl, congrArg some (by rw [List.length_replicate]; rfl), rfl, rfl, rfl, trivial⟩ ⟨g0.trans (by rw [List.map_replicate]; rfl), trivial⟩ ⟨Nat.zero_le _, by simp, by intro d hd; simp at hd; rw [hd]; decide, by rw [val_zeros]; simp [val], fun j _ => getD_zeros _ _, by rw [getD_zeros]; exact hp0⟩ ?_
 rintro ⟨i, us⟩ n hF
 change WC _ _ _ _ _ [(1, .v (.int .i64 (sh : Int))), (5, .ref (0 + 1 + 3) 1 0 us.length), (13, .sl k0 (xs.map d32)), (14, .v (.int .i64 (xs.length : Int))), (15, .v (.int .i64 (i : Int)))] ([(0 + 1 + 3, { cells := (us.map d32).flatten, sz := 1, elem := 109, st := 0 })]) n _
 obtain ⟨hi, hul, hud, huv, huz, hlo⟩ := hF
 refine Rg 1 rfl <| WO.U (oLss rfl rfl) rfl <| WO.D (fun h16 => ?_) (fun h16 => ?_)
 rotate_left
 ·refine Wn <| WC.cF rfl <| WC.exits <| loopR_exit <| after_exit rfl <| Rg 2 rfl <| Um rfl rfl <| Ua rfl rfl <| Wn <| WC.ret <| ⟨1, us.length, _, ⟨us, rfl, rfl, rfl, hud, ?_, hul⟩, .inr rfl, _, rfl, rfl, rfl, rfl, by intro c hc; obtain ⟨row, hr, hc⟩ := List.mem_flatten.1 hc; exact data_rows_d32 row hr c hc⟩
  rw [huv, List.take_of_length_le (by omega)]
 refine Wn <| WC.cT rfl <| WC.skips <| WC.block <| Rg 5 rfl <| Um rfl rfl <| WO.U (oIxM rfl rfl rfl rfl rfl (by omega) rfl) rfl <| WO.U (oLd rfl rfl rfl) rfl <| Ua rfl rfl <| Ua rfl rfl <| WO.nil ?_
 have hxl : xs.getD i default < 4294967296 := getD_lt hx (by omega)
 have hw : (xs.getD i default * 2 ^ sh) < 9223372036854775808 := by
  have := Nat.mul_lt_mul_of_lt_of_le hxl hp (by decide); omega
 have hor := shift_or hn hlo hxl
 have hhi := shift_hi (n := sh) hxl
 have hol : us.getD i default < 4294967296 := by omega
 refine Rg 5 rfl <| Um rfl rfl <| WO.U (cI ((xs.getD i default : Int)) (oCnv rfl rfl rfl) (by rw [IntKind.wrap_u64]; omega)) rfl <| Um rfl rfl <| WO.U (cI ((((xs.getD i default * 2 ^ sh) : Nat) : Int)) (oShlU (s := sh) rfl rfl (by omega)) (by rw [show ((xs.getD i default : Nat) : Int) * 2 ^ sh = (((xs.getD i default * 2 ^ sh) : Nat) : Int) by simp]; omega)) rfl <| Ua rfl rfl <| Nw [(1, _), (5, _), (6, _), (8, _), (13, _), (14, _), (15, _)] ⟨rfl, rfl, rfl, rfl, rfl, rfl, rfl, trivial⟩ <| Rg 9 rfl <| Um rfl rfl <| Um rfl rfl <| WO.U (oIxR rfl rfl rfl rfl rfl (by omega) rfl) rfl <| WO.U (oLdO (f := d32) (us := us) (j := i) rfl rfl g0 (fun _ => rfl) rfl (by decide) (by omega) rfl) rfl <| Um rfl rfl <| WO.U (cI ((((xs.getD i default * 2 ^ sh) % 4294967296 : Nat) : Int)) (oCnv rfl rfl rfl) (by rw [IntKind.wrap_u32]; omega)) rfl <| WO.U (oBin (v := .int .u32 (((us.getD i default + (xs.getD i default * 2 ^ sh) % 4294967296) : Nat) : Int)) rfl rfl ((or32 hol (by omega)).trans (by rw [hor.1]))) rfl <| WO.U (oIxR rfl rfl rfl rfl rfl (by omega) rfl) rfl <| WO.S0 (oStO (f := d32) (us := us) (us.getD i default + (xs.getD i default * 2 ^ sh) % 4294967296) rfl rfl rfl g0 (fun _ => rfl) rfl rfl (by omega) rfl) <| Nw [(1, _), (5, _), (6, _), (8, _), (13, _), (14, _), (15, _)] ⟨rfl, rfl, rfl, rfl, rfl, rfl, rfl, trivial⟩ <| WC.reg1z (z := 8) rfl <| Um rfl rfl <| Um rfl rfl <| WO.U (cI (((i + 1 : Nat) : Int)) (oAdd64 rfl rfl (by omega)) (by omega)) rfl ?_
 refine Um rfl rfl <| WO.U (cI ((((xs.getD i default * 2 ^ sh) / 4294967296 : Nat) : Int)) (oShrU (s := 32) rfl rfl (by omega)) (by omega)) rfl <| WO.U (cI ((((xs.getD i default * 2 ^ sh) / 4294967296 : Nat) : Int)) (oCnv rfl rfl rfl) (by rw [IntKind.wrap_u32]; omega)) rfl <| WO.U (oIxR rfl rfl rfl rfl rfl (by omega) rfl) rfl <| WO.S0 (oStO (f := d32) (us := us.set i (us.getD i default + (xs.getD i default * 2 ^ sh) % 4294967296)) ((xs.getD i default * 2 ^ sh) / 4294967296) rfl rfl rfl g0 (fun _ => rfl) rfl rfl (by rw [List.length_set]; omega) rfl) <| Wn <| after_normal <| WC.reg1z (z := 2) rfl <| WO.U (cI (((i + 1 : Nat) : Int)) (oAdd64 rfl rfl (by omega)) (by omega)) rfl <| Um rfl rfl <| Wn <| loopR_normal <| ⟨⟨i + 1, (us.set i (us.getD i default + (xs.getD i default * 2 ^ sh) % 4294967296)).set (i + 1) ((xs.getD i default * 2 ^ sh) / 4294967296)⟩, ⟨rfl, congrArg some (by rw [List.length_set, List.length_set]), rfl, rfl, rfl, trivial⟩, ⟨g0, trivial⟩, ⟨by omega, by rw [List.length_set, List.length_set]; exact hul, (hud.set _ hor.2).set _ (by show _ < 4294967296; omega), shift_step (by decide) huv (by omega) (huz _ (by omega)), ?_, ?_⟩, by show xs.length - (i + 1) < xs.length - i; omega⟩
 ·intro j hj
  rw [lgetD_set (by omega), lgetD_set (by omega)]; exact huz j (by omega)
 ·have : ((us.set i (us.getD i default + (xs.getD i default * 2 ^ sh) % 4294967296)).set (i + 1) ((xs.getD i default * 2 ^ sh) / 4294967296)).getD (i + 1) default = (xs.getD i default * 2 ^ sh) / 4294967296 := by
   rw [List.getD_eq_getElem?_getD, List.getElem?_set_self (by simp; omega)]; rfl
  rw [this]; exact hhi
theorem len32_run (x : Nat) (hx : x < 4294967296) : Run Try.prog T E0 (.call 69 [.v (.int .u32 (x : Int))] (.v (.int .i64 ((blen x : Nat) : Int)))) := by
 refine mkcall Try.func69 rfl rfl (Nat.le_of_ble_eq_true rfl) ?_
 have J7 : ∀ (y k : Nat) (hy : y < 256) (hk : k ≤ 24) (he : blen x = blen y + k) (n : Nat) , WC Try.prog T E0 Try.f69.ntmps (codeR (codeR (codeR (codeOf Try.f69)))) [(0, .v (.int .u32 (y : Int))), (2, .v (.int .i64 (k : Int)))] [] n (Post T Try.f69.results.toList (.v (.int .i64 ((blen x : Nat) : Int)))) := by
  intro y k hy hk he n
  have hyb := blen_le (n := 8) hy
  refine Rg 7 rfl <| Um rfl rfl <| Um rfl rfl <| WO.U (cI ((y : Int)) (oCnv rfl rfl rfl) (by rw [IntKind.wrap_u8]; omega)) rfl <| WO.U (cI (((blen y : Nat) : Int)) (oIxS (bs := tab8) (n := (y : Int)) rfl (by kernel_rfl) rfl (by omega) (tab8_get hy)) (congrArg Int.ofNat (tab8_val hy))) rfl <| WO.U (cI (((blen y : Nat) : Int)) (oCnv rfl rfl rfl) (by rw [IntWalk.i64_in _ (by omega)])) rfl <| WO.U (oAdd64 rfl rfl (by omega)) rfl <| Ua rfl rfl <| Wn <| WC.ret ?_
  exact post (n := 0) (.inr rfl) rfl (congrArg (fun z => LV.v (.int .i64 z)) (by omega)) (by simp)
 refine Rg 1 rfl <| Ua rfl rfl <| Wn <| WC.assoc <| Rg 2 rfl <| Um rfl rfl <| WO.U (oGeq rfl rfl) rfl <| WO.D (fun h4 => ?_) (fun h4 => ?_)
 rotate_left
 ·refine Wn <| WC.cF rfl <| WC.skips <| WC.assoc <| Rg 2 rfl <| Um rfl rfl <| WO.U (oGeq rfl rfl) rfl <| WO.D (fun h8 => ?_) (fun h8 => ?_)
  rotate_left
  ·refine Wn <| WC.cF rfl <| WC.skips <| WC.weak [(0, _), (2, _)] ⟨rfl, rfl, trivial⟩ ?_
   first | exact J7 (x / 65536) 16 (by omega) (by omega) (blen_div (x := x) (k := 16) (by omega)) _ | exact J7 x 0 (by omega) (by omega) rfl _
  refine Wn <| WC.cT rfl <| WC.assoc <| Rg 3 rfl <| Um rfl rfl <| WO.U (cI (((x / 256 : Nat) : Int)) (oShr32 (s := 8) rfl rfl (by omega)) (by omega)) rfl <| Ua rfl rfl <| Wn <| Rg 3 rfl <| Um rfl rfl <| WO.U (oAdd64 rfl rfl (by omega)) rfl <| Ua rfl rfl <| Nw [(0, _), (2, _)] ⟨rfl, rfl, trivial⟩ ?_
  first | exact J7 (x / 65536 / 256) 24 (by omega) (by omega) (by rw [blen_div (x := x) (k := 16) (by omega), blen_div (x := x / 2 ^ 16) (k := 8) (by omega)]) _ | exact J7 (x / 256) 8 (by omega) (by omega) (blen_div (x := x) (k := 8) (by omega)) _
 refine Wn <| WC.cT rfl <| WC.assoc <| Rg 3 rfl <| Um rfl rfl <| WO.U (cI (((x / 65536 : Nat) : Int)) (oShr32 (s := 16) rfl rfl (by omega)) (by omega)) rfl <| Ua rfl rfl <| Wn <| Rg 1 rfl <| Ua rfl rfl <| Wn <| WC.assoc <| Rg 2 rfl <| Um rfl rfl <| WO.U (oGeq rfl rfl) rfl <| WO.D (fun h8 => ?_) (fun h8 => ?_)
 rotate_left
 ·refine Wn <| WC.cF rfl <| WC.skips <| WC.weak [(0, _), (2, _)] ⟨rfl, rfl, trivial⟩ ?_
  first | exact J7 (x / 65536) 16 (by omega) (by omega) (blen_div (x := x) (k := 16) (by omega)) _ | exact J7 x 0 (by omega) (by omega) rfl _
 refine Wn <| WC.cT rfl <| WC.assoc <| Rg 3 rfl <| Um rfl rfl <| WO.U (cI (((x / 65536 / 256 : Nat) : Int)) (oShr32 (s := 8) rfl rfl (by omega)) (by omega)) rfl <| Ua rfl rfl <| Wn <| Rg 3 rfl <| Um rfl rfl <| WO.U (oAdd64 rfl rfl (by omega)) rfl <| Ua rfl rfl <| Nw [(0, _), (2, _)] ⟨rfl, rfl, trivial⟩ ?_
 first | exact J7 (x / 65536 / 256) 24 (by omega) (by omega) (by rw [blen_div (x := x) (k := 16) (by omega), blen_div (x := x / 2 ^ 16) (k := 8) (by omega)]) _ | exact J7 (x / 256) 8 (by omega) (by omega) (blen_div (x := x) (k := 8) (by omega)) _
theorem zeros32_run (x : Nat) (hx : x < 4294967296) : Run Try.prog T E0 (.call 112 [.v (.int .u32 (x : Int))] (.v (.int .i64 ((32 - blen x : Nat) : Int)))) := by
 have hb := blen_le (n := 32) hx
 refine mkcall Try.func112 rfl rfl (Nat.le_of_ble_eq_true rfl) <| Rg 1 rfl <| Ua rfl rfl <| Wn <| Rg 4 rfl <| Um rfl rfl <| WO.U (oCall rfl (len32_run x hx) (by simp)) rfl <| WO.U (oSub64 rfl rfl (by omega)) rfl <| Ua rfl rfl <| Wn <| WC.ret ?_
 exact post (n := 0) (.inr rfl) rfl (congrArg (fun z => LV.v (.int .i64 z)) (by omega)) (by simp)
end Go.Proofs.Ytcmieifjephdcaa
