/- Part C of the proof of matrixLaws_holds: what it rests on. No condition. -/
import Derived.Test.YtcmieifjephdcaaGreatLawB
import Derived.Test.YtcmieifjephdcaaGreatProg
set_option linter.unusedVariables false
set_option linter.unusedSimpArgs false
namespace Go.Ab
open Go.RowKit
def dotn (a b : List Rat) : Nat → Rat
 | 0 => 0
 | i + 1 => dotn a b i + a.getD i default * b.getD i default
def dotR (a b : List Rat) : Rat := dotn a b a.length
theorem dotn_skip {a b : List Rat} {i : Nat} (h : a.getD i default = 0 ∨ b.getD i default = 0) : dotn a b (i + 1) = dotn a b i := by
 rw [dotn]
 rcases h with h | h <;> rw [h]
 ·rw [Rat.zero_mul, Rat.add_zero]
 ·rw [Rat.mul_zero, Rat.add_zero]
theorem dotn_bd {a b : List Rat} {n m : Nat} (ha : ∀ x, x ∈ a → Bd n x) (hb : ∀ x, x ∈ b → Bd m x) (hl : a.length ≤ b.length) : ∀ i, i ≤ a.length → Bd (1 + i * (n + m + 1)) (dotn a b i)
 | 0, _ => Bd0 (by omega)
 | i + 1, hi => by
  rw [dotn]
  refine ((dotn_bd ha hb hl i (by omega)).add ((ha _ (getD_mem (by omega))).mul (hb _ (getD_mem (by omega))))).mono ?_
  rw [Nat.succ_mul]; omega
def colR (B : List (List Rat)) (k : Nat) : List Rat := B.map fun s => s.getD k default
def prodR (A B : List (List Rat)) (w : Nat) : List (List Rat) := A.map fun r => (List.range w).map fun k => dotR r (colR B k)
def appR (A : List (List Rat)) (x : List Rat) : List Rat := A.map fun r => dotR r x
theorem bd_mul {i l c : Nat} (h : i ≤ l) : i * c ≤ l * c := Nat.mul_le_mul_right c h
section
variable {P : Program} {T : TT} {E : TypeId → Bool} {N : Nat} {e : Env} {h : Hp} {K : Env → Hp → Prop}
variable {dst : Option Tmp} {ty : TypeId} {pos : String} {af : Array Edge} {g : Option (Nat × Bool)} {id : Nat}
theorem Fz.same (a : Env) (b : Hp) (hs : subs a e) (hb : Hp.le b h) (k : K a b) : Fz N e h K := fun s m hf hm => by
 have hb' : FitsM b m := fun t l hg => hm t l (hb t l hg)
 refine ⟨s, m, [], by intro p hp; simp at hp, ⟨rfl, fun i l l' hl hl' => .inl ?_⟩, fun r => ?_, a, b, hf.weak hs, hb', k⟩
 ·rw [hl] at hl'; exact (Option.some.inj hl').symm
 ·cases hr : m r with
  | none => exact .inl ⟨hr, rfl⟩
  | some o => exact .inr ⟨o, o.cells, hr, rfl, rfl, fun i c c2 hc hc2 => .inl (by rw [hc] at hc2; exact (Option.some.inj hc2).symm)⟩
theorem Fz.env {q sz el t : Nat} {us : List (List LV)} (a : Env) (hs : subs a e) (ht : e.get t = some (outV q sz us)) (hq : us ≠ [] → ∀ r o, getH h r = some o → r ≠ q) (h0 : 0 < sz) (hl : ∀ row, row ∈ us → row.length = sz) (hd : ∀ row, row ∈ us → ∀ c, c ∈ row → Data c)
  (k : K ((t, .sl (kd us.length) us) :: a) h) : Fz N e (outH q sz el us h) K := by
 cases us with
 | nil => exact Fz.same ((t, .sl 0 []) :: a) h ⟨ht, hs⟩ (fun _ _ h => h) k
 | cons u us =>
  refine Fz.one (u :: us) ((t, .sl 1 (u :: us)) :: a) h (ob := { cells := (u :: us).flatten, sz := sz, elem := el, st := 0 }) g0 (by show (0 : Nat) ≠ 2; decide) rfl h0 rfl hl hd (fun t' l2 h2 => ?_) (fun r o2 hr => ?_) k
  ·by_cases e1 : t = t'
   ·subst e1
    have h3 : (Env.get ((t, LV.sl 1 (u :: us)) :: a) t) = some (LV.sl 1 (u :: us)) := by simp [Env.get]
    rw [h3] at h2; cases h2
    exact ⟨_, ht, .inr ⟨rfl, rfl⟩⟩
   ·have h3 : (Env.get ((t, LV.sl 1 (u :: us)) :: a) t') = Env.get a t' := by
     have e3 : Nat.beq t t' = false := Bool.eq_false_iff.2 fun h => e1 (Nat.eq_of_beq_eq_true h)
     simp [Env.get, e3]
    rw [h3] at h2
    exact ⟨l2, hs.get t' l2 h2, .inl rfl⟩
  ·have hne := hq (by simp) r o2 hr
   exact ⟨hne, o2, (g1 (Ne.symm hne) rfl).trans hr, rfl, rfl, fun i c c2 hc hc2 => .inl (by rw [hc] at hc2; exact (Option.some.inj hc2).symm)⟩
def one1 (l : LV) : List LV := [l]
theorem flat_one (cs : List LV) : (cs.map one1).flatten = cs := by
 induction cs with
 | nil => rfl
 | cons c cs ih => simp [one1] at ih ⊢; exact ih
theorem Fz.cell {q sz el el2 C z j : Nat} {us : List (List LV)} {cs : List LV} (a : Env) (hs : subs a e) (hj : j < cs.length) (hc : cs.getD j default = outV q sz us) (hqC : q ≠ C) (h0 : 0 < sz) (hl : ∀ row, row ∈ us → row.length = sz) (hd : ∀ row, row ∈ us → ∀ c, c ∈ row → Data c)
  (k : K a [(C, { cells := ((cs.set j (outR us)).map one1).flatten, sz := z, elem := el2, st := 0 })]) : Fz N e (outH q sz el us [(C, { cells := (cs.map one1).flatten, sz := z, elem := el2, st := 0 })]) K := by
 have hc' : cs[j]? = some (outV q sz us) := by
  rw [List.getElem?_eq_getElem hj]
  simpa [List.getD_eq_getElem?_getD, List.getElem?_eq_getElem hj] using hc
 rw [flat_one] at k ⊢
 cases us with
 | nil =>
  have : cs.set j (outR []) = cs := by
   refine List.ext_getElem? fun i => ?_
   rw [List.getElem?_set]
   by_cases e1 : j = i
   ·subst e1; rw [if_pos rfl, if_pos hj, hc']; rfl
   ·rw [if_neg e1]
  rw [this] at k
  exact Fz.same a _ hs (fun _ _ h => h) k
 | cons u us =>
  refine Fz.one (u :: us) a _ (ob := { cells := (u :: us).flatten, sz := sz, elem := el, st := 0 }) g0 (by show (0 : Nat) ≠ 2; decide) rfl h0 rfl hl hd (fun t' l2 h2 => ⟨l2, hs.get t' l2 h2, .inl rfl⟩) (fun r o2 hr => ?_) k
  by_cases e1 : C = r
  ·subst e1
   rw [g0] at hr; cases hr
   refine ⟨Ne.symm hqC, _, g1 hqC g0, rfl, by simp, fun i c c2 h1 h2 => ?_⟩
   simp only [List.getElem?_set] at h2
   by_cases e2 : j = i
   ·subst e2
    rw [if_pos rfl, if_pos hj] at h2; cases h2
    have h1 : cs[j]? = some c := h1
    rw [hc'] at h1; cases h1
    exact .inr ⟨rfl, rfl⟩
   ·rw [if_neg e2] at h2
    have h1 : cs[i]? = some c := h1
    rw [h1] at h2; exact .inl (Option.some.inj h2).symm
  ·rw [g1 e1 rfl] at hr; simp [getH] at hr
def outF (q sz el : Nat) (us : List (List LV)) : Delta := match us with
 | [] => []
 | u :: us => [(q, { cells := (u :: us).flatten, sz := sz, elem := el, st := 1 })]
theorem snapA_data {d : Delta} : ∀ {ls : List LV}, AllData ls → SnapA h d ls ls
 | [], _ => .nil
 | l :: ls, hd => .data (hd.get l (by simp)) (snapA_data (allData_of fun c hc => hd.get c (by simp [hc])))
theorem oCallU {f : FuncId} {args : Array Operand} {at_ : Array TypeId} {q sz el : Nat} {us : List (List LV)} {ls : List LV} {r : LV} (ha : argsE e args.toList = some (outV q sz us :: ls)) (hr : Run P T E (.call f (outR us :: ls) r)) (hq : us ≠ [] → getH h q = some { cells := us.flatten, sz := sz, elem := el, st := 0 }) (h0 : 0 < sz) (hl : ∀ row, row ∈ us → row.length = sz) (hd : ∀ row, row ∈ us → ∀ c, c ∈ row → Data c) (hls : AllData ls) :
  OP P T E ⟨dst, .call { callee := .value (.func f), args := args, argTypes := at_ }, ty, pos, af, g⟩ id e h r (outF q sz el us) (keys (outF q sz el us)) := by
 cases us with
 | nil => exact oCallF (.sl 0 [] :: ls) [] ha hr (.data (.sl _ _ (by simp)) (snapA_data hls)) (by intro p hp; simp at hp)
 | cons u us =>
  have hq' := hq (by simp)
  exact oCallF (.sl 1 (u :: us) :: ls) [(q, { cells := (u :: us).flatten, sz := sz, elem := el, st := 1 })] ha hr (.own (u :: us) rfl hq' (by show (0 : Nat) ≠ 2; decide) rfl h0 (by simp [keys]) rfl hl hd (snapA_data hls)) (by intro p hp; rw [List.mem_singleton] at hp; subst hp; exact ⟨_, hq', by show (0 : Nat) ≠ 2; decide, rfl⟩)
end
theorem outH_dom {q sz el C r : Nat} {us : List (List LV)} {o o' : Ob} (hr : getH (outH q sz el us [(C, o)]) r = some o') : r = q ∨ r = C := by
 by_cases h1 : q = r
 ·exact .inl h1.symm
 ·rw [outH_get h1 rfl] at hr
  by_cases h2 : C = r
  ·exact .inr h2.symm
  ·rw [g1 h2 rfl] at hr; simp [getH] at hr
theorem subsM_oo {a b c sa sb ea eb : Nat} {us vs : List (List LV)} {o : Ob} (h1 : a ≠ b) (h2 : a ≠ c) (h3 : b ≠ c) : subsM (outH a sa ea us (outH b sb eb vs [(c, o)])) (outH a sa ea us (outH b sb eb vs [(c, o)])) := by
 cases us <;> cases vs
 ·exact ⟨g0, trivial⟩
 ·exact ⟨g0, g1 h3 g0, trivial⟩
 ·exact ⟨g0, g1 h2 g0, trivial⟩
 ·exact ⟨g0, g1 h1 g0, g1 h2 (g1 h3 g0), trivial⟩
def wdx (bl : List X1) : Nat := if bl.length = 0 then 0 else (bl.getD 0 default).2.length
def xcol (bl : List X1) (j : Nat) : List X := bl.map fun r => r.2.getD j default
theorem xcol_v (bl : List X1) (j : Nat) : (xcol bl j).map (·.1) = colR (vX bl) j := by
 unfold xcol colR vX
 rw [List.map_map, List.map_map]
 refine List.map_congr_left fun r _ => ?_
 simp only [Function.comp]
 rw [gmap_getD (f := fun x : X => x.1) rfl]
theorem xcol_len (bl : List X1) (j : Nat) : (xcol bl j).length = bl.length := by simp [xcol]
theorem xcol_get {bl : List X1} {i j : Nat} (hi : i < bl.length) : (xcol bl j).getD i default = (bl.getD i default).2.getD j default := mapD (f := fun r : X1 => r.2.getD j default) hi
theorem vX_app (a b : List X1) : vX (a ++ b) = vX a ++ vX b := by simp [vX]
def mulO (a b : List M1) : Option (List (List NM)) := (prodR (vM a) (vM b) (wd b)).mapM fun r => r.mapM outN
def mulOk (a b : List M1) : Bool := VM a && VM b && !(decide (0 < a.length) && decide (wd a ≠ b.length))
def mul1 (a b : List M1) : List M1 := if mulOk a b = true then ((mulO a b).getD []).map kM else []
def mule (a b : List M1) : Int := if (VM a && VM b) = false then 1 else if 0 < a.length ∧ wd a ≠ b.length then 2 else if (mulO a b).isSome = true then 0 else 3
def lvMul (a b : List M1) : LV := .tup [.sl (kd (mul1 a b).length) ((mul1 a b).map fM), .v (.int .i64 (mule a b))]
instance {a b : List M1} : DC (lvMul a b) := ⟨.tup _ (by intro c hc; simp only [List.mem_cons, List.not_mem_nil, or_false] at hc; rcases hc with rfl | rfl; exact dsl dfM _ _; exact .v _)⟩
theorem lvMul_ok {a b : List M1} (h1 : VM a = true) (h2 : VM b = true) (h3 : 0 < a.length → wd a = b.length) : lvMul a b = lvOM (mulO a b) := by
 have h4 : (decide (0 < a.length) && decide (wd a ≠ b.length)) = false := by
  by_cases h : 0 < a.length
  ·simp [h3 h]
  ·simp [h]
 have h5 : ¬ (0 < a.length ∧ wd a ≠ b.length) := fun h => h.2 (h3 h.1)
 unfold lvMul mul1 mule mulOk lvOM
 rw [h1, h2, h4, if_neg h5]; simp
theorem lvMul_no1 {a b : List M1} (h : VM a = false ∨ VM b = false) : lvMul a b = .tup [.sl 0 [], .v (.int .i64 1)] := by
 have h1 : (VM a && VM b) = false := by rcases h with h | h <;> simp [h]
 unfold lvMul mul1 mule mulOk
 simp [h1, kd]
theorem lvMul_no2 {a b : List M1} (h1 : VM a = true) (h2 : VM b = true) (h3 : 0 < a.length) (h4 : wd a ≠ b.length) : lvMul a b = .tup [.sl 0 [], .v (.int .i64 2)] := by
 unfold lvMul mul1 mule mulOk
 simp [h1, h2, h3, h4, kd]
def appO (a : List M1) (x : List NM) : Option (List NM) := (appR (vM a) (x.map nq)).mapM outN
def appOk (a : List M1) (x : List NM) : Bool := VM a && VV x && !(decide (0 < a.length) && decide (wd a ≠ x.length))
def app1 (a : List M1) (x : List NM) : List NM := if appOk a x = true then (appO a x).getD [] else []
def appe (a : List M1) (x : List NM) : Int := if (VM a && VV x) = false then 1 else if 0 < a.length ∧ wd a ≠ x.length then 2 else if (appO a x).isSome = true then 0 else 3
def lvApp (a : List M1) (x : List NM) : LV := .tup [.sl (kd (app1 a x).length) ((app1 a x).map mc), .v (.int .i64 (appe a x))]
instance {a : List M1} {x : List NM} : DC (lvApp a x) := ⟨.tup _ (by intro c hc; simp only [List.mem_cons, List.not_mem_nil, or_false] at hc; rcases hc with rfl | rfl; exact dsl dmc _ _; exact .v _)⟩
theorem lvApp_ok {a : List M1} {x : List NM} (h1 : VM a = true) (h2 : VV x = true) (h3 : 0 < a.length → wd a = x.length) : lvApp a x = lvOV (appO a x) := by
 have h4 : (decide (0 < a.length) && decide (wd a ≠ x.length)) = false := by
  by_cases h : 0 < a.length
  ·simp [h3 h]
  ·simp [h]
 have h5 : ¬ (0 < a.length ∧ wd a ≠ x.length) := fun h => h.2 (h3 h.1)
 unfold lvApp app1 appe appOk lvOV
 rw [h1, h2, h4, if_neg h5]; simp
theorem lvApp_no1 {a : List M1} {x : List NM} (h : VM a = false ∨ VV x = false) : lvApp a x = .tup [.sl 0 [], .v (.int .i64 1)] := by
 have h1 : (VM a && VV x) = false := by rcases h with h | h <;> simp [h]
 unfold lvApp app1 appe appOk
 simp [h1, kd]
theorem lvApp_no2 {a : List M1} {x : List NM} (h1 : VM a = true) (h2 : VV x = true) (h3 : 0 < a.length) (h4 : wd a ≠ x.length) : lvApp a x = .tup [.sl 0 [], .v (.int .i64 2)] := by
 unfold lvApp app1 appe appOk
 simp [h1, h2, h3, h4, kd]
theorem wdx_nx (b : List M1) : wdx (b.map nxr) = wd b := by
 unfold wdx wd
 rw [List.length_map]
 by_cases h : b.length = 0
 ·rw [if_pos h, if_pos h]
 ·rw [if_neg h, if_neg h, mapD (f := nxr) (by omega)]
  show ((b.getD 0 default).2.map nx).length = _
  rw [List.length_map]
theorem prodR_row {A B : List (List Rat)} {w : Nat} : ∀ r, r ∈ prodR A B w → r.length = w := by
 intro r hr
 obtain ⟨s, _, rfl⟩ := List.mem_map.1 hr
 simp
theorem prodR_len (A B : List (List Rat)) (w : Nat) : (prodR A B w).length = A.length := by simp [prodR]
theorem vX_rows {rows : List X1} {M : List (List Rat)} {w : Nat} (h : vX rows = M) (hM : ∀ r, r ∈ M → r.length = w) : ∀ r, r ∈ rows → r.2.length = w := wid_vX hM h
theorem app1_len (a : List M1) (x : List NM) : (app1 a x).length ≤ a.length := by
 unfold app1
 split
 ·cases h : appO a x with
  | none => simp
  | some l =>
   have h1 := (mapM_len h).1
   simp [h1, appR, vM]
 ·simp
end Go.Ab
set_option linter.unusedVariables false
set_option linter.unusedSimpArgs false
namespace Go.Ab
open Go.RowKit
section
variable {P : Program} {T : TT} {E : TypeId → Bool}
variable {dst : Option Tmp} {ty : TypeId} {pos : String} {af : Array Edge} {g : Option (Nat × Bool)} {id : Nat} {e : Env} {h : Hp}
theorem snapL_data' {m : Mem} {d : Delta} {ls : List LV} (hd : ∀ c, c ∈ ls → Data c) : SnapL m d ls ls := ⟨rfl, fun i l l' hl hl' => by rw [hl] at hl'; cases hl'; exact .data _ (hd l (List.mem_of_getElem? hl))⟩
theorem mkcallOt {f : FuncId} {fn : Func} {c : Code} {args : List LV} {Φ : Nat → Nat → Ob → List LV → Prop} (hf : P.funcs[f]? = some fn) (hb : fn.body = some c) (hn : (fn.name == "runtime.NumGoroutine") = false) (hl : args.length ≤ fn.ntmps)
  (k : WC P T E fn.ntmps c (argsEnv 0 args) [] 0 (fun x e h n => (x = .normal ∨ x = .ret) ∧ ∃ sz len ob q q1 sz1 el1 us ls, Φ sz len ob (outR us :: ls) ∧ resE e T h fn.results.toList = some (.ref q sz 0 len :: outV q1 sz1 us :: ls) ∧ getH h q = some ob ∧ ob.st = 0 ∧ ob.sz = sz ∧ (∀ c, c ∈ ob.cells → Data c) ∧
   (us ≠ [] → q ≠ q1 ∧ getH h q1 = some { cells := us.flatten, sz := sz1, elem := el1, st := 0 }) ∧ 0 < sz1 ∧ (∀ row, row ∈ us → row.length = sz1) ∧ (∀ row, row ∈ us → ∀ c, c ∈ row → Data c) ∧ ∀ c, c ∈ ls → Data c)) : ∃ sz len ob rest, Run P T E (.callO f args (.tup (.ref 0 sz 0 len :: rest)) ob) ∧ Φ sz len ob rest := by
 obtain ⟨x, s', h1, e', h', h2, hm, hx, sz, len, ob, q, q1, sz1, el1, us, ls, hΦ, h3, h4, h5, h6, h7, h8, h9, h10, h11, h12⟩ := k (frame fn args) (fun _ => none) ⟨by simp [frame]; omega, fun t l ht => by
  obtain ⟨_, k⟩ := argsEnv_get args 0 t l ht
  simp only [Nat.sub_zero] at k
  unfold frame
  rw [List.getElem?_append_left (List.getElem?_eq_some_iff.1 k).1]; exact k⟩ (by intro k o hk; simp [getH] at hk)
 have hg : Run P T E (.gcall f args (fun _ => none) 0 (.tup (.ref q sz 0 len :: outV q1 sz1 us :: ls)) s'.m s'.n) := .gcall f fn c args _ 0 x s' _ hf hb hn hl h1 hx (resE_sound h2 hm h3)
 cases us with
 | nil =>
  exact ⟨sz, len, ob, _, Run.callOt f args q sz len ob ob.cells (outV q1 sz1 [] :: ls) (.sl 0 [] :: ls) s'.m s'.n [] hg (hm _ _ h4) h5 h6 (by simp [keys]) (snapL_data' h7) (fun i c e hc he => by rw [hc] at he; cases he; rfl)
   (snapL_data' (by intro c hc; rcases List.mem_cons.1 hc with rfl | hc; exact .sl _ _ (by simp); exact h12 c hc)) (by intro p hp; simp at hp), hΦ⟩
 | cons u us =>
  obtain ⟨hne, hq1⟩ := h8 (by simp)
  refine ⟨sz, len, ob, _, Run.callOt f args q sz len ob ob.cells (outV q1 sz1 (u :: us) :: ls) (.sl 1 (u :: us) :: ls) s'.m s'.n [(q1, { cells := (u :: us).flatten, sz := sz1, elem := el1, st := 1 })] hg (hm _ _ h4) h5 h6 (by simp [keys]; exact hne) (snapL_data' h7) (fun i c e hc he => by rw [hc] at he; cases he; rfl)
   ?_ (by intro p hp; rw [List.mem_singleton] at hp; subst hp; exact ⟨_, hm _ _ hq1, by show (0 : Nat) ≠ 2; decide, rfl⟩), hΦ⟩
  refine ⟨rfl, fun i l l' hl hl' => ?_⟩
  cases i with
  | zero =>
   simp only [List.getElem?_cons_zero, Option.some.injEq] at hl hl'
   subst hl; subst hl'
   exact snapRef hq1 (by show (0 : Nat) ≠ 2; decide) rfl h9 (by simp [keys]) rfl h10 h11 _ hm
  | succ i =>
   simp only [List.getElem?_cons_succ] at hl hl'
   rw [hl] at hl'; cases hl'
   exact .data _ (h12 l (List.mem_of_getElem? hl))
theorem oCallOF {f : FuncId} {args : Array Operand} {at_ : Array TypeId} {ls : List LV} (ls' : List LV) (d : Delta) {sz len : Nat} {rest : List LV} {ob : Ob} (ha : argsE e args.toList = some ls) (hr : Run P T E (.callO f ls' (.tup (.ref 0 sz 0 len :: rest)) ob)) (hd : SnapA h d ls ls') (hf : ∀ p, p ∈ d → ∃ o, getH h p.1 = some o ∧ o.st ≠ 2 ∧ p.2 = { o with st := 1 }) :
  OP P T E ⟨dst, .call { callee := .value (.func f), args := args, argTypes := at_ }, ty, pos, af, g⟩ id e h (.tup (.ref id sz 0 len :: rest)) (d ++ [(id, ob)]) (keys d) := fun s m hs hm =>
 .ocall (P := P) (T := T) (E := E) _ _ _ _ _ _ d _ (.func f) f [] [] ls' rfl rfl rfl (by
  rw [argsE_sound hs ha]
  simp only [List.nil_append, List.append_nil]
  exact hd.snap hm) (fun p hp => by obtain ⟨o, k1, k2, k3⟩ := hf p hp; exact ⟨o, hm _ _ k1, k2, k3⟩) hr
end
def uR (n i : Nat) : List Rat := (List.replicate n 0).set i 1
def uX (n i : Nat) : List X := (List.replicate n x0).set i (xint 1)
def wU (A : List (List Rat)) : List (List Rat) := (List.range A.length).map fun i => A.getD i default ++ uR A.length i
theorem uX_v (n i : Nat) : (uX n i).map (·.1) = uR n i := by unfold uX uR; rw [List.map_set, List.map_replicate]; rfl
theorem uX_len (n i : Nat) : (uX n i).length = n := by simp [uX]
theorem uR_len (n i : Nat) : (uR n i).length = n := by simp [uR]
def wUX (al : List X1) (i : Nat) : X1 := (1, (al.getD i default).2 ++ uX al.length i)
theorem vX_wU (al : List X1) : vX ((List.range al.length).map (wUX al)) = wU (vX al) := by
 unfold vX wU
 rw [List.map_map, List.length_map]
 refine range_map_congr fun i hi => ?_
 simp only [Function.comp, wUX, List.map_append]
 rw [mapD (f := fun r : X1 => r.2.map (·.1)) hi, uX_v]
theorem wU_len (A : List (List Rat)) : (wU A).length = A.length := by simp [wU]
theorem wU_wid {A : List (List Rat)} {w : Nat} (h : Wid w A) : Wid (w + A.length) (wU A) := by
 intro r hr
 obtain ⟨i, hi, rfl⟩ := List.mem_map.1 hr
 rw [List.length_append, h _ (getD_mem (List.mem_range.1 hi)), uR_len]
theorem uR_bd {n i : Nat} {b : Nat} (hb : 1 ≤ b) : ∀ x, x ∈ uR n i → Bd b x := by
 intro x hx
 rcases List.mem_or_eq_of_mem_set hx with h | h
 ·rw [(List.mem_replicate.1 h).2]; exact Bd0 hb
 ·rw [h]; exact Bd1.mono hb
theorem wU_bd {A : List (List Rat)} {b : Nat} (hb : 1 ≤ b) (h : BdL b A) : BdL b (wU A) := by
 intro r hr x hx
 obtain ⟨i, hi, rfl⟩ := List.mem_map.1 hr
 rcases List.mem_append.1 hx with hx | hx
 ·exact h _ (getD_mem (List.mem_range.1 hi)) x hx
 ·exact uR_bd hb x hx
structure Low (A : List (List Rat)) (k : Nat) (R : List (List Rat)) : Prop where
 len : R.length = A.length
 led : (gjn A k).2.length = k
 row : ∀ j, k ≤ j → j < A.length → R.getD j default = (gjn A k).1.getD j default
theorem Low.init (A : List (List Rat)) : Low A 0 A := ⟨rfl, rfl, fun _ _ _ => rfl⟩
theorem Low.ent {A R : List (List Rat)} {k j : Nat} (h : Low A k R) (hk : k ≤ j) (hj : j < A.length) (c : Nat) : Ab.ent R j c = Ab.ent (gjn A k).1 j c := by
 unfold Ab.ent; rw [h.row j hk hj]
theorem Low.pivot {A R : List (List Rat)} {k a : Nat} (h : Low A k R) (h1 : k ≤ a) (h2 : a ≤ A.length) (h3 : ∀ i, k ≤ i → i < a → Ab.ent R i k = 0) (h4 : a = A.length ∨ Ab.ent R a k ≠ 0) : Ab.pivot (gjn A k).1 (gjn A k).2.length k = a := by
 rw [h.led]
 refine pivot_eq h1 (by rw [gjn_len]; exact h2) (fun i hi hia => by rw [← h.ent hi (by omega)]; exact h3 i hi hia) ?_
 rcases h4 with h4 | h4
 ·left; rw [gjn_len]; exact h4
 ·by_cases e : a = A.length
  ·left; rw [gjn_len]; exact e
  ·right; rw [← h.ent h1 (by omega)]; exact h4
theorem rank_le (A : List (List Rat)) (k : Nat) : ∀ m, (gjn A (k + m)).2.length ≤ (gjn A k).2.length + m
 | 0 => Nat.le_refl _
 | m + 1 => by
  have := rank_le A k m
  rw [← Nat.add_assoc, gjn, gjs]
  split
  ·omega
  ·simp; omega
theorem Low.none {A R : List (List Rat)} {k n : Nat} (h : Low A k R) (hk : k < n) (hp : Ab.pivot (gjn A k).1 (gjn A k).2.length k = A.length) : (gjn A n).2.length < n := by
 have h1 : gjn A (k + 1) = gjn A k := by rw [gjn, gjs, gjn_len, if_pos hp]
 have h2 := rank_le A (k + 1) (n - (k + 1))
 rw [h1, h.led, show k + 1 + (n - (k + 1)) = n by omega] at h2
 omega
theorem rsc_rsc (a b : Rat) (x : List Rat) : rsc a (rsc b x) = rsc (a * b) x := by
 unfold rsc
 rw [List.map_map]
 exact List.map_congr_left fun y _ => (Rat.mul_assoc a b y).symm
theorem rad_zero (x y : List Rat) : rad x (rsc 0 y) = x := by
 refine list_eq (rad_len _ _) fun i hi => ?_
 rw [rad_len] at hi
 rw [rad_getD hi, rsc_getD, Rat.zero_mul, Rat.add_zero]
theorem Low.step {A R R2 R3 : List (List Rat)} {k a : Nat} (h : Low A k R) (ha : k ≤ a) (haA : a < A.length) (hp : Ab.pivot (gjn A k).1 (gjn A k).2.length k = a) (h2 : R2 = sw R a k) (hl3 : R3.length = A.length)
  (h3 : ∀ j, k < j → j < A.length → R3.getD j default = rad (R2.getD j default) (rsc (-(Ab.ent R2 j k / Ab.ent R2 k k)) (R2.getD k default))) : Low A (k + 1) R3 := by
 have hS : gjn A (k + 1) = (elim (mid (gjn A k).1 a k k) k k, (gjn A k).2 ++ [k]) := by rw [gjn, gjs, gjn_len, if_neg (by omega), hp, h.led]
 have hsw : ∀ j, k ≤ j → j < A.length → R2.getD j default = (sw (gjn A k).1 a k).getD j default := by
  intro j hj hjA
  subst h2
  unfold sw
  rw [gset_getD (by rw [List.length_set, h.len]; omega), gset_getD (by rw [h.len]; omega), gset_getD (by rw [List.length_set, gjn_len]; omega), gset_getD (by rw [gjn_len]; omega), h.row j hj hjA, h.row a ha haA, h.row k (Nat.le_refl _) (by omega)]
 refine ⟨hl3, by rw [hS]; simp [h.led], fun j hj hjA => ?_⟩
 rw [h3 j (by omega) hjA, hS]
 rw [elim_getD (by rw [mid_len, gjn_len]; exact hjA)]
 have hmj : (mid (gjn A k).1 a k k).getD j default = R2.getD j default := by
  unfold mid; rw [gset_getD (by rw [sw_len, gjn_len]; exact hjA), if_neg (by omega), hsw j (by omega) hjA]
 have hmk : (mid (gjn A k).1 a k k).getD k default = rsc (1 / Ab.ent R2 k k) (R2.getD k default) := by
  unfold mid; rw [gset_getD (by rw [sw_len, gjn_len]; omega), if_pos rfl]
  unfold Ab.ent; rw [hsw k (Nat.le_refl _) (by omega)]
 have hej : Ab.ent (mid (gjn A k).1 a k k) j k = Ab.ent R2 j k := by unfold Ab.ent; rw [hmj]
 unfold elr
 rw [hej, hmj, hmk]
 by_cases h0 : Ab.ent R2 j k = 0
 ·rw [if_neg (by rintro ⟨_, h1⟩; exact h1 h0), h0, Rat.div_def, Rat.zero_mul, Rat.neg_zero, rad_zero]
 ·rw [if_pos ⟨by omega, h0⟩, rsc_rsc]
  congr 2
  rw [Rat.neg_mul, Rat.div_def, Rat.div_def, Rat.one_mul]
def detV (a : List M1) : Rat := if (gjn (vM a) a.length).2.length < a.length then 0 else gjd (vM a) a.length
def sqb (a : List M1) : Bool := decide (a.length = 0) || decide (wd a = a.length)
def detn (a : List M1) : NM := if (VM a && sqb a) = true then (outN (detV a)).getD (0, 0) else (0, 0)
def dete (a : List M1) : Int := if VM a = false then 1 else if sqb a = false then 2 else if (outN (detV a)).isSome = true then 0 else 3
def lvDet (a : List M1) : LV := .tup [lvM (detn a), .v (.int .i64 (dete a))]
instance {a : List M1} : DC (lvDet a) := ⟨.tup _ (by intro c hc; simp only [List.mem_cons, List.not_mem_nil, or_false] at hc; rcases hc with rfl | rfl; exact data_lvM _; exact .v _)⟩
theorem lvDet_ok {a : List M1} (h1 : VM a = true) (h2 : sqb a = true) : lvDet a = lvO (outN (detV a)) := by
 unfold lvDet detn dete
 simp only [h1, h2, Bool.and_self, if_true, Bool.true_eq_false, if_false]
 cases outN (detV a) <;> rfl
theorem lvDet_no1 {a : List M1} (h1 : VM a = false) : lvDet a = .tup [lvM (0, 0), .v (.int .i64 1)] := by unfold lvDet detn dete; simp [h1]
theorem lvDet_no2 {a : List M1} (h1 : VM a = true) (h2 : sqb a = false) : lvDet a = .tup [lvM (0, 0), .v (.int .i64 2)] := by unfold lvDet detn dete; simp [h1, h2]
def invS (a : List M1) : GS := gjn (wU (vM a)) a.length
def invO (a : List M1) : Option (List (List NM)) := ((invS a).1.map fun r => r.drop a.length).mapM fun r => r.mapM outN
def invOk (a : List M1) : Bool := VM a && sqb a && !decide ((invS a).2.length < a.length)
def inv1 (a : List M1) : List M1 := if invOk a = true then ((invO a).getD []).map kM else []
def inve (a : List M1) : Int := if VM a = false then 1 else if sqb a = false then 2 else if (invS a).2.length < a.length then 5 else if (invO a).isSome = true then 0 else 3
def lvInv (a : List M1) : LV := .tup [.sl (kd (inv1 a).length) ((inv1 a).map fM), .v (.int .i64 (inve a))]
instance {a : List M1} : DC (lvInv a) := ⟨.tup _ (by intro c hc; simp only [List.mem_cons, List.not_mem_nil, or_false] at hc; rcases hc with rfl | rfl; exact dsl dfM _ _; exact .v _)⟩
theorem lvInv_ok {a : List M1} (h1 : VM a = true) (h2 : sqb a = true) (h3 : ¬ (invS a).2.length < a.length) : lvInv a = lvOM (invO a) := by
 unfold lvInv inv1 inve invOk lvOM
 simp [h1, h2, h3]
theorem lvInv_no1 {a : List M1} (h1 : VM a = false) : lvInv a = .tup [.sl 0 [], .v (.int .i64 1)] := by unfold lvInv inv1 inve invOk; simp [h1, kd]
theorem lvInv_no2 {a : List M1} (h1 : VM a = true) (h2 : sqb a = false) : lvInv a = .tup [.sl 0 [], .v (.int .i64 2)] := by unfold lvInv inv1 inve invOk; simp [h1, h2, kd]
theorem lvInv_no3 {a : List M1} (h1 : VM a = true) (h2 : sqb a = true) (h3 : (invS a).2.length < a.length) : lvInv a = .tup [.sl 0 [], .v (.int .i64 5)] := by unfold lvInv inv1 inve invOk; simp [h1, h2, h3, kd]
theorem sqb_wd {a : List M1} (h : sqb a = true) : wd a = a.length := by
 unfold sqb at h
 rw [Bool.or_eq_true] at h
 rcases h with h | h
 ·have := of_decide_eq_true h
  unfold wd; rw [if_pos this, this]
 ·exact of_decide_eq_true h
end Go.Ab
set_option linter.unusedVariables false
set_option linter.unusedSimpArgs false
namespace Go.Ab
open Go.RowKit
def cutX (n : Nat) (r : X1) : X1 := (r.1, r.2.drop n)
theorem half_getD {α : Type} [Inhabited α] {f : α → α} {us : List α} {i : Nat} (h : i < us.length) : ((us.take i).map f ++ us.drop i).getD i default = us.getD i default := by
 have h1 : ((us.take i).map f).length = i := by simp; omega
 simp only [List.getD_eq_getElem?_getD]
 rw [List.getElem?_append_right (by omega), h1, Nat.sub_self, List.getElem?_drop, Nat.add_zero]
theorem half_set {α : Type} [Inhabited α] {f : α → α} {us : List α} {i : Nat} (h : i < us.length) : ((us.take i).map f ++ us.drop i).set i (f (us.getD i default)) = (us.take (i + 1)).map f ++ us.drop (i + 1) := by
 have h1 : ((us.take i).map f).length = i := by simp; omega
 have h2 : us.drop i = us.getD i default :: us.drop (i + 1) := by
  rw [List.drop_eq_getElem_cons h, List.getD_eq_getElem?_getD, List.getElem?_eq_getElem h]; rfl
 rw [List.set_append_right _ _ (by omega), h1, Nat.sub_self, h2, List.set_cons_zero, List.take_add_one, List.map_append, List.append_assoc, List.getD_eq_getElem?_getD, List.getElem?_eq_getElem h]
 rfl
theorem half_len {α : Type} {f : α → α} {us : List α} {i : Nat} (h : i ≤ us.length) : ((us.take i).map f ++ us.drop i).length = us.length := by simp; omega
theorem vX_cut (n : Nat) (rows : List X1) : vX (rows.map (cutX n)) = (vX rows).map (fun r => r.drop n) := by
 unfold vX; rw [List.map_map, List.map_map]
 exact List.map_congr_left fun r _ => by simp [cutX, List.map_drop]
end Go.Ab
set_option linter.unusedVariables false
set_option linter.unusedSimpArgs false
namespace Go.Ab
open Go.RowKit
def lst (R : List (List Rat)) (k i : Nat) : List Rat := rad (R.getD i default) (rsc (-(ent R i k / ent R k k)) (R.getD k default))
structure LowJ (r1 : List Q1) (k j : Nat) (r2 : List Q1) : Prop where
 len : r2.length = r1.length
 st : ∀ i, k < i → i < j → (vQ r2).getD i default = lst (vQ r1) k i
 eq : ∀ i, i ≤ k ∨ j ≤ i → r2.getD i default = r1.getD i default
theorem LowJ.init (r1 : List Q1) (k : Nat) : LowJ r1 k (k + 1) r1 := ⟨rfl, fun i h1 h2 => by omega, fun _ _ => rfl⟩
theorem LowJ.next {r1 r2 : List Q1} {k j : Nat} (h : LowJ r1 k j r2) (hk : k < j) (hj : j < r1.length) (x : Nat) : LowJ r1 k (j + 1) (r2.set j (x, rad (r2.getD j default).2 (rsc (-((r2.getD j default).2.getD k default / (r2.getD k default).2.getD k default)) (r2.getD k default).2))) := by
 have hl := h.len
 refine ⟨by rw [List.length_set, h.len], fun i h1 h2 => ?_, fun i hi => ?_⟩
 ·rw [vQ_getD, gset_getD (by omega)]
  by_cases e : j = i
  ·subst e
   rw [if_pos rfl, h.eq j (.inr (Nat.le_refl _)), h.eq k (.inl (Nat.le_refl _))]
   unfold lst
   rw [← vQ_getD, ← vQ_getD]; rfl
  ·rw [if_neg e, ← vQ_getD]; exact h.st i h1 (by omega)
 ·rw [← h.eq i (by omega)]
  exact getDs_ne (by omega)
end Go.Ab
set_option linter.unusedVariables false
set_option linter.unusedSimpArgs false
namespace Go.Ab
open Go.RowKit
def sm (f : Nat → Rat) : Nat → Rat
 | 0 => 0
 | i + 1 => sm f i + f i
theorem sm_congr {f g : Nat → Rat} : ∀ n, (∀ i, i < n → f i = g i) → sm f n = sm g n
 | 0, _ => rfl
 | n + 1, h => by rw [sm, sm, sm_congr n (fun i hi => h i (by omega)), h n (by omega)]
theorem sm_zero : ∀ n, sm (fun _ => 0) n = 0
 | 0 => rfl
 | n + 1 => by rw [sm, sm_zero n, Rat.add_zero]
theorem sm_add (f g : Nat → Rat) : ∀ n, sm (fun i => f i + g i) n = sm f n + sm g n
 | 0 => (Rat.add_zero 0).symm
 | n + 1 => by
  rw [sm, sm, sm, sm_add f g n, Rat.add_assoc, Rat.add_assoc]
  congr 1
  rw [← Rat.add_assoc, ← Rat.add_assoc, Rat.add_comm (sm g n)]
theorem sm_mulr (f : Nat → Rat) (c : Rat) : ∀ n, sm f n * c = sm (fun i => f i * c) n
 | 0 => Rat.zero_mul c
 | n + 1 => by rw [sm, sm, Rat.add_mul, sm_mulr f c n]
theorem sm_mull (f : Nat → Rat) (c : Rat) : ∀ n, c * sm f n = sm (fun i => c * f i) n
 | 0 => Rat.mul_zero c
 | n + 1 => by rw [sm, sm, Rat.mul_add, sm_mull f c n]
theorem sm_swap (f : Nat → Nat → Rat) (m : Nat) : ∀ n, sm (fun i => sm (f i) m) n = sm (fun j => sm (fun i => f i j) n) m
 | 0 => (sm_zero m).symm
 | n + 1 => by
  rw [sm, sm_swap f m n, ← sm_add]
  exact sm_congr m fun j _ => rfl
theorem dotn_sm (a b : List Rat) : ∀ i, dotn a b i = sm (fun t => a.getD t default * b.getD t default) i
 | 0 => rfl
 | i + 1 => by rw [dotn, sm, dotn_sm a b i]
theorem dotR_sm (a b : List Rat) : dotR a b = sm (fun t => a.getD t default * b.getD t default) a.length := dotn_sm a b _
theorem colR_getD (Y : List (List Rat)) (k i : Nat) : (colR Y k).getD i default = (Y.getD i default).getD k default := gmap_getD (f := fun s : List Rat => s.getD k default) rfl _ _
theorem prodR_assoc {X Y Z : List (List Rat)} {p : Nat} (w : Nat) (hX : Wid Y.length X) (hY : Wid p Y) : prodR (prodR X Y p) Z w = prodR X (prodR Y Z w) w := by
 unfold prodR
 rw [List.map_map]
 refine List.map_congr_left fun r hr => ?_
 refine List.map_congr_left fun j hj => ?_
 have hj := List.mem_range.1 hj
 show dotR ((List.range p).map fun k => dotR r (colR Y k)) (colR Z j) = dotR r (colR (Y.map fun r => (List.range w).map fun k => dotR r (colR Z k)) j)
 rw [dotR_sm, dotR_sm, List.length_map, List.length_range, hX r hr]
 have h1 : ∀ t, t < p → ((List.range p).map fun k => dotR r (colR Y k)).getD t default * (colR Z j).getD t default = sm (fun i => r.getD i default * (Y.getD i default).getD t default * (Z.getD t default).getD j default) Y.length := by
  intro t ht
  rw [range_getD ht, dotR_sm, sm_mulr, hX r hr, colR_getD]
  exact sm_congr _ fun i _ => by rw [colR_getD]
 have h2 : ∀ i, i < Y.length → r.getD i default * (colR (Y.map fun r => (List.range w).map fun k => dotR r (colR Z k)) j).getD i default = sm (fun t => r.getD i default * (Y.getD i default).getD t default * (Z.getD t default).getD j default) p := by
  intro i hi
  rw [colR_getD, mapD (f := fun r => (List.range w).map fun k => dotR r (colR Z k)) hi, range_getD hj, dotR_sm, sm_mull, hY _ (getD_mem hi)]
  exact sm_congr _ fun t _ => by rw [colR_getD, Rat.mul_assoc]
 rw [sm_congr _ h1, sm_congr _ h2, sm_swap]
def unitR (n : Nat) : List (List Rat) := (List.range n).map (uR n)
def pw (A : List (List Rat)) (n : Nat) : Nat → List (List Rat)
 | 0 => unitR n
 | k + 1 => prodR (pw A n k) A n
theorem prodR_wid (X Y : List (List Rat)) (w : Nat) : Wid w (prodR X Y w) := by
 intro r hr
 obtain ⟨s, _, rfl⟩ := List.mem_map.1 hr
 simp
theorem pw_wid (A : List (List Rat)) (n : Nat) : ∀ k, Wid n (pw A n k)
 | 0 => by
  intro r hr
  obtain ⟨i, _, rfl⟩ := List.mem_map.1 hr
  exact uR_len n i
 | k + 1 => prodR_wid _ _ _
def QB (D C s k : Nat) (x : Rat) : Prop := ∃ z : Int, x * ((D : Rat) ^ k) = (z : Rat) ∧ z.natAbs * 8 ≤ s * C ^ k
def QBL (D C s k : Nat) (R : List (List Rat)) : Prop := ∀ r, r ∈ R → ∀ x, x ∈ r → QB D C s k x
theorem rpow_add (D : Rat) (k : Nat) : ∀ l, D ^ (k + l) = D ^ k * D ^ l
 | 0 => by rw [Nat.add_zero, Rat.pow_zero, Rat.mul_one]
 | l + 1 => by rw [← Nat.add_assoc, Rat.pow_succ, rpow_add D k l, Rat.pow_succ, Rat.mul_assoc]
theorem QB.dot {D C s k l : Nat} {a b : List Rat} (ha : ∀ x, x ∈ a → QB D C s k x) (hb : ∀ x, x ∈ b → QB D C 1 l x) (hl : a.length ≤ b.length) : ∀ i, i ≤ a.length → ∃ z : Int, dotn a b i * (D : Rat) ^ (k + l) = (z : Rat) ∧ z.natAbs * 64 ≤ i * (s * C ^ (k + l))
 | 0, _ => ⟨0, by rw [dotn, Rat.zero_mul]; rfl, by simp⟩
 | i + 1, hi => by
  obtain ⟨z, h1, h2⟩ := QB.dot ha hb hl i (by omega)
  obtain ⟨p, h3, h4⟩ := ha _ (getD_mem (us := a) (i := i) (by omega))
  obtain ⟨q, h5, h6⟩ := hb _ (getD_mem (us := b) (i := i) (by omega))
  refine ⟨z + p * q, ?_, ?_⟩
  ·rw [dotn, Rat.add_mul, h1, rpow_add, Rat.intCast_add, Rat.intCast_mul, ← h3, ← h5]
   congr 1
   rw [Rat.mul_assoc, Rat.mul_assoc]
   congr 1
   rw [← Rat.mul_assoc, ← Rat.mul_assoc, Rat.mul_comm (b.getD i default)]
  ·have h7 := Int.natAbs_add_le z (p * q)
   rw [Int.natAbs_mul] at h7
   have h8 : (p.natAbs * 8) * (q.natAbs * 8) ≤ (s * C ^ k) * (1 * C ^ l) := Nat.mul_le_mul h4 h6
   have h9 : (p.natAbs * 8) * (q.natAbs * 8) = p.natAbs * q.natAbs * 64 := by
    rw [Nat.mul_mul_mul_comm]
   have h10 : (s * C ^ k) * (1 * C ^ l) = s * C ^ (k + l) := by rw [Nat.one_mul, Nat.pow_add, Nat.mul_assoc]
   rw [h9, h10] at h8
   rw [Nat.succ_mul]
   omega
theorem QBL.prod {D C s k l w : Nat} {A B : List (List Rat)} (hA : QBL D C s k A) (hB : QBL D C 1 l B) (hw : Wid B.length A) (hb : Wid w B) (h8 : B.length ≤ 8) : QBL D C s (k + l) (prodR A B w) := by
 intro r hr x hx
 obtain ⟨t, ht, rfl⟩ := List.mem_map.1 hr
 obtain ⟨j, hj, rfl⟩ := List.mem_map.1 hx
 have hj := List.mem_range.1 hj
 have htl := hw t ht
 have hcl : (colR B j).length = B.length := by simp [colR]
 obtain ⟨z, h1, h2⟩ := QB.dot (D := D) (C := C) (s := s) (k := k) (l := l) (a := t) (b := colR B j) (hA t ht) (fun y hy => by
  obtain ⟨u, hu, rfl⟩ := List.mem_map.1 hy
  exact hB u hu _ (getD_mem (by rw [hb u hu]; exact hj))) (by omega) t.length (Nat.le_refl _)
 refine ⟨z, h1, ?_⟩
 have : t.length * (s * C ^ (k + l)) ≤ 8 * (s * C ^ (k + l)) := Nat.mul_le_mul_right _ (by omega)
 omega
theorem QB.bd {D C s k d : Nat} {x : Rat} (h : QB D C s k x) (hD : 0 < D) (hDb : D ≤ 4294967296 ^ d) (hC : C ≤ 4294967296 ^ d) (hs : s ≤ 8) : Bd (d * k + 1) x := by
 obtain ⟨z, h1, h2⟩ := h
 have hDk : 0 < D ^ k := Nat.pow_pos hD
 have hcast : (((D ^ k : Nat) : Int) : Rat) = (D : Rat) ^ k := by rw [Rat.intCast_natCast, Rat.natCast_pow]
 have hne : (((D ^ k : Nat) : Int) : Rat) ≠ 0 := by
  intro h0
  have : ((D ^ k : Nat) : Int) = 0 := by exact_mod_cast h0
  omega
 have hx : x = Rat.divInt z ((D ^ k : Nat) : Int) := by
  rw [Rat.divInt_eq_div, ← h1, ← hcast, Rat.mul_div_cancel hne]
 have hpos : 0 < 4294967296 ^ (d * k) := Nat.pow_pos (by decide)
 have e1 : 4294967296 ^ (d * k + 1) = 4294967296 ^ (d * k) * 4294967296 := Nat.pow_succ ..
 have e2 : D ^ k ≤ 4294967296 ^ (d * k) := by rw [Nat.pow_mul]; exact Nat.pow_le_pow_left hDb k
 have e3 : C ^ k ≤ 4294967296 ^ (d * k) := by rw [Nat.pow_mul]; exact Nat.pow_le_pow_left hC k
 have e4 : s * C ^ k ≤ 8 * C ^ k := Nat.mul_le_mul_right _ hs
 rw [hx]
 refine Bd.raw (by omega) (len32_of (by omega)) (len32_of ?_)
 rw [Int.natAbs_natCast]; omega
def dd : List Rat → Nat
 | [] => 1
 | x :: l => x.den * dd l
theorem dd_pos : ∀ l, 0 < dd l
 | [] => by decide
 | x :: l => Nat.mul_pos x.den_pos (dd_pos l)
theorem dd_dvd {x : Rat} : ∀ {l : List Rat}, x ∈ l → x.den ∣ dd l
 | y :: l, h => by
  rcases List.mem_cons.1 h with rfl | h
  ·exact ⟨dd l, rfl⟩
  ·exact Nat.dvd_trans (dd_dvd h) ⟨y.den, Nat.mul_comm _ _⟩
theorem dd_le {b : Nat} : ∀ {l : List Rat}, (∀ x, x ∈ l → x.den ≤ b) → dd l ≤ b ^ l.length
 | [], _ => Nat.le_refl _
 | y :: l, h => by
  rw [dd, List.length_cons, Nat.pow_succ, Nat.mul_comm]
  exact Nat.mul_le_mul (dd_le fun x hx => h x (by simp [hx])) (h y (by simp))
theorem flat_len {w : Nat} : ∀ {A : List (List Rat)}, Wid w A → A.flatten.length = A.length * w
 | [], _ => by simp
 | r :: A, h => by
  rw [List.flatten_cons, List.length_append, flat_len (fun s hs => h s (by simp [hs])), h r (by simp), List.length_cons, Nat.succ_mul]; omega
theorem Bd.abs {n : Nat} {x : Rat} (h : Bd n x) : x.num.natAbs < 4294967296 ^ n ∧ x.den < 4294967296 ^ n := by
 have h1 := lt_len32 x.num
 have h2 := lt_len32 (x.den : Int)
 rw [Int.natAbs_natCast] at h2
 exact ⟨Nat.lt_of_lt_of_le h1 (Nat.pow_le_pow_right (by decide) h.1), Nat.lt_of_lt_of_le h2 (Nat.pow_le_pow_right (by decide) h.2)⟩
theorem QBL.base {A : List (List Rat)} {n : Nat} (h : BdL 2 A) (hw : Wid n A) (hl : A.length = n) (h8 : n ≤ 8) : ∃ D C, 0 < D ∧ D ≤ 4294967296 ^ 131 ∧ C ≤ 4294967296 ^ 131 ∧ QBL D C 1 1 A := by
 have hfl : ∀ x, x ∈ A.flatten → Bd 2 x := fun x hx => by
  obtain ⟨r, hr, hx⟩ := List.mem_flatten.1 hx
  exact h r hr x hx
 have hlen : A.flatten.length ≤ 64 := by
  rw [flat_len hw, hl]; exact Nat.mul_le_mul h8 h8
 have hD : dd A.flatten ≤ 4294967296 ^ 128 := by
  refine Nat.le_trans (dd_le (b := 4294967296 ^ 2) fun x hx => Nat.le_of_lt (hfl x hx).abs.2) ?_
  rw [← Nat.pow_mul]
  exact Nat.pow_le_pow_right (by decide) (by omega)
 refine ⟨dd A.flatten, 8 * (4294967296 ^ 2 * dd A.flatten), dd_pos _, Nat.le_trans hD (Nat.pow_le_pow_right (by decide) (by decide)), ?_, ?_⟩
 ·have e : 4294967296 ^ 131 = 4294967296 * (4294967296 ^ 2 * 4294967296 ^ 128) := by decide +kernel
  rw [e]
  exact Nat.mul_le_mul (by decide) (Nat.mul_le_mul_left _ hD)
 ·intro r hr x hx
  have hxf := List.mem_flatten.2 ⟨r, hr, hx⟩
  obtain ⟨q, hq⟩ := dd_dvd hxf
  have hb := (hfl x hxf).abs.1
  have hdq : q ≤ dd A.flatten := by
   have := x.den_pos
   rw [hq]; exact Nat.le_mul_of_pos_left q this
  have hxd : x * (x.den : Rat) = (x.num : Rat) := by
   have h1 : x = (x.num : Rat) / ((x.den : Int) : Rat) := by rw [← Rat.divInt_eq_div, Rat.num_divInt_den]
   have h2 : ((x.den : Int) : Rat) ≠ 0 := by
    intro h0
    have : (x.den : Int) = 0 := by exact_mod_cast h0
    have := x.den_pos
    omega
   rw [← Rat.intCast_natCast]
   conv => lhs; lhs; rw [h1]
   exact Rat.div_mul_cancel h2
  refine ⟨x.num * (q : Int), ?_, ?_⟩
  ·rw [Rat.pow_succ, Rat.pow_zero, Rat.one_mul, hq, Rat.natCast_mul, ← Rat.mul_assoc, hxd, Rat.intCast_mul, Rat.intCast_natCast]
  ·rw [Int.natAbs_mul, Int.natAbs_natCast, Nat.pow_one, Nat.one_mul, Nat.mul_comm _ 8]
   exact Nat.mul_le_mul_left 8 (Nat.mul_le_mul (Nat.le_of_lt hb) hdq)
theorem QBL.pw {D C n : Nat} {A : List (List Rat)} (h : QBL D C 1 1 A) (hl : A.length = n) (hw : Wid n A) (h8 : n ≤ 8) : ∀ k, QBL D C 8 k (pw A n k)
 | 0 => by
  intro r hr x hx
  obtain ⟨i, _, rfl⟩ := List.mem_map.1 hr
  rcases List.mem_or_eq_of_mem_set hx with h | h
  ·rw [(List.mem_replicate.1 h).2]
   exact ⟨0, Rat.zero_mul _, by simp⟩
  ·rw [h]
   exact ⟨1, by rw [Rat.pow_zero, Rat.one_mul]; rfl, by simp⟩
 | k + 1 => QBL.prod (QBL.pw h hl hw h8 k) h (by rw [hl]; exact pw_wid A n k) hw (by omega)
end Go.Ab
set_option linter.unusedVariables false
set_option linter.unusedSimpArgs false
namespace Go.Ab
open Go.RowKit
section
variable {P : Program} {T : TT} {E : TypeId → Bool} {dst : Option Tmp} {ty : TypeId} {pos : String} {af : Array Edge} {g : Option (Nat × Bool)} {id : Nat} {e : Env} {h : Hp} {x y : Operand} {bt yt : TypeId}
end
def powO (a : List M1) (n : Int) : Option (List (List NM)) := (pw (vM a) a.length n.toNat).mapM fun r => r.mapM outN
def powOk (a : List M1) (n : Int) : Bool := VM a && sqb a && (decide (0 ≤ n) && decide (n ≤ 1000))
def pow1 (a : List M1) (n : Int) : List M1 := if powOk a n = true then ((powO a n).getD []).map kM else []
def powe (a : List M1) (n : Int) : Int := if VM a = false then 1 else if sqb a = false then 2 else if (decide (0 ≤ n) && decide (n ≤ 1000)) = false then 6 else if (powO a n).isSome = true then 0 else 3
def lvPow (a : List M1) (n : Int) : LV := .tup [.sl (kd (pow1 a n).length) ((pow1 a n).map fM), .v (.int .i64 (powe a n))]
instance {a : List M1} {n : Int} : DC (lvPow a n) := ⟨.tup _ (by intro c hc; simp only [List.mem_cons, List.not_mem_nil, or_false] at hc; rcases hc with rfl | rfl; exact dsl dfM _ _; exact .v _)⟩
end Go.Ab
set_option linter.unusedVariables false
set_option linter.unusedSimpArgs false
namespace Go.Ab
def skp (i a : Nat) : Nat := if a < i then a else a + 1
def sg : Nat → Rat
 | 0 => 1
 | i + 1 => -sg i
def det : Nat → (Nat → Nat → Rat) → Rat
 | 0, _ => 1
 | n + 1, M => sm (fun i => sg i * M i 0 * det n (fun a b => M (skp i a) (b + 1))) (n + 1)
def upd (M : Nat → Nat → Rat) (r : Nat) (U : Nat → Rat) : Nat → Nat → Rat := fun a b => if a = r then U b else M a b
theorem upd_same (M : Nat → Nat → Rat) (r : Nat) (U : Nat → Rat) (b : Nat) : upd M r U r b = U b := if_pos rfl
theorem upd_ne {M : Nat → Nat → Rat} {r a : Nat} {U : Nat → Rat} (h : a ≠ r) (b : Nat) : upd M r U a b = M a b := if_neg h
theorem det_congr : ∀ n {M N : Nat → Nat → Rat}, (∀ a b, a < n → b < n → M a b = N a b) → det n M = det n N
 | 0, _, _, _ => rfl
 | n + 1, M, N, h => by
  rw [det, det]
  refine sm_congr _ fun i hi => ?_
  rw [h i 0 hi (by omega), det_congr n fun a b ha hb => h (skp i a) (b + 1) (by unfold skp; split <;> omega) (by omega)]
theorem det_lin : ∀ n (M : Nat → Nat → Rat) (r : Nat) (U V : Nat → Rat) (x y : Rat), r < n → det n (upd M r (fun b => x * U b + y * V b)) = x * det n (upd M r U) + y * det n (upd M r V)
 | 0, _, _, _, _, _, _, h => by omega
 | n + 1, M, r, U, V, x, y, hr => by
  rw [det, det, det, sm_mull, sm_mull, ← sm_add]
  refine sm_congr _ fun i hi => ?_
  by_cases e : i = r
  ·subst e
   have hm : ∀ W : Nat → Rat, (fun a b => upd M i W (skp i a) (b + 1)) = fun a b => M (skp i a) (b + 1) := by
    intro W
    funext a b
    exact upd_ne (by unfold skp; split <;> omega) _
   rw [hm, hm, hm, upd_same, upd_same, upd_same]
   grind
  ·have hm : ∀ W : Nat → Rat, (fun a b => upd M r W (skp i a) (b + 1)) = upd (fun a b => M (skp i a) (b + 1)) (if r < i then r else r - 1) (fun b => W (b + 1)) := by
    intro W
    funext a b
    show (if skp i a = r then W (b + 1) else M (skp i a) (b + 1)) = if a = (if r < i then r else r - 1) then W (b + 1) else M (skp i a) (b + 1)
    have h : (skp i a = r) ↔ (a = if r < i then r else r - 1) := by unfold skp; split <;> split <;> omega
    by_cases h1 : skp i a = r
    ·rw [if_pos h1, if_pos (h.1 h1)]
    ·rw [if_neg h1, if_neg (fun k => h1 (h.2 k))]
   rw [hm, hm, hm, upd_ne e, upd_ne e, upd_ne e, det_lin n _ _ (fun b => U (b + 1)) (fun b => V (b + 1)) x y (by split <;> omega)]
   grind
theorem sm_two {f : Nat → Rat} {r : Nat} (h : f r + f (r + 1) = 0) : ∀ n, r + 1 < n → (∀ i, i < n → i ≠ r → i ≠ r + 1 → f i = 0) → sm f n = 0
 | 0, hr, _ => by omega
 | n + 1, hr, h0 => by
  rw [sm]
  by_cases e : n = r + 1
  ·subst e
   rw [sm, show sm f r = 0 from (sm_congr r fun i hi => h0 i (by omega) (by omega) (by omega)).trans (sm_zero r), Rat.zero_add]
   exact h
  ·rw [sm_two h n (by omega) fun i hi => h0 i (by omega), h0 n (by omega) (by omega) e, Rat.add_zero]
theorem det_adj : ∀ n {M : Nat → Nat → Rat} {r : Nat}, r + 1 < n → (∀ b, M r b = M (r + 1) b) → det n M = 0
 | 0, _, _, h, _ => by omega
 | n + 1, M, r, hr, h => by
  rw [det]
  refine sm_two (r := r) ?_ (n + 1) hr fun i hi h1 h2 => ?_
  ·have hm : (fun a b => M (skp r a) (b + 1)) = fun a b => M (skp (r + 1) a) (b + 1) := by
    funext a b
    unfold skp
    by_cases h3 : a < r
    ·rw [if_pos h3, if_pos (by omega)]
    ·rw [if_neg h3]
     by_cases h4 : a = r
     ·subst h4; rw [if_pos (by omega)]; exact (h _).symm
     ·rw [if_neg (by omega)]
   rw [hm, h 0, sg]
   grind
  ·have hz : det n (fun a b => M (skp i a) (b + 1)) = 0 := by
    by_cases h3 : i < r
    ·refine det_adj n (r := r - 1) (by omega) fun b => ?_
     unfold skp
     rw [if_neg (by omega), if_neg (by omega), show r - 1 + 1 = r by omega]
     exact h _
    ·refine det_adj n (r := r) (by omega) fun b => ?_
     unfold skp
     rw [if_pos (by omega), if_pos (by omega)]
     exact h _
   rw [hz, Rat.mul_zero]
def swp (r s a : Nat) : Nat := if a = r then s else if a = s then r else a
theorem swap_of_alt {n r s : Nat} (hr : r < n) (hs : s < n) (hrs : r ≠ s) (alt : ∀ M : Nat → Nat → Rat, (∀ b, M r b = M s b) → det n M = 0) (M : Nat → Nat → Rat) : det n (fun a b => M (swp r s a) b) = -det n M := by
 have two : ∀ U V : Nat → Rat, det n (upd (upd M r U) s V) + det n (upd (upd M r V) s U) = 0 := by
  intro U V
  have h0 := alt (upd (upd M r (fun b => 1 * U b + 1 * V b)) s (fun b => 1 * U b + 1 * V b)) fun b => by
   rw [upd_same, upd_ne hrs, upd_same]
  have hc : ∀ A B : Nat → Rat, upd (upd M r A) s B = upd (upd M s B) r A := by
   intro A B
   funext a b
   unfold upd
   by_cases h1 : a = s
   ·rw [if_pos h1, if_neg (by omega), if_pos h1]
   ·rw [if_neg h1, if_neg h1]
  rw [det_lin n (upd M r _) s U V 1 1 hs, hc, hc, det_lin n (upd M s U) r U V 1 1 hr, det_lin n (upd M s V) r U V 1 1 hr, ← hc, ← hc, ← hc, ← hc] at h0
  have h1 := alt (upd (upd M r U) s U) fun b => by rw [upd_same, upd_ne hrs, upd_same]
  have h2 := alt (upd (upd M r V) s V) fun b => by rw [upd_same, upd_ne hrs, upd_same]
  rw [h1, h2] at h0
  grind
 have h3 := two (M r) (M s)
 have e1 : upd (upd M r (M r)) s (M s) = M := by
  funext a b
  unfold upd
  by_cases h1 : a = s
  ·rw [if_pos h1, h1]
  ·rw [if_neg h1]
   by_cases h2 : a = r
   ·rw [if_pos h2, h2]
   ·rw [if_neg h2]
 have e2 : upd (upd M r (M s)) s (M r) = fun a b => M (swp r s a) b := by
  funext a b
  unfold upd swp
  by_cases h1 : a = s
  ·rw [if_pos h1, if_neg (show ¬ a = r by omega), if_pos h1]
  ·rw [if_neg h1]
   by_cases h2 : a = r
   ·rw [if_pos h2, if_pos h2]
   ·rw [if_neg h2, if_neg h2, if_neg h1]
 rw [e1, e2] at h3
 grind
theorem det_alt_d {n : Nat} : ∀ d {M : Nat → Nat → Rat} {r : Nat}, r + d + 1 < n → (∀ b, M r b = M (r + d + 1) b) → det n M = 0
 | 0, M, r, hr, h => det_adj n hr h
 | d + 1, M, r, hr, h => by
  have h1 := swap_of_alt (n := n) (r := r + d + 1) (s := r + d + 1 + 1) (by omega) (by omega) (by omega) (fun N hN => det_adj n (r := r + d + 1) (by omega) hN) M
  have h2 := @det_alt_d n d (fun a b => M (swp (r + d + 1) (r + d + 1 + 1) a) b) r (by omega) fun b => by
   unfold swp
   rw [if_neg (by omega), if_neg (by omega), if_pos rfl]
   exact h b
  rw [h2] at h1
  grind
theorem det_alt {n r s : Nat} (hr : r < n) (hs : s < n) (hrs : r ≠ s) {M : Nat → Nat → Rat} (h : ∀ b, M r b = M s b) : det n M = 0 := by
 rcases Nat.lt_or_ge r s with h1 | h1
 ·exact det_alt_d (s - r - 1) (r := r) (by omega) fun b => by rw [show r + (s - r - 1) + 1 = s by omega]; exact h b
 ·exact det_alt_d (r - s - 1) (r := s) (by omega) fun b => by rw [show s + (r - s - 1) + 1 = r by omega]; exact (h b).symm
structure RowF (n : Nat) (F : (Nat → Nat → Rat) → Rat) : Prop where
 congr : ∀ {M N : Nat → Nat → Rat}, (∀ a b, a < n → b < n → M a b = N a b) → F M = F N
 swap : ∀ (M : Nat → Nat → Rat) {r s : Nat}, r < n → s < n → r ≠ s → F (fun a b => M (swp r s a) b) = -F M
 scale : ∀ (M : Nat → Nat → Rat) {r : Nat} (x : Rat), r < n → F (upd M r (fun b => x * M r b)) = x * F M
 add : ∀ (M : Nat → Nat → Rat) {r s : Nat} (x : Rat), r < n → s < n → r ≠ s → F (upd M r (fun b => M r b + x * M s b)) = F M
theorem upd_self (M : Nat → Nat → Rat) (r : Nat) : upd M r (M r) = M := by
 funext a b
 unfold upd
 by_cases h : a = r
 ·rw [if_pos h, h]
 ·rw [if_neg h]
theorem det_rowF (n : Nat) : RowF n (det n) where
 congr h := det_congr n h
 swap M {r s} hr hs hrs := swap_of_alt hr hs hrs (fun N hN => det_alt hr hs hrs hN) M
 scale M {r} x hr := by
  have h := det_lin n M r (M r) (M r) x 0 hr
  rw [upd_self] at h
  rw [show (fun b => x * M r b) = fun b => x * M r b + 0 * M r b by funext b; grind, h]
  grind
 add M {r s} x hr hs hrs := by
  have h := det_lin n M r (M r) (M s) 1 x hr
  rw [upd_self, det_alt hr hs hrs (M := upd M r (M s)) (fun b => by rw [upd_same, upd_ne (Ne.symm hrs)])] at h
  rw [show (fun b => M r b + x * M s b) = fun b => 1 * M r b + x * M s b by funext b; grind, h]
  grind
def mulF (n : Nat) (M B : Nat → Nat → Rat) : Nat → Nat → Rat := fun a b => sm (fun t => M a t * B t b) n
theorem mulF_upd (n : Nat) (M B : Nat → Nat → Rat) (r : Nat) (U : Nat → Rat) : mulF n (upd M r U) B = upd (mulF n M B) r (fun b => sm (fun t => U t * B t b) n) := by
 funext a b
 unfold mulF upd
 by_cases h : a = r
 ·simp only [if_pos h]
 ·simp only [if_neg h]
theorem mul_rowF (n : Nat) (B : Nat → Nat → Rat) : RowF n (fun M => det n (mulF n M B)) where
 congr {M N} h := det_congr n fun a b ha hb => sm_congr n fun t ht => by rw [h a t ha ht]
 swap M {r s} hr hs hrs := (det_rowF n).swap (mulF n M B) hr hs hrs
 scale M {r} x hr := by
  show det n (mulF n (upd M r _) B) = _
  rw [mulF_upd, show (fun b => sm (fun t => x * M r t * B t b) n) = fun b => x * mulF n M B r b from funext fun b => by
   unfold mulF; rw [sm_mull]; exact sm_congr n fun t _ => Rat.mul_assoc _ _ _]
  exact (det_rowF n).scale (mulF n M B) x hr
 add M {r s} x hr hs hrs := by
  show det n (mulF n (upd M r _) B) = _
  rw [mulF_upd, show (fun b => sm (fun t => (M r t + x * M s t) * B t b) n) = fun b => mulF n M B r b + x * mulF n M B s b from funext fun b => by
   unfold mulF; rw [sm_mull, ← sm_add]; exact sm_congr n fun t _ => by grind]
  exact (det_rowF n).add (mulF n M B) x hr hs hrs
def oneF : Nat → Nat → Rat := fun a b => if a = b then 1 else 0
theorem sm_delta {f : Nat → Rat} {j : Nat} : ∀ n, j < n → (∀ i, i < n → i ≠ j → f i = 0) → sm f n = f j
 | 0, h, _ => by omega
 | n + 1, hj, h => by
  rw [sm]
  by_cases e : n = j
  ·subst e
   rw [show sm f n = 0 from (sm_congr n fun i hi => h i (by omega) (by omega)).trans (sm_zero n), Rat.zero_add]
  ·rw [sm_delta n (by omega) fun i hi => h i (by omega), h n (by omega) e, Rat.add_zero]
theorem det_one : ∀ n, det n oneF = 1
 | 0 => rfl
 | n + 1 => by
  rw [det, sm_delta (j := 0) (n + 1) (by omega) fun i hi h0 => by rw [show oneF i 0 = 0 from if_neg h0, Rat.mul_zero, Rat.zero_mul]]
  have : (fun a b => oneF (skp 0 a) (b + 1)) = oneF := by
   funext a b
   have h1 : skp 0 a = a + 1 := if_neg (by omega)
   show (if skp 0 a = b + 1 then (1 : Rat) else 0) = if a = b then 1 else 0
   rw [h1]
   by_cases h : a = b
   ·rw [if_pos h, if_pos (by omega)]
   ·rw [if_neg h, if_neg (by omega)]
  rw [this, det_one n]
  show (1 : Rat) * (if (0 : Nat) = 0 then 1 else 0) * 1 = 1
  rw [if_pos rfl]; grind
end Go.Ab
set_option linter.unusedVariables false
set_option linter.unusedSimpArgs false
namespace Go.Ab
open Go.RowKit
abbrev fm (R : List (List Rat)) : Nat → Nat → Rat := fun i j => ent R i j
theorem ent_swF {R : List (List Rat)} {i r a j : Nat} (hi : i < R.length) (hr : r < R.length) (ha : a < R.length) : ent (sw R i r) a j = ent R (swp i r a) j := by
 unfold ent sw swp
 rw [gset_getD (by rw [List.length_set]; exact ha), gset_getD ha]
 by_cases h1 : a = i
 ·rw [if_pos h1.symm, if_pos h1]
 ·rw [if_neg (Ne.symm h1), if_neg h1]
  by_cases h2 : a = r
  ·rw [if_pos h2.symm, if_pos h2]
  ·rw [if_neg (Ne.symm h2), if_neg h2]
theorem ent_midF {R : List (List Rat)} {i r c a j : Nat} (ha : a < R.length) : ent (mid R i r c) a j = if a = r then 1 / ent (sw R i r) r c * ent (sw R i r) r j else ent (sw R i r) a j := by
 by_cases h : a = r
 ·rw [if_pos h, h]
  show (((((sw R i r).set r (rsc (1 / ent (sw R i r) r c) ((sw R i r).getD r default))) : List (List Rat))).getD r default).getD j default = _
  rw [gset_getD (by rw [sw_len]; omega), if_pos rfl, rsc_getD]; rfl
 ·rw [if_neg h]
  show (((((sw R i r).set r (rsc (1 / ent (sw R i r) r c) ((sw R i r).getD r default))) : List (List Rat))).getD a default).getD j default = _
  rw [gset_getD (by rw [sw_len]; exact ha), if_neg (Ne.symm h)]; rfl
theorem ent_elimF {M : List (List Rat)} {w r c a j : Nat} (hw : Wid w M) (ha : a < M.length) (hj : j < w) : ent (elim M r c) a j = if a = r then ent M r j else ent M a j - ent M a c * ent M r j := by
 show ((elim M r c).getD a default).getD j default = _
 rw [elim_getD ha]
 by_cases h : a = r
 ·subst h; rw [if_pos rfl, elr_self]; rfl
 ·rw [if_neg h]
  by_cases h0 : ent M a c = 0
  ·rw [elr_neg (.inr h0), h0]
   show ent M a j = _
   grind
  ·rw [elr_pos h h0, rad_getD (by rw [hw.row ha]; exact hj), rsc_getD]
   show ent M a j + -ent M a c * ent M r j = _
   grind
structure Stp (A B : List (List Rat)) (w a r c : Nat) : Prop where
 len : B.length = A.length
 wid : Wid w B
 ha : a < A.length
 hr : r < A.length
 ne : ent A a c ≠ 0
 row : ∀ j, j < w → ent B r j = 1 / ent A a c * ent A a j
 oth : ∀ i j, i < A.length → i ≠ r → j < w → ent B i j = ent A (swp a r i) j - ent A (swp a r i) c * (1 / ent A a c * ent A a j)
theorem stp_of {A : List (List Rat)} {w a r c : Nat} (hw : Wid w A) (ha : a < A.length) (hr : r < A.length) (hc : c < w) (hne : ent A a c ≠ 0) : Stp A (elim (mid A a r c) r c) w a r c := by
 have hm : Wid w (mid A a r c) := hw.mid ha hr c
 have hml : (mid A a r c).length = A.length := mid_len _ _ _ _
 have hsr : ∀ j, ent (sw A a r) r j = ent A a j := fun j => ent_sw ha hr
 refine ⟨by rw [elim_len, hml], ?_, ha, hr, hne, fun j hj => ?_, fun i j hi hir hj => ?_⟩
 ·intro row hrow
  obtain ⟨k, hk, rfl⟩ := List.mem_map.1 hrow
  exact elr_len hm r c (List.mem_range.1 hk)
 ·rw [ent_elimF hm (by omega) hj, if_pos rfl, ent_midF hr, if_pos rfl, hsr, hsr]
 ·rw [ent_elimF hm (by omega) hj, if_neg hir, ent_midF hi, if_neg hir, ent_midF hi, if_neg hir, ent_midF hr, if_pos rfl, hsr, hsr, ent_swF ha hr hi, ent_swF ha hr hi]
structure St0 (R : List (List Rat)) (w c : Nat) : Prop where
 wid : Wid w (gjn R c).1
 led : (gjn R c).2.length ≤ R.length
theorem St0.all {R : List (List Rat)} {w : Nat} (hw : Wid w R) : ∀ c, c ≤ w → St0 R w c
 | 0, _ => ⟨hw, Nat.zero_le _⟩
 | c + 1, hc => by
  have h := St0.all hw c (by omega)
  obtain ⟨p1, p2, p3⟩ := pivot_facts (R := (gjn R c).1) (r := (gjn R c).2.length) (c := c) (by rw [gjn_len]; exact h.led)
  by_cases e : pivot (gjn R c).1 (gjn R c).2.length c = (gjn R c).1.length
  ·rw [show St0 R w (c + 1) ↔ St0 R w c from ⟨fun _ => h, fun _ => ⟨by rw [gjn_no e]; exact h.wid, by rw [gjn_no e]; exact h.led⟩⟩]; exact h
  ·have hl := gjn_len R c
   have hy := gjn_yes (a := pivot (gjn R c).1 (gjn R c).2.length c) rfl (by omega)
   have hs := stp_of (r := (gjn R c).2.length) (c := c) h.wid (show pivot (gjn R c).1 (gjn R c).2.length c < _ by omega) (by omega) (by omega) (p3 (by omega))
   exact ⟨by rw [hy]; exact hs.wid, by rw [hy]; simp; omega⟩
theorem gjn_ind {R : List (List Rat)} {w : Nat} (hw : Wid w R) {P : Nat → List (List Rat) → List Nat → Prop} (h0 : P 0 R [])
  (hno : ∀ c S L, c < w → gjn R c = (S, L) → S.length = R.length → Wid w S → L.length ≤ R.length → P c S L → (∀ k, L.length ≤ k → k < R.length → ent S k c = 0) → P (c + 1) S L)
  (hyes : ∀ c S L B a, c < w → gjn R c = (S, L) → S.length = R.length → Wid w S → L.length ≤ a → P c S L → Stp S B w a L.length c → gjn R (c + 1) = (B, L ++ [c]) → pivot S L.length c = a → P (c + 1) B (L ++ [c])) : ∀ c, c ≤ w → P c (gjn R c).1 (gjn R c).2
 | 0, _ => h0
 | c + 1, hc => by
  have ih := gjn_ind hw h0 hno hyes c (by omega)
  have h := St0.all hw c (by omega)
  have hl := gjn_len R c
  obtain ⟨p1, p2, p3⟩ := pivot_facts (R := (gjn R c).1) (r := (gjn R c).2.length) (c := c) (by rw [gjn_len]; exact h.led)
  by_cases e : pivot (gjn R c).1 (gjn R c).2.length c = (gjn R c).1.length
  ·rw [gjn_no e]
   exact hno c _ _ (by omega) rfl hl h.wid h.led ih fun k h1 h2 => pivot_zero e h1 (by omega)
  ·have hy := gjn_yes (a := pivot (gjn R c).1 (gjn R c).2.length c) rfl (by omega)
   have hs := stp_of (r := (gjn R c).2.length) (c := c) h.wid (show pivot (gjn R c).1 (gjn R c).2.length c < _ by omega) (by omega) (by omega) (p3 (by omega))
   rw [hy]
   exact hyes c _ _ _ _ (by omega) rfl hl h.wid p1 ih hs hy rfl
theorem gjd_ne {R : List (List Rat)} {w : Nat} (hw : Wid w R) : ∀ c, c ≤ w → gjd R c ≠ 0
 | 0, _ => by show (1 : Rat) ≠ 0; decide
 | c + 1, hc => by
  have ih := gjd_ne hw c (by omega)
  have h := St0.all hw c (by omega)
  have hl := gjn_len R c
  obtain ⟨p1, p2, p3⟩ := pivot_facts (R := (gjn R c).1) (r := (gjn R c).2.length) (c := c) (by rw [gjn_len]; exact h.led)
  by_cases e : pivot (gjn R c).1 (gjn R c).2.length c = (gjn R c).1.length
  ·rw [gjd_no e]; exact ih
  ·rw [gjd_yes rfl (by omega)]
   have := p3 (by omega)
   split <;> grind
theorem elim_F {n : Nat} {F : (Nat → Nat → Rat) → Rat} (hF : RowF n F) (M : Nat → Nat → Rat) (r c : Nat) (hr : r < n) : ∀ k, k ≤ n → F (fun a b => if a < k ∧ a ≠ r then M a b - M a c * M r b else M a b) = F M
 | 0, _ => hF.congr fun a b _ _ => if_neg (by omega)
 | k + 1, hk => by
  rw [← elim_F hF M r c hr k (by omega)]
  by_cases e : k = r
  ·refine hF.congr fun a b _ _ => ?_
   by_cases h : a < k ∧ a ≠ r
   ·rw [if_pos h, if_pos ⟨by omega, h.2⟩]
   ·rw [if_neg h, if_neg (by omega)]
  ·rw [← hF.add (fun a b => if a < k ∧ a ≠ r then M a b - M a c * M r b else M a b) (r := k) (s := r) (-(M k c)) (by omega) hr e]
   refine hF.congr fun a b _ _ => ?_
   unfold upd
   show (if a < k + 1 ∧ a ≠ r then _ else _) = if a = k then ((if k < k ∧ k ≠ r then M k b - M k c * M r b else M k b) + -M k c * (if r < k ∧ r ≠ r then M r b - M r c * M r b else M r b)) else (if a < k ∧ a ≠ r then M a b - M a c * M r b else M a b)
   by_cases h1 : a = k
   ·subst h1
    rw [if_pos ⟨by omega, e⟩, if_pos rfl, if_neg (show ¬ (a < a ∧ a ≠ r) by omega), if_neg (show ¬ (r < a ∧ r ≠ r) by omega)]
    grind
   ·rw [if_neg h1]
    by_cases h : a < k ∧ a ≠ r
    ·rw [if_pos h, if_pos ⟨by omega, h.2⟩]
    ·rw [if_neg h, if_neg (by omega)]
theorem gjn_F {n : Nat} {F : (Nat → Nat → Rat) → Rat} (hF : RowF n F) {A : List (List Rat)} (hl : A.length = n) (hw : Wid n A) : ∀ c, c ≤ n → F (fm A) = gjd A c * F (fm (gjn A c).1)
 | 0, _ => by rw [gjd, Rat.one_mul]; rfl
 | c + 1, hc => by
  rw [gjn_F hF hl hw c (by omega)]
  have h := St0.all hw c (by omega)
  have hgl := gjn_len A c
  obtain ⟨p1, p2, p3⟩ := pivot_facts (R := (gjn A c).1) (r := (gjn A c).2.length) (c := c) (by rw [gjn_len]; exact h.led)
  by_cases e : pivot (gjn A c).1 (gjn A c).2.length c = (gjn A c).1.length
  ·rw [gjd_no e, gjn_no e]
  ·rw [gjd_yes rfl (by omega), gjn_yes rfl (by omega)]
   have hne := p3 (by omega)
   have hwS := h.wid
   generalize pivot (gjn A c).1 (gjn A c).2.length c = a at *
   generalize (gjn A c).2.length = r at *
   generalize (gjn A c).1 = S at *
   generalize gjd A c = d
   have hm : Wid n (mid S a r c) := hwS.mid (by omega) (by omega) c
   have e1 : F (fm (elim (mid S a r c) r c)) = F (fm (mid S a r c)) := by
    rw [← elim_F hF (fm (mid S a r c)) r c (by omega) n (Nat.le_refl _)]
    refine hF.congr fun i j hi hj => ?_
    show ent _ i j = _
    rw [ent_elimF hm (by rw [mid_len]; omega) hj]
    by_cases e2 : i = r
    ·rw [if_pos e2, if_neg (by omega), e2]
    ·rw [if_neg e2, if_pos ⟨hi, e2⟩]
   have e2 : F (fm (mid S a r c)) = 1 / ent S a c * F (fm (sw S a r)) := by
    rw [← hF.scale (fm (sw S a r)) (r := r) (1 / ent S a c) (by omega)]
    refine hF.congr fun i j hi hj => ?_
    show ent _ i j = _
    rw [ent_midF (by omega), ent_sw (by omega) (by omega)]
    rfl
   have e3 : F (fm (sw S a r)) = if a ≠ r then -F (fm S) else F (fm S) := by
    by_cases e4 : a = r
    ·rw [if_neg (by omega), e4, sw_same (by omega)]
    ·rw [if_pos e4, ← hF.swap (fm S) (r := a) (s := r) (by omega) (by omega) e4]
     exact hF.congr fun i j hi hj => ent_swF (by omega) (by omega) (by omega)
   rw [e1, e2, e3]
   split <;> grind
end Go.Ab
set_option linter.unusedVariables false
set_option linter.unusedSimpArgs false
namespace Go.Ab
open Go.RowKit
structure RI (S : List (List Rat)) (L : List Nat) (c : Nat) : Prop where
 rk : L.length ≤ S.length
 piv : ∀ t, t < L.length → ∀ i, i < S.length → ent S i (L.getD t default) = if i = t then 1 else 0
 low : ∀ t, t < L.length → ∀ j, j < L.getD t default → ent S t j = 0
 zer : ∀ i, L.length ≤ i → i < S.length → ∀ j, j < c → ent S i j = 0
 mono : ∀ t u, t < u → u < L.length → L.getD t default < L.getD u default
 lt : ∀ t, t < L.length → L.getD t default < c
theorem snoc_lt {L : List Nat} {c t : Nat} (h : t < L.length) : (L ++ [c]).getD t default = L.getD t default := by
 simp only [List.getD_eq_getElem?_getD, List.getElem?_append_left h]
theorem snoc_eq {L : List Nat} {c : Nat} : (L ++ [c]).getD L.length default = c := by
 simp [List.getD_eq_getElem?_getD]
theorem swp_lt {a r i : Nat} (h : i < r) (ha : r ≤ a) : swp a r i = i := by
 unfold swp; rw [if_neg (by omega), if_neg (by omega)]
theorem swp_ge {a r i : Nat} (h : r ≤ i) (ha : r ≤ a) : r ≤ swp a r i := by
 unfold swp; split
 ·omega
 ·split <;> omega
theorem swp_len {a r i m : Nat} (h : i < m) (ha : a < m) (hr : r < m) : swp a r i < m := by
 unfold swp; split
 ·omega
 ·split <;> omega
theorem swp_swp (a r i : Nat) : swp a r (swp a r i) = i := by
 unfold swp
 by_cases h1 : i = a
 ·rw [if_pos h1]
  by_cases h2 : r = a
  ·rw [if_pos h2, h2, h1]
  ·rw [if_neg h2, if_pos rfl, h1]
 ·rw [if_neg h1]
  by_cases h2 : i = r
  ·rw [if_pos h2, if_pos rfl, h2]
  ·rw [if_neg h2, if_neg h1, if_neg h2]
theorem gjn_RI {R : List (List Rat)} {w : Nat} (hw : Wid w R) : ∀ c, c ≤ w → RI (gjn R c).1 (gjn R c).2 c :=
 gjn_ind hw (P := fun c S L => RI S L c)
  ⟨Nat.zero_le _, fun t ht => by simp at ht, fun t ht => by simp at ht, fun i _ _ j hj => by omega, fun t u _ hu => by simp at hu, fun t ht => by simp at ht⟩
  (fun c S L hc _ hl _ _ h hz => ⟨h.rk, h.piv, h.low, fun i h1 h2 j hj => by
   by_cases e : j = c
   ·rw [e]; exact hz i h1 (by omega)
   ·exact h.zer i h1 h2 j (by omega), h.mono, fun t ht => by have := h.lt t ht; omega⟩)
  (fun c S L B a hc _ hl _ hla h hs _ _ => by
   have hBl := hs.len
   have hha := hs.ha
   have hp := hs.ne
   have hrow : ∀ j, j < c → ent B L.length j = 0 := fun j hj => by
    rw [hs.row j (by omega), h.zer a hla hs.ha j hj, Rat.mul_zero]
   have hoth : ∀ i j, i < S.length → i ≠ L.length → j < c → ent B i j = ent S (swp a L.length i) j := fun i j hi hir hj => by
    rw [hs.oth i j hi hir (by omega), h.zer a hla hs.ha j hj]; grind
   have hlo : ∀ i j, i < L.length → j < c → ent B i j = ent S i j := fun i j hi hj => by
    rw [hoth i j (by have := h.rk; omega) (by omega) hj, swp_lt hi hla]
   have hhi : ∀ i j, L.length ≤ i → i < S.length → j < c → ent B i j = 0 := fun i j h1 h2 hj => by
    by_cases e : i = L.length
    ·rw [e]; exact hrow j hj
    ·rw [hoth i j h2 e hj]; exact h.zer _ (swp_ge h1 hla) (swp_len h2 hs.ha hs.hr) j hj
   have hc1 : ent B L.length c = 1 := by rw [hs.row c hc]; grind
   have hc0 : ∀ i, i < S.length → i ≠ L.length → ent B i c = 0 := fun i h1 h2 => by rw [hs.oth i c h1 h2 hc]; grind
   refine ⟨by simp; have := hs.hr; omega, fun t ht i hi => ?_, fun t ht j hj => ?_, fun i h1 h2 j hj => ?_, fun t u htu hu => ?_, fun t ht => ?_⟩
   ·rw [List.length_append, List.length_singleton] at ht
    by_cases e : t = L.length
    ·subst e
     rw [snoc_eq]
     by_cases e2 : i = L.length
     ·rw [e2, hc1, if_pos rfl]
     ·rw [hc0 i (by omega) e2, if_neg e2]
    ·rw [snoc_lt (by omega)]
     have hlt := h.lt t (by omega)
     by_cases e2 : i < L.length
     ·rw [hlo i _ e2 hlt]; exact h.piv t (by omega) i (by omega)
     ·rw [hhi i _ (by omega) (by omega) hlt, if_neg (by omega)]
   ·rw [List.length_append, List.length_singleton] at ht
    by_cases e : t = L.length
    ·subst e
     rw [snoc_eq] at hj; exact hrow j hj
    ·rw [snoc_lt (by omega)] at hj
     have hlt := h.lt t (by omega)
     rw [hlo t j (by omega) (by omega)]; exact h.low t (by omega) j hj
   ·rw [List.length_append, List.length_singleton] at h1
    by_cases e : j = c
    ·rw [e]; exact hc0 i (by omega) (by omega)
    ·exact hhi i j (by omega) (by omega) (by omega)
   ·rw [List.length_append, List.length_singleton] at hu
    rw [snoc_lt (by omega)]
    by_cases e : u = L.length
    ·subst e; rw [snoc_eq]; exact h.lt t htu
    ·rw [snoc_lt (by omega)]; exact h.mono t u htu (by omega)
   ·rw [List.length_append, List.length_singleton] at ht
    by_cases e : t = L.length
    ·subst e; rw [snoc_eq]; omega
    ·rw [snoc_lt (by omega)]; have := h.lt t (by omega); omega)
def rd (R : List (List Rat)) (w : Nat) (v : Nat → Rat) (i : Nat) : Rat := sm (fun j => ent R i j * v j) w
def Sol (R : List (List Rat)) (w : Nat) (v : Nat → Rat) : Prop := ∀ i, i < R.length → rd R w v i = 0
theorem Stp.rdr {A B : List (List Rat)} {w a r c : Nat} (h : Stp A B w a r c) (v : Nat → Rat) : rd B w v r = 1 / ent A a c * rd A w v a := by
 unfold rd
 rw [sm_mull]
 exact sm_congr w fun j hj => by rw [h.row j hj, Rat.mul_assoc]
theorem Stp.rdo {A B : List (List Rat)} {w a r c : Nat} (h : Stp A B w a r c) (v : Nat → Rat) {i : Nat} (hi : i < A.length) (hir : i ≠ r) : rd B w v i = rd A w v (swp a r i) + -(ent A (swp a r i) c * (1 / ent A a c)) * rd A w v a := by
 unfold rd
 rw [sm_mull, ← sm_add]
 exact sm_congr w fun j hj => by rw [h.oth i j hi hir hj]; grind
theorem Stp.sol {A B : List (List Rat)} {w a r c : Nat} (h : Stp A B w a r c) (v : Nat → Rat) : Sol B w v ↔ Sol A w v := by
 have hl := h.len
 have hp := h.ne
 have ha := h.ha
 have hr := h.hr
 constructor
 ·intro hB
  have h1 : rd A w v a = 0 := by
   have h2 := hB r (by omega)
   rw [h.rdr] at h2
   grind
  intro k hk
  by_cases e : k = a
  ·rw [e]; exact h1
  ·have hi := swp_len hk h.ha h.hr
   have h3 := hB (swp a r k) (by omega)
   rw [h.rdo v hi (by unfold swp; rw [if_neg e]; split <;> omega), swp_swp, h1] at h3
   grind
 ·intro hA i hi
  by_cases e : i = r
  ·rw [e, h.rdr, hA a h.ha, Rat.mul_zero]
  ·rw [h.rdo v (by omega) e, hA a h.ha, hA _ (swp_len (by omega) h.ha h.hr)]; grind
theorem gjn_sol {R : List (List Rat)} {w : Nat} (hw : Wid w R) (v : Nat → Rat) : ∀ c, c ≤ w → (Sol (gjn R c).1 w v ↔ Sol R w v) :=
 gjn_ind hw (P := fun c S L => (Sol S w v ↔ Sol R w v)) Iff.rfl (fun c S L _ _ _ _ _ h _ => h) (fun c S L B a _ _ _ _ _ h hs _ _ => (hs.sol v).trans h)
theorem pivot_lt {R : List (List Rat)} {r c k : Nat} (h1 : r ≤ k) (h2 : k < pivot R r c) : ent R k c = 0 := by
 unfold pivot at h2
 have h3 : k - r < (R.drop r).findIdx (fun a => decide (a.getD c default ≠ 0)) := by omega
 have h4 := List.not_of_lt_findIdx h3
 have h5 : k - r < (R.drop r).length := Nat.lt_of_lt_of_le h3 List.findIdx_le_length
 rw [List.length_drop] at h5
 have e : (R.drop r)[k - r]'(by rw [List.length_drop]; omega) = R.getD k default := by
  rw [List.getElem_drop]
  simp only [show r + (k - r) = k by omega]
  rw [List.getD_eq_getElem?_getD, List.getElem?_eq_getElem (by omega)]; rfl
 rw [e] at h4
 unfold ent
 simpa using h4
theorem pivot_ext {A B : List (List Rat)} {r c : Nat} (hl : A.length = B.length) (hr : r ≤ A.length) (h : ∀ i, i < A.length → ent A i c = ent B i c) : pivot A r c = pivot B r c := by
 obtain ⟨p1, p2, p3⟩ := pivot_facts (R := B) (r := r) (c := c) (by omega)
 refine pivot_eq p1 (by omega) (fun k h1 h2 => ?_) ?_
 ·rw [h k (by omega)]; exact pivot_lt h1 h2
 ·by_cases e : pivot B r c = B.length
  ·left; omega
  ·right; rw [h _ (by omega)]; exact p3 (by omega)
theorem gjn_ext {A B : List (List Rat)} {w w2 : Nat} (hA : Wid w A) (hB : Wid w2 B) (hww : w ≤ w2) (hl : B.length = A.length) (he : ∀ i j, i < A.length → j < w → ent B i j = ent A i j) : ∀ c, c ≤ w → (gjn B c).2 = (gjn A c).2 ∧ ∀ i j, i < A.length → j < w → ent (gjn B c).1 i j = ent (gjn A c).1 i j
 | 0, _ => ⟨rfl, he⟩
 | c + 1, hc => by
  obtain ⟨ih1, ih2⟩ := gjn_ext hA hB hww hl he c (by omega)
  have hSA := St0.all hA c (by omega)
  have hSB := St0.all hB c (by omega)
  have hlA := gjn_len A c
  have hlB := gjn_len B c
  have hpe : pivot (gjn B c).1 (gjn B c).2.length c = pivot (gjn A c).1 (gjn A c).2.length c := by
   rw [ih1]
   exact pivot_ext (by omega) (by have := hSA.led; omega) fun i hi => ih2 i c (by omega) (by omega)
  obtain ⟨p1, p2, p3⟩ := pivot_facts (R := (gjn A c).1) (r := (gjn A c).2.length) (c := c) (by have := hSA.led; omega)
  by_cases e : pivot (gjn A c).1 (gjn A c).2.length c = (gjn A c).1.length
  ·rw [gjn_no e, gjn_no (by omega)]; exact ⟨ih1, ih2⟩
  ·rw [gjn_yes (R := B) hpe (by omega), gjn_yes (R := A) rfl (by omega), ih1]
   refine ⟨rfl, fun i j hi hj => ?_⟩
   have hp := p3 (by omega)
   have sA := stp_of (r := (gjn A c).2.length) (c := c) hSA.wid (show pivot (gjn A c).1 (gjn A c).2.length c < _ by omega) (by omega) (by omega) hp
   have sB := stp_of (r := (gjn A c).2.length) (c := c) hSB.wid (show pivot (gjn A c).1 (gjn A c).2.length c < _ by omega) (by omega) (by omega) (by rw [ih2 _ c (by omega) (by omega)]; exact hp)
   by_cases e2 : i = (gjn A c).2.length
   ·rw [e2, sA.row j hj, sB.row j (by omega), ih2 _ c (by omega) (by omega), ih2 _ j (by omega) hj]
   ·have hsl : swp (pivot (gjn A c).1 (gjn A c).2.length c) (gjn A c).2.length i < A.length := swp_len hi (by omega) (by omega)
    rw [sA.oth i j (by omega) e2 hj, sB.oth i j (by omega) e2 (by omega), ih2 (swp _ _ i) c hsl (by omega), ih2 (swp _ _ i) j hsl hj, ih2 _ c (by omega) (by omega), ih2 _ j (by omega) hj]
theorem rows_ext {A B : List (List Rat)} {w : Nat} (hl : A.length = B.length) (hA : Wid w A) (hB : Wid w B) (h : ∀ i j, i < A.length → j < w → ent A i j = ent B i j) : A = B := by
 refine glist_eq hl fun i hi => ?_
 have h1 := hA.row hi
 refine list_eq (by rw [h1, hB.row (by omega)]) fun j hj => h i j hi (by omega)
theorem gjn_idem {T : List (List Rat)} {L : List Nat} {w : Nat} (hw : Wid w T) (h : RI T L w) : ∀ c, c ≤ w → ∃ k, k ≤ L.length ∧ gjn T c = (T, L.take k) ∧ (∀ t, t < k → L.getD t default < c) ∧ ∀ t, k ≤ t → t < L.length → c ≤ L.getD t default
 | 0, _ => ⟨0, Nat.zero_le _, rfl, fun t ht => by omega, fun t _ _ => Nat.zero_le _⟩
 | c + 1, hc => by
  obtain ⟨k, hk, he, h1, h2⟩ := gjn_idem hw h c (by omega)
  have hrk := h.rk
  have e1 : (gjn T c).1 = T := by rw [he]
  have e2 : (gjn T c).2 = L.take k := by rw [he]
  have e3 : (L.take k).length = k := by rw [List.length_take]; omega
  by_cases e : k < L.length ∧ L.getD k default = c
  ·obtain ⟨hkl, hkc⟩ := e
   have hkk := h.piv k hkl k (by omega)
   rw [if_pos rfl, hkc] at hkk
   have hpv : pivot T k c = k := pivot_eq (Nat.le_refl _) (by omega) (fun i h3 h4 => by omega) (.inr (by rw [hkk]; decide))
   refine ⟨k + 1, hkl, ?_, fun t ht => ?_, fun t h3 h4 => ?_⟩
   ·rw [gjn_yes (a := k) (by rw [e1, e2, e3]; exact hpv) (by rw [e1]; omega), e1, e2, e3]
    have hs := stp_of (r := k) (c := c) hw (show k < T.length by omega) (by omega) (by omega) (by rw [hkk]; decide)
    congr 1
    ·refine rows_ext (by rw [hs.len]) hs.wid hw fun i j hi hj => ?_
     rw [hs.len] at hi
     by_cases e4 : i = k
     ·rw [e4, hs.row j hj, hkk]; grind
     ·have := h.piv k hkl i hi
      rw [if_neg e4, hkc] at this
      rw [hs.oth i j hi e4 hj, show swp k k i = i by unfold swp; rw [if_neg e4, if_neg e4], this]; grind
    ·rw [List.take_add_one, List.getElem?_eq_getElem hkl]
     congr 1
     rw [← hkc, List.getD_eq_getElem?_getD, List.getElem?_eq_getElem hkl]; rfl
   ·by_cases e5 : t = k
    ·rw [e5, hkc]; omega
    ·have := h1 t (by omega); omega
   ·have := h.mono k t (by omega) h4; omega
  ·have hz : ∀ i, k ≤ i → i < T.length → ent T i c = 0 := fun i h3 h4 => by
    by_cases e5 : i < L.length
    ·have h6 : c < L.getD i default := by
      have h7 := h2 i h3 e5
      by_cases e6 : i = k
      ·subst e6
       have : L.getD i default ≠ c := fun h8 => e ⟨e5, h8⟩
       omega
      ·have := h.mono k i (by omega) e5
       have := h2 k (Nat.le_refl _) (by omega)
       omega
     exact h.low i e5 c h6
    ·exact h.zer i (by omega) h4 c (by omega)
   have hpv : pivot T k c = T.length := pivot_eq (by omega) (Nat.le_refl _) (fun i h3 h4 => hz i h3 h4) (.inl rfl)
   refine ⟨k, hk, by rw [gjn_no (by rw [e1, e2, e3]; exact hpv)]; exact he, fun t ht => by have := h1 t ht; omega, fun t h3 h4 => ?_⟩
   have h7 := h2 t h3 h4
   by_cases e6 : t = k
   ·subst e6
    have : L.getD t default ≠ c := fun h8 => e ⟨h4, h8⟩
    omega
   ·have := h.mono k t (by omega) h4
    have := h2 k (Nat.le_refl _) (by omega)
    omega
theorem gjn_fix {R : List (List Rat)} {w : Nat} (hw : Wid w R) : (gjn (gjn R w).1 w).1 = (gjn R w).1 := by
 obtain ⟨k, _, he, _⟩ := gjn_idem (St0.all hw w (Nat.le_refl _)).wid (gjn_RI hw w (Nat.le_refl _)) w (Nat.le_refl _)
 rw [he]
theorem RI.ge {S : List (List Rat)} {L : List Nat} {c : Nat} (h : RI S L c) : ∀ t, t < L.length → t ≤ L.getD t default
 | 0, _ => Nat.zero_le _
 | t + 1, ht => by have := h.ge t (by omega); have := h.mono t (t + 1) (by omega) ht; omega
theorem RI.le {S : List (List Rat)} {L : List Nat} {c : Nat} (h : RI S L c) : ∀ d t, t < L.length → L.length - 1 - t = d → L.getD t default + d < c
 | 0, t, ht, _ => by have := h.lt t ht; omega
 | d + 1, t, ht, hd => by have := h.le d (t + 1) (by omega) (by omega); have := h.mono t (t + 1) (by omega) (by omega); omega
theorem RI.unit {S : List (List Rat)} {L : List Nat} {c : Nat} (h : RI S L c) (hc : L.length = c) {i j : Nat} (hi : i < S.length) (hj : j < c) : ent S i j = if i = j then 1 else 0 := by
 have h1 := h.ge j (by omega)
 have h2 := h.le _ j (by omega) rfl
 have h3 := h.piv j (by omega) i hi
 rw [show L.getD j default = j by omega] at h3
 exact h3
theorem RowF.zero {n : Nat} {F : (Nat → Nat → Rat) → Rat} (hF : RowF n F) (M : Nat → Nat → Rat) {r : Nat} (hr : r < n) (h : ∀ b, b < n → M r b = 0) : F M = 0 := by
 have h1 := hF.scale M (r := r) 0 hr
 rw [Rat.zero_mul] at h1
 rw [← h1]
 refine hF.congr fun a b ha hb => ?_
 unfold upd
 by_cases e : a = r
 ·rw [if_pos e, e, h b hb]; exact (Rat.zero_mul _).symm
 ·rw [if_neg e]
def dtv (A : List (List Rat)) (n : Nat) : Rat := if (gjn A n).2.length < n then 0 else gjd A n
theorem gjn_end {n : Nat} {F : (Nat → Nat → Rat) → Rat} (hF : RowF n F) {A : List (List Rat)} (hl : A.length = n) (hw : Wid n A) : F (fm A) = dtv A n * F oneF := by
 have hR := gjn_RI hw n (Nat.le_refl _)
 have hgl := gjn_len A n
 have h := gjn_F hF hl hw n (Nat.le_refl _)
 have hrk := hR.rk
 unfold dtv
 by_cases e : (gjn A n).2.length < n
 ·rw [if_pos e, h, hF.zero (fm (gjn A n).1) (r := n - 1) (by omega) (fun b hb => hR.zer (n - 1) (by omega) (by omega) b hb)]; grind
 ·rw [if_neg e, h]
  congr 1
  exact hF.congr fun a b ha hb => hR.unit (by omega) (by omega) hb
theorem det_dtv {n : Nat} {A : List (List Rat)} (hl : A.length = n) (hw : Wid n A) : det n (fm A) = dtv A n := by
 rw [gjn_end (det_rowF n) hl hw, det_one, Rat.mul_one]
theorem det_mulF {n : Nat} {A : List (List Rat)} (hl : A.length = n) (hw : Wid n A) (B : Nat → Nat → Rat) : det n (mulF n (fm A) B) = dtv A n * det n B := by
 rw [gjn_end (mul_rowF n B) hl hw]
 congr 1
 refine det_congr n fun a b ha hb => ?_
 unfold mulF
 rw [sm_delta n ha fun i hi hne => by rw [show oneF a i = 0 from if_neg (Ne.symm hne), Rat.zero_mul], show oneF a a = 1 from if_pos rfl, Rat.one_mul]
theorem prodR_ent {A B : List (List Rat)} {w i j : Nat} (hi : i < A.length) (hj : j < w) : ent (prodR A B w) i j = sm (fun t => ent A i t * ent B t j) (A.getD i default).length := by
 unfold ent prodR
 rw [mapD (f := fun r => (List.range w).map fun k => dotR r (colR B k)) hi, range_getD hj, dotR_sm]
 exact sm_congr _ fun t _ => by rw [colR_getD]
theorem dtv_mul {n : Nat} {A B : List (List Rat)} (hl : A.length = n) (hw : Wid n A) (hlB : B.length = n) (hwB : Wid n B) : dtv (prodR A B n) n = dtv A n * dtv B n := by
 rw [← det_dtv (A := prodR A B n) (by rw [prodR_len, hl]) (prodR_wid A B n), ← det_dtv hlB hwB, ← det_mulF hl hw]
 refine det_congr n fun a b ha hb => ?_
 show ent _ a b = _
 rw [prodR_ent (by omega) hb, hw.row (by omega)]; rfl
end Go.Ab
set_option linter.unusedVariables false
set_option linter.unusedSimpArgs false
namespace Go.Ab
open Go.RowKit
theorem sm_app (f : Nat → Rat) (n : Nat) : ∀ m, sm f (n + m) = sm f n + sm (fun j => f (n + j)) m
 | 0 => (Rat.add_zero _).symm
 | m + 1 => by rw [← Nat.add_assoc, sm, sm, sm_app f n m, Rat.add_assoc]
theorem dotR_rd {A : List (List Rat)} {w i : Nat} (hw : Wid w A) (hi : i < A.length) (y : List Rat) : dotR (A.getD i default) y = rd A w (fun j => y.getD j default) i := by
 rw [dotR_sm, hw.row hi]; rfl
def ev (w : Nat) (y : List Rat) : Nat → Rat := fun j => if j < w then y.getD j default else -1
theorem ent_wR {A : List (List Rat)} {b : List Rat} {w i j : Nat} (hw : Wid w A) (hi : i < A.length) (hj : j < w) : ent (wR A b) i j = ent A i j := by
 unfold ent wR
 rw [range_getD hi]
 simp only [List.getD_eq_getElem?_getD]
 rw [List.getElem?_append_left (by have := hw.row hi; rw [List.getD_eq_getElem?_getD] at this; omega)]
theorem ent_wR_last {A : List (List Rat)} {b : List Rat} {w i : Nat} (hw : Wid w A) (hi : i < A.length) : ent (wR A b) i w = b.getD i default := by
 unfold ent wR
 rw [range_getD hi]
 have h1 := hw.row hi
 rw [← h1]
 simp only [List.getD_eq_getElem?_getD]
 rw [List.getElem?_append_right (Nat.le_refl _), Nat.sub_self]; rfl
theorem rd_ev {S : List (List Rat)} {w : Nat} (y : List Rat) (i : Nat) : rd S (w + 1) (ev w y) i = rd S w (fun j => y.getD j default) i - ent S i w := by
 unfold rd
 rw [sm, show ev w y w = -1 from if_neg (by omega), sm_congr w fun j hj => by rw [show ev w y j = y.getD j default from if_pos hj]]
 grind
theorem sol_wR {A : List (List Rat)} {b y : List Rat} {w : Nat} (hw : Wid w A) : Sol (wR A b) (w + 1) (ev w y) ↔ ∀ i, i < A.length → dotR (A.getD i default) y = b.getD i default := by
 unfold Sol
 rw [wR_len]
 have key : ∀ i, i < A.length → rd (wR A b) (w + 1) (ev w y) i = dotR (A.getD i default) y - b.getD i default := fun i hi => by
  rw [rd_ev, ent_wR_last hw hi, dotR_rd hw hi]
  congr 1
  exact sm_congr w fun j hj => by rw [ent_wR hw hi hj]
 constructor
 ·intro h i hi
  have := h i hi
  rw [key i hi] at this; grind
 ·intro h i hi
  rw [key i hi, h i hi]; grind
theorem solv_getD {S : GS} {w : Nat} (hm : ∀ t u, t < u → u < S.2.length → S.2.getD t default < S.2.getD u default) (hlt : ∀ t, t < S.2.length → S.2.getD t default < w) : ∀ i, i ≤ S.2.length → ∀ j, j < w → (solv S w i).getD j default = sm (fun t => if S.2.getD t default = j then ent S.1 t w else 0) i
 | 0, _, j, hj => by
  rw [solv, sm]; simp [List.getD_eq_getElem?_getD, hj]
 | i + 1, hi, j, hj => by
  rw [solv, sm, gset_getD (by rw [solv_len]; exact hj)]
  by_cases e : S.2.getD i default = j
  ·rw [if_pos e, if_pos e]
   have h0 : sm (fun t => if S.2.getD t default = j then ent S.1 t w else 0) i = 0 := by
    refine (sm_congr i fun t ht => if_neg ?_).trans (sm_zero i)
    have := hm t i ht (by omega)
    omega
   rw [h0]; grind
  ·rw [if_neg e, if_neg e, Rat.add_zero, solv_getD hm hlt i (by omega) j hj]
theorem solv_ok {A : List (List Rat)} {b : List Rat} {w : Nat} (hw : Wid w A) (hns : nosol (gjn (wR A b) w) w = false) : ∀ i, i < A.length → dotR (A.getD i default) (solv (gjn (wR A b) w) w (gjn (wR A b) w).2.length) = b.getD i default := by
 have hW : Wid (w + 1) (wR A b) := wR_wid hw
 rw [← sol_wR hw, ← gjn_sol hW _ w (by omega)]
 have hR := gjn_RI hW w (by omega)
 have hl : (gjn (wR A b) w).1.length = A.length := by rw [gjn_len, wR_len]
 generalize gjn (wR A b) w = S at *
 intro i hi
 rw [rd_ev]
 have h1 : rd S.1 w (fun j => (solv S w S.2.length).getD j default) i = sm (fun t => ent S.1 i (S.2.getD t default) * ent S.1 t w) S.2.length := by
  have e1 : ∀ j, j < w → ent S.1 i j * (solv S w S.2.length).getD j default = sm (fun t => ent S.1 i j * if S.2.getD t default = j then ent S.1 t w else 0) S.2.length := fun j hj => by
   rw [solv_getD hR.mono hR.lt _ (Nat.le_refl _) j hj, sm_mull]
  unfold rd
  rw [sm_congr w e1]
  rw [sm_swap (fun j t => ent S.1 i j * if S.2.getD t default = j then ent S.1 t w else 0)]
  refine sm_congr _ fun t ht => ?_
  rw [sm_delta (j := S.2.getD t default) w (hR.lt t ht) fun j _ hne => by rw [if_neg (Ne.symm hne), Rat.mul_zero], if_pos rfl]
 rw [h1]
 by_cases e : i < S.2.length
 ·rw [sm_delta (j := i) _ e fun t ht hne => by rw [hR.piv t ht i hi, if_neg (Ne.symm hne), Rat.zero_mul], hR.piv i e i hi, if_pos rfl]
  grind
 ·rw [show sm (fun t => ent S.1 i (S.2.getD t default) * ent S.1 t w) S.2.length = 0 by
   rw [← sm_zero S.2.length]
   exact sm_congr _ fun t ht => by rw [hR.piv t ht i hi, if_neg (by omega), Rat.zero_mul]]
  have hp : pivot S.1 S.2.length w = S.1.length := by
   unfold nosol at hns
   have := of_decide_eq_false hns
   omega
  rw [pivot_zero hp (by omega) hi]; grind
theorem nosol_of {A : List (List Rat)} {b y : List Rat} {w : Nat} (hw : Wid w A) (h : ∀ i, i < A.length → dotR (A.getD i default) y = b.getD i default) : nosol (gjn (wR A b) w) w = false := by
 have hW : Wid (w + 1) (wR A b) := wR_wid hw
 rw [← sol_wR hw, ← gjn_sol hW _ w (by omega)] at h
 have hR := gjn_RI hW w (by omega)
 generalize gjn (wR A b) w = S at *
 refine nosol_no hR.rk fun k h1 h2 => ?_
 have h3 := h k h2
 rw [rd_ev, show rd S.1 w (fun j => y.getD j default) k = 0 by
  unfold rd; rw [← sm_zero w]; exact sm_congr w fun j hj => by rw [hR.zer k h1 h2 j hj, Rat.zero_mul]] at h3
 grind
theorem sol_unique {A : List (List Rat)} {b y z : List Rat} {w : Nat} (hw : Wid w A) (hy : y.length = w) (hz : z.length = w) (hk : (gjn (wR A b) w).2.length = w) (h1 : ∀ i, i < A.length → dotR (A.getD i default) y = b.getD i default) (h2 : ∀ i, i < A.length → dotR (A.getD i default) z = b.getD i default) : y = z := by
 have hW : Wid (w + 1) (wR A b) := wR_wid hw
 rw [← sol_wR hw, ← gjn_sol hW _ w (by omega)] at h1 h2
 have hR := gjn_RI hW w (by omega)
 generalize gjn (wR A b) w = S at *
 have hrk := hR.rk
 have key : ∀ x : List Rat, Sol S.1 (w + 1) (ev w x) → ∀ j, j < w → x.getD j default = ent S.1 j w := fun x hx j hj => by
  have h3 := hx j (by omega)
  rw [rd_ev] at h3
  unfold rd at h3
  rw [sm_delta (j := j) w hj fun t ht hne => by rw [hR.unit hk (by omega) ht, if_neg (Ne.symm hne), Rat.zero_mul], hR.unit hk (by omega) hj, if_pos rfl] at h3
  grind
 refine list_eq (by omega) fun j hj => ?_
 rw [key y h1 j (by omega), key z h2 j (by omega)]
theorem ker_same {A : List (List Rat)} {x : List Rat} {w : Nat} (hw : Wid w A) : (∀ i, i < A.length → dotR (A.getD i default) x = 0) ↔ ∀ i, i < A.length → dotR ((gjn A w).1.getD i default) x = 0 := by
 have hl := gjn_len A w
 have hS := (St0.all hw w (Nat.le_refl _)).wid
 have h := gjn_sol hw (fun j => x.getD j default) w (Nat.le_refl _)
 unfold Sol at h
 rw [hl] at h
 constructor
 ·intro h1 i hi
  rw [dotR_rd hS (by omega)]
  exact h.2 (fun k hk => by rw [← dotR_rd hw hk]; exact h1 k hk) i hi
 ·intro h1 i hi
  rw [dotR_rd hw hi]
  exact h.1 (fun k hk => by rw [← dotR_rd hS (by omega)]; exact h1 k hk) i hi
theorem ent_wU {A : List (List Rat)} {n i j : Nat} (hw : Wid n A) (hi : i < A.length) (hj : j < n) : ent (wU A) i j = ent A i j := by
 unfold ent wU
 rw [range_getD hi]
 simp only [List.getD_eq_getElem?_getD]
 rw [List.getElem?_append_left (by have := hw.row hi; rw [List.getD_eq_getElem?_getD] at this; omega)]
theorem ent_wU2 {A : List (List Rat)} {n i k : Nat} (hw : Wid n A) (hi : i < A.length) (hk : k < A.length) : ent (wU A) i (n + k) = if i = k then 1 else 0 := by
 unfold ent wU
 rw [range_getD hi]
 have h1 := hw.row hi
 rw [← h1]
 simp only [List.getD_eq_getElem?_getD]
 rw [List.getElem?_append_right (by omega), Nat.add_sub_cancel_left]
 unfold uR
 rw [List.getElem?_set]
 by_cases e : i = k
 ·rw [if_pos e, if_pos e, if_pos (by simp; omega)]; rfl
 ·rw [if_neg e, if_neg e]; simp [hk]
def invR (A : List (List Rat)) (n : Nat) : List (List Rat) := (gjn (wU A) n).1.map fun r => r.drop n
theorem ent_drop {S : List (List Rat)} {n i k : Nat} (hi : i < S.length) : ent (S.map fun r => r.drop n) i k = ent S i (n + k) := by
 unfold ent
 rw [mapD (f := fun r : List Rat => r.drop n) hi, dropD]
theorem wU_wid2 {A : List (List Rat)} {n : Nat} (hl : A.length = n) (hw : Wid n A) : Wid (n + n) (wU A) := by
 have := wU_wid hw; rwa [hl] at this
theorem inv_len {A : List (List Rat)} {n : Nat} (hl : A.length = n) : (invR A n).length = n := by
 unfold invR; rw [List.length_map, gjn_len, wU_len, hl]
theorem inv_wid {A : List (List Rat)} {n : Nat} (hl : A.length = n) (hw : Wid n A) : Wid n (invR A n) := by
 intro r hr
 obtain ⟨s, hs, rfl⟩ := List.mem_map.1 hr
 have := (St0.all (wU_wid2 hl hw) n (by omega)).wid s hs
 rw [List.length_drop, this]; omega
theorem inv_lead {A : List (List Rat)} {n : Nat} (hl : A.length = n) (hw : Wid n A) : (gjn (wU A) n).2 = (gjn A n).2 :=
 (gjn_ext hw (wU_wid2 hl hw) (by omega) (wU_len A) (fun i j hi hj => ent_wU hw hi hj) n (Nat.le_refl _)).1
def two (n : Nat) (x y : Nat → Rat) : Nat → Rat := fun j => if j < n then x j else y (j - n)
theorem rd_two {S : List (List Rat)} {n : Nat} (x y : Nat → Rat) (i : Nat) : rd S (n + n) (two n x y) i = sm (fun j => ent S i j * x j) n + sm (fun k => ent S i (n + k) * y k) n := by
 unfold rd
 rw [sm_app]
 congr 1
 ·exact sm_congr n fun j hj => by rw [show two n x y j = x j from if_pos hj]
 ·exact sm_congr n fun j hj => by rw [show two n x y (n + j) = y j by unfold two; rw [if_neg (by omega), Nat.add_sub_cancel_left]]
theorem inv_sol {A : List (List Rat)} {n : Nat} (hl : A.length = n) (hw : Wid n A) (hr : (gjn A n).2.length = n) (x y : Nat → Rat) : (∀ i, i < n → sm (fun j => ent A i j * x j) n + y i = 0) ↔ ∀ i, i < n → x i + sm (fun k => ent (invR A n) i k * y k) n = 0 := by
 have hW := wU_wid2 hl hw
 have h := gjn_sol hW (two n x y) n (by omega)
 have hR := gjn_RI hW n (by omega)
 have hlen : (gjn (wU A) n).1.length = n := by rw [gjn_len, wU_len, hl]
 have hlead : (gjn (wU A) n).2.length = n := by rw [inv_lead hl hw, hr]
 unfold Sol at h
 rw [hlen, wU_len, hl] at h
 have k1 : ∀ i, i < n → rd (wU A) (n + n) (two n x y) i = sm (fun j => ent A i j * x j) n + y i := fun i hi => by
  rw [rd_two]
  congr 1
  ·exact sm_congr n fun j hj => by rw [ent_wU hw (by omega) hj]
  ·rw [sm_delta (j := i) n hi fun k hk hne => by rw [ent_wU2 hw (by omega) (by omega), if_neg (Ne.symm hne), Rat.zero_mul], ent_wU2 hw (by omega) (by omega), if_pos rfl, Rat.one_mul]
 have k2 : ∀ i, i < n → rd (gjn (wU A) n).1 (n + n) (two n x y) i = x i + sm (fun k => ent (invR A n) i k * y k) n := fun i hi => by
  rw [rd_two]
  congr 1
  ·rw [sm_delta (j := i) n hi fun k hk hne => by rw [hR.unit hlead (by omega) hk, if_neg (Ne.symm hne), Rat.zero_mul], hR.unit hlead (by omega) hi, if_pos rfl, Rat.one_mul]
  ·exact sm_congr n fun j hj => by unfold invR; rw [ent_drop (by omega)]
 constructor
 ·intro h1 i hi
  rw [← k2 i hi]; exact h.2 (fun k hk => by rw [k1 k hk]; exact h1 k hk) i hi
 ·intro h1 i hi
  rw [← k1 i hi]; exact h.1 (fun k hk => by rw [k2 k hk]; exact h1 k hk) i hi
theorem inv_left {A : List (List Rat)} {n : Nat} (hl : A.length = n) (hw : Wid n A) (hr : (gjn A n).2.length = n) {i c : Nat} (hi : i < n) (hc : c < n) : mulF n (fm (invR A n)) (fm A) i c = if i = c then 1 else 0 := by
 have h := (inv_sol hl hw hr (fun j => if j = c then 1 else 0) (fun i => -ent A i c)).1 (fun i hi => by
  rw [sm_delta (j := c) n hc fun j hj hne => by rw [if_neg hne, Rat.mul_zero], if_pos rfl]; grind) i hi
 have e : sm (fun k => ent (invR A n) i k * -ent A k c) n = -1 * mulF n (fm (invR A n)) (fm A) i c := by
  unfold mulF; rw [sm_mull]; exact sm_congr n fun k _ => by grind
 rw [e] at h
 grind
theorem inv_right {A : List (List Rat)} {n : Nat} (hl : A.length = n) (hw : Wid n A) (hr : (gjn A n).2.length = n) {i c : Nat} (hi : i < n) (hc : c < n) : mulF n (fm A) (fm (invR A n)) i c = if i = c then 1 else 0 := by
 have h := (inv_sol hl hw hr (fun j => -ent (invR A n) j c) (fun i => if i = c then 1 else 0)).2 (fun i hi => by
  rw [sm_delta (j := c) n hc fun j hj hne => by rw [if_neg hne, Rat.mul_zero], if_pos rfl]; grind) i hi
 have e : sm (fun k => ent A i k * -ent (invR A n) k c) n = -1 * mulF n (fm A) (fm (invR A n)) i c := by
  unfold mulF; rw [sm_mull]; exact sm_congr n fun k _ => by grind
 rw [e] at h
 grind
theorem mulF_assoc (n : Nat) (A B C : Nat → Nat → Rat) (i j : Nat) : mulF n (mulF n A B) C i j = mulF n A (mulF n B C) i j := by
 unfold mulF
 rw [sm_congr n fun t _ => sm_mulr (fun s => A i s * B s t) (C t j) n, sm_swap (fun t s => A i s * B s t * C t j) n n]
 refine sm_congr n fun s _ => ?_
 rw [sm_mull]
 exact sm_congr n fun t _ => Rat.mul_assoc _ _ _
theorem mulF_congr {n : Nat} {A B C D : Nat → Nat → Rat} {i j : Nat} (hi : i < n) (hj : j < n) (h1 : ∀ a b, a < n → b < n → A a b = C a b) (h2 : ∀ a b, a < n → b < n → B a b = D a b) : mulF n A B i j = mulF n C D i j :=
 sm_congr n fun t ht => by rw [h1 i t hi ht, h2 t j ht hj]
theorem mulF_onel {n : Nat} (B : Nat → Nat → Rat) {i j : Nat} (hi : i < n) : mulF n oneF B i j = B i j := by
 unfold mulF
 rw [sm_delta (j := i) n hi fun t ht hne => by rw [show oneF i t = 0 from if_neg (Ne.symm hne), Rat.zero_mul], show oneF i i = 1 from if_pos rfl, Rat.one_mul]
theorem mulF_oner {n : Nat} (B : Nat → Nat → Rat) {i j : Nat} (hj : j < n) : mulF n B oneF i j = B i j := by
 unfold mulF
 rw [sm_delta (j := j) n hj fun t ht hne => by rw [show oneF t j = 0 from if_neg hne, Rat.mul_zero], show oneF j j = 1 from if_pos rfl, Rat.mul_one]
theorem inv_rank {A : List (List Rat)} {n : Nat} (hl : A.length = n) (hw : Wid n A) (hr : (gjn A n).2.length = n) : (gjn (invR A n) n).2.length = n := by
 have h1 := det_mulF (inv_len (A := A) hl) (inv_wid hl hw) (fm A)
 rw [det_congr n (N := oneF) fun a b ha hb => inv_left hl hw hr ha hb, det_one] at h1
 have h2 := (gjn_RI (inv_wid hl hw) n (Nat.le_refl _)).rk
 rw [gjn_len, inv_len hl] at h2
 by_cases e : (gjn (invR A n) n).2.length < n
 ·unfold dtv at h1
  rw [if_pos e, Rat.zero_mul] at h1
  exact absurd h1 (by decide)
 ·omega
theorem inv_inv {A : List (List Rat)} {n : Nat} (hl : A.length = n) (hw : Wid n A) (hr : (gjn A n).2.length = n) : invR (invR A n) n = A := by
 have hPl := inv_len (A := A) hl
 have hPw := inv_wid hl hw
 have hPr := inv_rank hl hw hr
 refine rows_ext (by rw [inv_len hPl, hl]) (inv_wid hPl hPw) hw fun i j hi hj => ?_
 rw [inv_len hPl] at hi
 have h1 : mulF n (fm A) (mulF n (fm (invR A n)) (fm (invR (invR A n) n))) i j = ent A i j := by
  rw [mulF_congr hi hj (fun _ _ _ _ => rfl) fun a b ha hb => inv_right hPl hPw hPr ha hb]
  exact mulF_oner (fm A) hj
 rw [← mulF_assoc, mulF_congr hi hj (fun a b ha hb => inv_right hl hw hr ha hb) (fun _ _ _ _ => rfl)] at h1
 rw [← h1]
 exact (mulF_onel (fm (invR (invR A n) n)) hi).symm
end Go.Ab
set_option linter.unusedVariables false
set_option linter.unusedSimpArgs false
namespace Go.Ab
open Go.RowKit
theorem outN_some {q : Rat} {y : NM} (h : outN q = some y) : VN y ∧ nq y = q := by
 unfold outN at h
 split at h
 ·rename_i hc
  obtain ⟨⟨h1, h2⟩, h3⟩ := hc
  cases h
  have := q.den_pos
  refine ⟨⟨by show (1 : Int) ≤ (q.den : Int); omega, h3, h2, h1, ?_⟩, Rat.num_divInt_den q⟩
  show Int.gcd q.num (q.den : Int) = 1
  have := q.reduced
  unfold Nat.Coprime at this
  rw [Int.gcd, Int.natAbs_natCast]; exact this
 ·cases h
theorem outN_nq {y : NM} (h : VN y) : outN (nq y) = some y := by
 obtain ⟨h1, h2⟩ := valid_rat h
 obtain ⟨k1, k2, k3, k4, _⟩ := h
 unfold outN nq
 rw [h1, h2, if_pos ⟨⟨k4, k3⟩, k2⟩]
theorem nq_zero {y : NM} (h : VN y) : nq y = 0 ↔ y.1 = 0 := by
 obtain ⟨h1, h2⟩ := valid_rat h
 constructor
 ·intro h3
  have h4 : (nq y).num = y.1 := h1
  rw [h3] at h4; exact h4.symm
 ·intro h3
  unfold nq
  rw [h3]; exact Rat.zero_divInt _
theorem outs_some : ∀ {l : List Rat} {r : List NM}, l.mapM outN = some r → r.map nq = l ∧ ∀ y, y ∈ r → VN y
 | [], r, h => by simp at h; subst h; simp
 | q :: l, r, h => by
  rw [List.mapM_cons] at h
  cases h1 : outN q with
  | none => rw [h1] at h; simp at h
  | some y =>
   rw [h1] at h
   cases h2 : l.mapM outN with
   | none => rw [h2] at h; simp at h
   | some r2 =>
    rw [h2] at h
    simp at h
    subst h
    obtain ⟨k1, k2⟩ := outs_some h2
    obtain ⟨k3, k4⟩ := outN_some h1
    refine ⟨by rw [List.map_cons, k1, k4], fun z hz => ?_⟩
    rcases List.mem_cons.1 hz with rfl | hz
    ·exact k3
    ·exact k2 z hz
theorem outs_nq : ∀ {r : List NM}, (∀ y, y ∈ r → VN y) → (r.map nq).mapM outN = some r
 | [], _ => rfl
 | y :: r, h => by
  rw [List.map_cons, List.mapM_cons, outN_nq (h y (by simp)), outs_nq fun z hz => h z (by simp [hz])]; rfl
theorem outm_some : ∀ {R : List (List Rat)} {M : List (List NM)}, (R.mapM fun r => r.mapM outN) = some M → M.map (fun m => m.map nq) = R ∧ ∀ m, m ∈ M → ∀ y, y ∈ m → VN y
 | [], r, h => by simp at h; subst h; simp
 | q :: l, r, h => by
  rw [List.mapM_cons] at h
  cases h1 : q.mapM outN with
  | none => rw [h1] at h; simp at h
  | some y =>
   rw [h1] at h
   cases h2 : l.mapM (fun r => r.mapM outN) with
   | none => rw [h2] at h; simp at h
   | some r2 =>
    rw [h2] at h
    simp at h
    subst h
    obtain ⟨k1, k2⟩ := outm_some h2
    obtain ⟨k3, k4⟩ := outs_some h1
    refine ⟨by rw [List.map_cons, k1, k3], fun z hz => ?_⟩
    rcases List.mem_cons.1 hz with rfl | hz
    ·exact k4
    ·exact k2 z hz
theorem outm_nq : ∀ {M : List (List NM)}, (∀ m, m ∈ M → ∀ y, y ∈ m → VN y) → ((M.map fun m => m.map nq).mapM fun r => r.mapM outN) = some M
 | [], _ => rfl
 | y :: r, h => by
  rw [List.map_cons, List.mapM_cons, outs_nq (h y (by simp)), outm_nq fun z hz => h z (by simp [hz])]; rfl
theorem vM_kM (M : List (List NM)) : vM (M.map kM) = M.map fun m => m.map nq := by
 unfold vM; rw [List.map_map]; rfl
theorem VN.i64 {y : NM} (h : VN y) : I64 y.1 ∧ I64 y.2 := by
 obtain ⟨k1, k2, k3, k4, _⟩ := h
 unfold I64; omega
structure Res (a : List M1) (R : List (List Rat)) (w : Nat) : Prop where
 v : VM a = true
 val : vM a = R
 len : a.length = R.length
 wd : 0 < R.length → Ab.wd a = w
 im : IM a
 few : Few8 a
theorem vM_len (a : List M1) : (vM a).length = a.length := by simp [vM]
theorem res_of {R : List (List Rat)} {M : List (List NM)} {w : Nat} (h : (R.mapM fun r => r.mapM outN) = some M) (hw : Wid w R) (hl : R.length ≤ 8) (hw8 : w ≤ 8) : Res (M.map kM) R w := by
 obtain ⟨h1, h2⟩ := outm_some h
 have hl2 : M.length = R.length := by rw [← h1, List.length_map]
 have hr : ∀ r, r ∈ M.map kM → r.2.length = w ∧ ∀ y, y ∈ r.2 → VN y := by
  intro r hr
  obtain ⟨m, hm, rfl⟩ := List.mem_map.1 hr
  have := hw (m.map nq) (by rw [← h1]; exact List.mem_map.2 ⟨m, hm, rfl⟩)
  rw [List.length_map] at this
  exact ⟨this, h2 m hm⟩
 have hl3 : (M.map kM).length = R.length := by rw [List.length_map, hl2]
 refine ⟨?_, by rw [vM_kM, h1], hl3, fun h0 => ?_, fun r hm y hy => ((hr r hm).2 y hy).i64, ⟨by omega, fun r hm => by have := (hr r hm).1; omega, .inr (by omega), fun r hm => .inr (by have := (hr r hm).1; omega)⟩⟩
 ·unfold VM
  rw [Bool.and_eq_true]
  refine ⟨decide_eq_true (by omega), List.all_eq_true.2 fun r hm => ?_⟩
  have hpos := List.length_pos_of_mem hm
  unfold VMr VV
  rw [Bool.and_eq_true, Bool.and_eq_true]
  refine ⟨decide_eq_true ?_, decide_eq_true (by have := (hr r hm).1; omega), List.all_eq_true.2 fun y hy => decide_eq_true ((hr r hm).2 y hy)⟩
  rw [(hr r hm).1, (hr _ (getD_mem hpos)).1]
 ·unfold Ab.wd
  rw [if_neg (by omega)]
  exact (hr _ (getD_mem (by omega))).1
theorem good_nil : IM ([] : List M1) ∧ Few8 ([] : List M1) := ⟨fun r hr => (by cases hr), ⟨by decide, fun r hr => (by cases hr), .inr (by decide), fun r hr => (by cases hr)⟩⟩
theorem len8 {a : List M1} (hV : VM a = true) (hF : Few8 a) : a.length ≤ 8 := by
 have := (VM.facts hV).1
 rcases hF.h8 with h | h <;> omega
theorem appe_ok {a : List M1} {x : List NM} (h : appe a x = 0) : VM a = true ∧ VV x = true ∧ (0 < a.length → wd a = x.length) ∧ appO a x = some (app1 a x) := by
 unfold appe at h
 split at h
 ·cases h
 ·rename_i h1
  have h1 : (VM a && VV x) = true := by simpa using h1
  rw [Bool.and_eq_true] at h1
  split at h
  ·cases h
  ·rename_i h2
   have h3 : 0 < a.length → wd a = x.length := fun h0 => by
    by_cases e : wd a = x.length
    ·exact e
    ·exact absurd ⟨h0, e⟩ h2
   split at h
   ·rename_i h4
    refine ⟨h1.1, h1.2, h3, ?_⟩
    obtain ⟨l, hl⟩ := Option.isSome_iff_exists.1 h4
    have h5 : appOk a x = true := by
     unfold appOk
     rw [h1.1, h1.2]
     by_cases h0 : 0 < a.length
     ·simp [h3 h0]
     ·simp [h0]
    unfold app1
    rw [if_pos h5, hl]; rfl
   ·cases h
theorem app_val {a : List M1} {x : List NM} (h : appe a x = 0) : (app1 a x).map nq = appR (vM a) (x.map nq) ∧ (∀ y, y ∈ app1 a x → VN y) ∧ (app1 a x).length = a.length := by
 obtain ⟨_, _, _, h4⟩ := appe_ok h
 obtain ⟨h5, h6⟩ := outs_some h4
 refine ⟨h5, h6, ?_⟩
 have := congrArg List.length h5
 rw [List.length_map] at this
 rw [this]; simp [appR, vM]
theorem appR_getD {A : List (List Rat)} {x : List Rat} {i : Nat} (hi : i < A.length) : (appR A x).getD i default = dotR (A.getD i default) x := mapD (f := fun r => dotR r x) hi
theorem app_good (a : List M1) (x : List NM) (hF : Few8 a) : (app1 a x).length ≤ 70 ∧ IV (app1 a x) := by
 refine ⟨Nat.le_trans (app1_len a x) hF.ln, fun y hy => ?_⟩
 unfold app1 at hy
 split at hy
 ·cases h : appO a x with
  | none => rw [h] at hy; cases hy
  | some l => rw [h] at hy; exact ((outs_some h).2 y hy).i64
 ·cases hy
theorem sle_ok {a : List M1} {b : List NM} (h : sle a b = 0) : VM a = true ∧ VV b = true ∧ a.length = b.length ∧ (nosol (solS a b) (wd a) = true ∧ sln a b = 0 ∨ nosol (solS a b) (wd a) = false ∧ solO a b = some (sll a b) ∧ sln a b = solk (solS a b) (wd a)) := by
 unfold sle at h
 split at h
 ·cases h
 ·rename_i h1
  have h1 : (VM a && VV b) = true := by simpa using h1
  rw [Bool.and_eq_true] at h1
  split at h
  ·cases h
  ·rename_i h2
   have h2 : a.length = b.length := by omega
   refine ⟨h1.1, h1.2, h2, ?_⟩
   cases hn : nosol (solS a b) (wd a) with
   | true => exact .inl ⟨rfl, by unfold sln solOk; simp [hn]⟩
   | false =>
    rw [hn] at h
    cases ho : solO a b with
    | none => rw [ho] at h; simp at h
    | some l =>
     have h5 : solOk a b = true := by unfold solOk; simp [h1.1, h1.2, h2, hn, ho]
     exact .inr ⟨rfl, by unfold sll; rw [if_pos h5, ho]; rfl, by unfold sln; rw [if_pos h5]⟩
theorem sol_good (a : List M1) (b : List NM) (hF : Few8 a) : (sll a b).length ≤ 70 ∧ IV (sll a b) := by
 unfold sll
 split
 ·rename_i h
  unfold solOk at h
  cases ho : solO a b with
  | none => exact ⟨by simp, fun y hy => by cases hy⟩
  | some l =>
   obtain ⟨h1, h2⟩ := outs_some ho
   have hV : VM a = true := by
    rw [Bool.and_eq_true, Bool.and_eq_true, Bool.and_eq_true, Bool.and_eq_true] at h; exact h.1.1.1.1
   have := congrArg List.length h1
   rw [List.length_map, solv_len] at this
   have := wd_le hV hF
   exact ⟨by show l.length ≤ 70; omega, fun y hy => (h2 y hy).i64⟩
 ·exact ⟨by simp, fun y hy => by cases hy⟩
theorem sol_val {a : List M1} {b : List NM} (hV : VM a = true) (hb : a.length = b.length) (hn : nosol (solS a b) (wd a) = false) (ho : solO a b = some (sll a b)) :
  (∀ y, y ∈ sll a b → VN y) ∧ (sll a b).length = wd a ∧ ∀ i, i < a.length → dotR ((vM a).getD i default) ((sll a b).map nq) = nq (b.getD i default) := by
 obtain ⟨h1, h2⟩ := outs_some ho
 have hl := congrArg List.length h1
 rw [List.length_map, solv_len] at hl
 refine ⟨h2, hl, fun i hi => ?_⟩
 rw [h1]
 have := solv_ok (vM_wid hV) hn i (by rw [vM_len]; exact hi)
 unfold solS
 rw [this, mapD (by omega)]
theorem law_a {a : List M1} {x : List NM} (he : appe a x = 0) (hs : sle a (app1 a x) = 0) : sln a (app1 a x) ≠ 0 ∧ (appe a (sll a (app1 a x)) = 0 → app1 a (sll a (app1 a x)) = app1 a x) ∧ (sln a (app1 a x) = 1 → 0 < a.length → x = sll a (app1 a x)) := by
 obtain ⟨hV, hX, hd, _⟩ := appe_ok he
 obtain ⟨hv1, hv2, hv3⟩ := app_val he
 have hax : ∀ i, i < (vM a).length → dotR ((vM a).getD i default) (x.map nq) = ((app1 a x).map nq).getD i default := fun i hi => by rw [hv1, appR_getD hi]
 have hns : nosol (solS a (app1 a x)) (wd a) = false := nosol_of (vM_wid hV) hax
 obtain ⟨_, _, hl, h⟩ := sle_ok hs
 rcases h with ⟨h, _⟩ | ⟨_, ho, hk⟩
 ·rw [hns] at h; cases h
 obtain ⟨s1, s2, s3⟩ := sol_val hV hl hns ho
 refine ⟨?_, fun he2 => ?_, fun h1 h0 => ?_⟩
 ·rw [hk]; unfold solk; split <;> decide
 ·obtain ⟨_, _, _, h4⟩ := appe_ok he2
  have h5 : appR (vM a) ((sll a (app1 a x)).map nq) = (app1 a x).map nq := by
   refine list_eq (by simp [appR, vM]; omega) fun i hi => ?_
   have hi' : i < a.length := by simpa [appR, vM] using hi
   rw [appR_getD (by rw [vM_len]; exact hi'), s3 i hi', mapD (by omega)]
  unfold appO at h4
  rw [h5, outs_nq hv2] at h4
  exact (Option.some.inj h4).symm
 ·rw [hk] at h1
  have hw := wR_wid (B := (app1 a x).map nq) (vM_wid hV)
  have hR := gjn_RI hw (wd a) (by omega)
  have hrw : (solS a (app1 a x)).2.length = wd a := by
   unfold solk at h1
   split at h1
   ·cases h1
   ·rename_i h2
    unfold solS at h2 ⊢
    rcases Nat.eq_zero_or_pos (gjn (wR (vM a) ((app1 a x).map nq)) (wd a)).2.length with h3 | h3
    ·omega
    ·have h4 := hR.ge ((gjn (wR (vM a) ((app1 a x).map nq)) (wd a)).2.length - 1) (by omega)
     have h5 := hR.lt ((gjn (wR (vM a) ((app1 a x).map nq)) (wd a)).2.length - 1) (by omega)
     omega
  have h2 := sol_unique (vM_wid hV) (y := x.map nq) (z := (sll a (app1 a x)).map nq) (by rw [List.length_map, hd h0]) (by rw [List.length_map, s2]) hrw hax (fun i hi => by
   rw [vM_len] at hi
   rw [s3 i hi, mapD (by omega)])
  have h3 := outs_nq (VV.facts hX).2
  rw [h2, outs_nq s1] at h3
  exact (Option.some.inj h3).symm
theorem law_b {a : List M1} {x : List NM} (hF : Few8 a) (hs : sle a x = 0) (hn : 0 < sln a x) : VV (sll a x) = true ∧ a.length = x.length ∧ (∀ r, r ∈ a → r.2.length = (sll a x).length) ∧ ∀ i, i < a.length → dotR ((a.getD i default).2.map nq) ((sll a x).map nq) = nq (x.getD i default) := by
 obtain ⟨hV, hX, hl, h⟩ := sle_ok hs
 rcases h with ⟨_, h⟩ | ⟨h1, h2, h3⟩
 ·omega
 obtain ⟨s1, s2, s3⟩ := sol_val hV hl h1 h2
 have hw := wd_le hV hF
 refine ⟨?_, hl, fun r hr => by rw [s2, ((VM.facts hV).2 r hr).1], fun i hi => ?_⟩
 ·unfold VV
  rw [Bool.and_eq_true]
  exact ⟨decide_eq_true (by omega), List.all_eq_true.2 fun y hy => decide_eq_true (s1 y hy)⟩
 ·have := s3 i hi
  unfold vM at this
  rwa [mapD (f := fun r : M1 => r.2.map nq) hi] at this
def zb (x : List NM) : Bool := x.all fun y => decide (y.1 = 0)
theorem re_ok {a : List M1} (h : re a = 0) : VM a = true ∧ ∃ M, redO a = some M ∧ rl a = M.map kM := by
 unfold re at h
 split at h
 ·rename_i hV
  split at h
  ·rename_i h1
   obtain ⟨M, hM⟩ := Option.isSome_iff_exists.1 h1
   exact ⟨hV, M, hM, by unfold rl; rw [if_pos hV, hM]; rfl⟩
  ·cases h
 ·cases h
theorem red_res {a : List M1} (hF : Few8 a) (h : re a = 0) : Res (rl a) (gjn (vM a) (wd a)).1 (wd a) := by
 obtain ⟨hV, M, hM, hr⟩ := re_ok h
 rw [hr]
 exact res_of hM (St0.all (vM_wid hV) _ (Nat.le_refl _)).wid (by rw [gjn_len, vM_len]; exact len8 hV hF) (wd_le hV hF)
theorem red_good {a : List M1} (hF : Few8 a) : IM (rl a) ∧ Few8 (rl a) := by
 by_cases h : re a = 0
 ·exact ⟨(red_res hF h).im, (red_res hF h).few⟩
 ·have : rl a = [] := by
   unfold rl
   split
   ·rename_i hV
    unfold re at h
    rw [if_pos hV] at h
    cases ho : redO a with
    | none => rfl
    | some M => rw [ho] at h; exact absurd rfl h
   ·rfl
  rw [this]; exact good_nil
theorem wd_zero {a : List M1} (h : a.length = 0) : wd a = 0 := if_pos h
theorem law_c {a : List M1} (hF : Few8 a) (h : re a = 0) : re (rl a) = 0 ∧ rl (rl a) = rl a := by
 have hr := red_res hF h
 obtain ⟨hV, M, hM, hrl⟩ := re_ok h
 have hgl : (gjn (vM a) (wd a)).1.length = a.length := by rw [gjn_len, vM_len]
 have hwd : wd (rl a) = wd a := by
  by_cases h0 : 0 < a.length
  ·exact hr.wd (by omega)
  ·rw [wd_zero (show a.length = 0 by omega), wd_zero (by rw [hr.len]; omega)]
 have h1 : redO (rl a) = some M := by
  unfold redO
  rw [hr.val, hwd, gjn_fix (vM_wid hV)]
  exact hM
 refine ⟨by unfold re; rw [if_pos hr.v, h1]; rfl, ?_⟩
 show (if VM (rl a) = true then ((redO (rl a)).getD []).map kM else []) = _
 rw [if_pos hr.v, h1, hrl]; rfl
theorem zb_app {a : List M1} {x : List NM} (h : appe a x = 0) : zb (app1 a x) = true ↔ ∀ i, i < (vM a).length → dotR ((vM a).getD i default) (x.map nq) = 0 := by
 obtain ⟨hv1, hv2, hv3⟩ := app_val h
 unfold zb
 rw [List.all_eq_true]
 constructor
 ·intro h1 i hi
  rw [vM_len] at hi
  rw [← appR_getD (by rw [vM_len]; exact hi), ← hv1, mapD (by omega), nq_zero (hv2 _ (getD_mem (by omega)))]
  exact of_decide_eq_true (h1 _ (getD_mem (by omega)))
 ·intro h1 y hy
  refine decide_eq_true ((nq_zero (hv2 y hy)).1 ?_)
  have h2 : nq y ∈ appR (vM a) (x.map nq) := by rw [← hv1]; exact List.mem_map.2 ⟨y, hy, rfl⟩
  obtain ⟨r, hr, he⟩ := List.mem_map.1 h2
  rw [← he]
  obtain ⟨i, hi, rfl⟩ := List.mem_iff_getElem.1 hr
  have := h1 i hi
  rw [List.getD_eq_getElem?_getD, List.getElem?_eq_getElem hi] at this
  exact this
theorem law_c2 {a : List M1} {x : List NM} (hF : Few8 a) (h : re a = 0) (h1 : appe a x = 0) (h2 : appe (rl a) x = 0) : zb (app1 a x) = zb (app1 (rl a) x) := by
 have hr := red_res hF h
 obtain ⟨hV, _⟩ := re_ok h
 rw [Bool.eq_iff_iff, zb_app h1, zb_app h2, hr.val, ker_same (vM_wid hV), gjn_len]
theorem mule_ok {a b : List M1} (h : mule a b = 0) : VM a = true ∧ VM b = true ∧ (0 < a.length → wd a = b.length) ∧ ∃ M, mulO a b = some M ∧ mul1 a b = M.map kM := by
 unfold mule at h
 split at h
 ·cases h
 ·rename_i h1
  have h1 : (VM a && VM b) = true := by simpa using h1
  rw [Bool.and_eq_true] at h1
  split at h
  ·cases h
  ·rename_i h2
   have h3 : 0 < a.length → wd a = b.length := fun h0 => by
    by_cases e : wd a = b.length
    ·exact e
    ·exact absurd ⟨h0, e⟩ h2
   split at h
   ·rename_i h4
    obtain ⟨M, hM⟩ := Option.isSome_iff_exists.1 h4
    refine ⟨h1.1, h1.2, h3, M, hM, ?_⟩
    have h5 : mulOk a b = true := by
     unfold mulOk
     rw [h1.1, h1.2]
     by_cases h0 : 0 < a.length
     ·simp [h3 h0]
     ·simp [h0]
    unfold mul1
    rw [if_pos h5, hM]; rfl
   ·cases h
theorem mul_res {a b : List M1} (hF : Few8 a) (hFb : Few8 b) (h : mule a b = 0) : Res (mul1 a b) (prodR (vM a) (vM b) (wd b)) (wd b) := by
 obtain ⟨hV, hVb, _, M, hM, hr⟩ := mule_ok h
 rw [hr]
 exact res_of hM (prodR_wid _ _ _) (by rw [prodR_len, vM_len]; exact len8 hV hF) (wd_le hVb hFb)
theorem mul_good {a b : List M1} (hF : Few8 a) (hFb : Few8 b) : IM (mul1 a b) ∧ Few8 (mul1 a b) := by
 by_cases h : mule a b = 0
 ·exact ⟨(mul_res hF hFb h).im, (mul_res hF hFb h).few⟩
 ·have : mul1 a b = [] := by
   unfold mul1
   split
   ·rename_i hok
    unfold mulOk at hok
    rw [Bool.and_eq_true, Bool.not_eq_true'] at hok
    unfold mule at h
    rw [hok.1, if_neg (by decide)] at h
    have h2 : ¬ (0 < a.length ∧ wd a ≠ b.length) := fun hc => by
     have := hok.2
     rw [decide_eq_true hc.1, decide_eq_true hc.2] at this; cases this
    rw [if_neg h2] at h
    cases ho : mulO a b with
    | none => rfl
    | some M => rw [ho] at h; exact absurd rfl h
   ·rfl
  rw [this]; exact good_nil
theorem law_d {a b c : List M1} (hF : Few8 a) (hFb : Few8 b) (hFc : Few8 c) (h1 : mule a b = 0) (h2 : mule b c = 0) (ha : 0 < a.length) (hb : 0 < b.length) (h3 : mule (mul1 a b) c = 0) (h4 : mule a (mul1 b c) = 0) : mul1 (mul1 a b) c = mul1 a (mul1 b c) := by
 have r1 := mul_res hF hFb h1
 have r2 := mul_res hFb hFc h2
 obtain ⟨va, vb, d1, _⟩ := mule_ok h1
 obtain ⟨_, vc, d2, _⟩ := mule_ok h2
 obtain ⟨_, _, d3, M3, hM3, e3⟩ := mule_ok h3
 obtain ⟨_, _, d4, M4, hM4, e4⟩ := mule_ok h4
 have w1 := r1.wd (by rw [prodR_len, vM_len]; exact ha)
 have w2 := r2.wd (by rw [prodR_len, vM_len]; exact hb)
 rw [e3, e4]
 unfold mulO at hM3 hM4
 rw [r1.val] at hM3
 rw [r2.val, w2, ← prodR_assoc (p := wd b) (wd c) (by rw [vM_len, ← d1 ha]; exact vM_wid va) (vM_wid vb), hM3] at hM4
 rw [Option.some.inj hM4]
theorem dete_ok {a : List M1} (h : dete a = 0) : VM a = true ∧ sqb a = true ∧ outN (detV a) = some (detn a) := by
 unfold dete at h
 split at h
 ·cases h
 ·rename_i h1
  split at h
  ·cases h
  ·rename_i h2
   have h1 : VM a = true := by simpa using h1
   have h2 : sqb a = true := by simpa using h2
   split at h
   ·rename_i h3
    obtain ⟨y, hy⟩ := Option.isSome_iff_exists.1 h3
    refine ⟨h1, h2, ?_⟩
    unfold detn
    rw [h1, h2, hy]; rfl
   ·cases h
theorem detV_dtv (a : List M1) : detV a = dtv (vM a) a.length := rfl
theorem sq_wid {a : List M1} (hV : VM a = true) (hs : sqb a = true) : Wid a.length (vM a) := by rw [← sqb_wd hs]; exact vM_wid hV
theorem law_e {a b : List M1} (hF : Few8 a) (hFb : Few8 b) (h1 : mule a b = 0) (h2 : dete a = 0) (h3 : dete b = 0) (h4 : dete (mul1 a b) = 0) (hl : a.length = b.length) : outN (nq (detn a) * nq (detn b)) = some (detn (mul1 a b)) ∧ VN (detn a) ∧ VN (detn b) := by
 obtain ⟨va, sa, oa⟩ := dete_ok h2
 obtain ⟨vb, sb, ob⟩ := dete_ok h3
 obtain ⟨vab, sab, oab⟩ := dete_ok h4
 have r := mul_res hF hFb h1
 obtain ⟨n1, e1⟩ := outN_some oa
 obtain ⟨n2, e2⟩ := outN_some ob
 refine ⟨?_, n1, n2⟩
 have hlen := r.len
 rw [prodR_len, vM_len] at hlen
 have hwb := sqb_wd sb
 rw [e1, e2, ← oab, detV_dtv, detV_dtv, detV_dtv, r.val, hlen, hwb, ← hl, dtv_mul (vM_len a) (sq_wid va sa) (by rw [vM_len]; omega) (by rw [hl]; exact sq_wid vb sb)]
theorem inv_S {a : List M1} : (invS a).1.map (fun r => r.drop a.length) = invR (vM a) a.length := rfl
theorem law_f {a : List M1} (h : dete a = 0) : inve a = 5 ↔ (detn a).1 = 0 := by
 obtain ⟨va, sa, oa⟩ := dete_ok h
 obtain ⟨n1, e1⟩ := outN_some oa
 have hlead : (invS a).2 = (gjn (vM a) a.length).2 := inv_lead (vM_len a) (sq_wid va sa)
 rw [← nq_zero n1, e1, detV_dtv]
 unfold inve dtv
 rw [va, sa, hlead]
 simp only [Bool.true_eq_false, if_false]
 by_cases hr : (gjn (vM a) a.length).2.length < a.length
 ·rw [if_pos hr, if_pos hr]; simp
 ·rw [if_neg hr, if_neg hr]
  have := gjd_ne (sq_wid va sa) a.length (Nat.le_refl _)
  constructor
  ·intro h5; split at h5 <;> cases h5
  ·intro h5; exact absurd h5 this
theorem inve_ok {a : List M1} (h : inve a = 0) : VM a = true ∧ sqb a = true ∧ (gjn (vM a) a.length).2.length = a.length ∧ ∃ M, ((invR (vM a) a.length).mapM fun r => r.mapM outN) = some M ∧ inv1 a = M.map kM := by
 unfold inve at h
 split at h
 ·cases h
 ·rename_i h1
  split at h
  ·cases h
  ·rename_i h2
   have h1 : VM a = true := by simpa using h1
   have h2 : sqb a = true := by simpa using h2
   have hlead : (invS a).2 = (gjn (vM a) a.length).2 := inv_lead (vM_len a) (sq_wid h1 h2)
   split at h
   ·cases h
   ·rename_i h3
    split at h
    ·rename_i h4
     obtain ⟨M, hM⟩ := Option.isSome_iff_exists.1 h4
     have hrk := (gjn_RI (sq_wid h1 h2) a.length (Nat.le_refl _)).rk
     rw [gjn_len, vM_len] at hrk
     refine ⟨h1, h2, by rw [hlead] at h3; omega, M, hM, ?_⟩
     unfold inv1 invOk
     rw [h1, h2, decide_eq_false h3, hM]; rfl
    ·cases h
theorem inv_res {a : List M1} (hF : Few8 a) (h : inve a = 0) : Res (inv1 a) (invR (vM a) a.length) a.length := by
 obtain ⟨va, sa, _, M, hM, hr⟩ := inve_ok h
 rw [hr]
 have h8 := len8 va hF
 exact res_of hM (inv_wid (vM_len a) (sq_wid va sa)) (by rw [inv_len (vM_len a)]; exact h8) h8
theorem inv_good {a : List M1} (hF : Few8 a) : IM (inv1 a) ∧ Few8 (inv1 a) := by
 by_cases h : inve a = 0
 ·exact ⟨(inv_res hF h).im, (inv_res hF h).few⟩
 ·have : inv1 a = [] := by
   unfold inv1
   split
   ·rename_i hok
    unfold invOk at hok
    rw [Bool.and_eq_true, Bool.and_eq_true, Bool.not_eq_true'] at hok
    unfold inve at h
    rw [hok.1.1, hok.1.2, if_neg (by decide), if_neg (by decide), if_neg (of_decide_eq_false hok.2)] at h
    cases ho : invO a with
    | none => rfl
    | some M => rw [ho] at h; exact absurd rfl h
   ·rfl
  rw [this]; exact good_nil
theorem law_g {a : List M1} (hF : Few8 a) (h : inve a = 0) : inve (inv1 a) = 0 ∧ (inv1 (inv1 a)).map (·.2) = a.map (·.2) := by
 obtain ⟨va, sa, hr, _⟩ := inve_ok h
 have r := inv_res hF h
 have hlen := r.len
 rw [inv_len (vM_len a)] at hlen
 have hsp : sqb (inv1 a) = true := by
  unfold sqb
  rw [Bool.or_eq_true]
  by_cases h0 : a.length = 0
  ·left; exact decide_eq_true (by omega)
  ·right; exact decide_eq_true (by rw [r.wd (by rw [inv_len (vM_len a)]; omega), hlen])
 have hlead : (invS (inv1 a)).2 = (gjn (vM (inv1 a)) (inv1 a).length).2 := inv_lead (vM_len _) (sq_wid r.v hsp)
 have hrk : ¬ (invS (inv1 a)).2.length < (inv1 a).length := by
  rw [hlead, r.val, hlen, inv_rank (vM_len a) (sq_wid va sa) hr]; omega
 have ho : invO (inv1 a) = some (a.map (·.2)) := by
  unfold invO
  rw [inv_S, r.val, hlen, inv_inv (vM_len a) (sq_wid va sa) hr]
  have := outm_nq (M := a.map (·.2)) (fun m hm y hy => by
   obtain ⟨s, hs, rfl⟩ := List.mem_map.1 hm
   exact ((VM.facts va).2 s hs).2.2 y hy)
  rw [List.map_map] at this
  exact this
 refine ⟨?_, ?_⟩
 ·unfold inve
  rw [r.v, hsp, if_neg (by decide), if_neg (by decide), if_neg hrk, ho]; rfl
 ·have hok : (VM (inv1 a) && sqb (inv1 a) && !decide ((invS (inv1 a)).2.length < (inv1 a).length)) = true := by rw [r.v, hsp, decide_eq_false hrk]; rfl
  have e : inv1 (inv1 a) = (a.map (·.2)).map kM := by
   show (if invOk (inv1 a) = true then ((invO (inv1 a)).getD []).map kM else []) = _
   rw [if_pos (show invOk (inv1 a) = true from hok), ho]; rfl
  have e2 := congrArg (List.map (·.2)) e
  rw [List.map_map, List.map_map] at e2
  exact e2
end Go.Ab
set_option linter.unusedVariables false
namespace Go.Ab
section
variable {P : Program} {T : TT} {E : TypeId → Bool} {N : Nat} {oa : Array Oper} {i b n z id : Nat} {e : Env} {h : Hp} {Q : Env → Hp → Prop} {K : Ex → Env → Hp → Nat → Prop} {t dst : Nat} {pos : String} {af : Array Edge} {l : List Oper} {x : Operand} {r : LV} {acc : List Rec} {c : Code} {o : Oper} {k : IntKind} {u : Int} {d : Delta} {R : List Nat}
theorem Um (hx : evE e x = some r) (hd : Nat.blt dst N = true) (q : WO P T E N oa l (i + 1) b ((dst, r) :: e) h Q) : WO P T E N oa (⟨some dst, .move x, t, pos, af, none⟩ :: l) i b e h Q := WO.U (oMv hx) hd q
theorem Ua (hx : evE e x = some r) (hd : Nat.blt dst N = true) (q : WO P T E N oa l (i + 1) b ((dst, r) :: e) h Q) : WO P T E N oa (⟨some dst, .assign x, t, pos, af, none⟩ :: l) i b e h Q := WO.U (oAs hx) hd q
theorem Dm (hx : evE e x = some r) (hd : Nat.blt dst N = true) (q : WD P T E N oa l (i + 1) b ((dst, r) :: e) h (⟨i, [], [], false⟩ :: acc) Q) : WD P T E N oa (⟨some dst, .move x, t, pos, af, none⟩ :: l) i b e h acc Q := WD.U (oMv hx) hd q
theorem Wn (q : Q e h) : WO P T E N oa [] i b e h Q := WO.nil q
theorem Nw (a : Env) (hs : subs a e) (q : WC P T E N c a h n K) : WO P T E N oa [] i b e h (fun e' m' => WC P T E N c e' m' n K) := WO.nil (WC.weak a hs q)
theorem Rg (z : Nat) (hz : oa.size = z) (q : WO P T E N oa oa.toList 0 n e h fun e' m' => WC P T E N c e' m' (n + z) K) : WC P T E N (.seq (.region id oa false) c) e h n K := WC.reg hz q
theorem cI (v : Int) (q : OP P T E o id e h (.v (.int k u)) d R) (hv : u = v) : OP P T E o id e h (.v (.int k v)) d R := OP.castI q hv
end
end Go.Ab
set_option linter.unusedVariables false
set_option linter.unusedSimpArgs false
set_option maxRecDepth 100000
namespace Go.Proofs.YtcmieifjephdcaaGreat
open Go.Ab Go.RowKit
def ti1 : TI := ⟨1, 8, [.nilFunc], .func⟩
def ti2 : TI := ⟨1, 8, [.int .i64 0], (.int .i64)⟩
def ti3 : TI := ⟨1, 8, [.int .i64 0], (.int .i64)⟩
def ti4 : TI := ⟨1, 1, [.bool false], .bool⟩
def ti5 : TI := ⟨1, 1, [.int .u8 0], (.int .u8)⟩
def ti6 : TI := ⟨1, 1, [.int .u8 0], (.int .u8)⟩
def ti7 : TI := ⟨4, 24, [.int .i64 0, .int .i64 0, .bool false, .int .u8 0], (.st [(0, 2), (1, 3), (2, 4), (3, 6)])⟩
def ti8 : TI := ⟨4, 24, [.int .i64 0, .int .i64 0, .bool false, .int .u8 0], (.st [(0, 2), (1, 3), (2, 4), (3, 6)])⟩
def ti9 : TI := ⟨1, 16, [.string ⟨#[]⟩], .str⟩
def ti10 : TI := ⟨1, 16, [.string ⟨#[]⟩], .str⟩
def ti11 : TI := ⟨1, 16, [.string ⟨#[]⟩], .str⟩
def ti12 : TI := ⟨1, 8, [.int .u64 0], (.int .u64)⟩
def ti13 : TI := ⟨2, 24, [.string ⟨#[]⟩, .int .u64 0], (.st [(0, 9), (1, 12)])⟩
def ti14 : TI := ⟨2, 24, [.string ⟨#[]⟩, .int .u64 0], (.st [(0, 9), (1, 12)])⟩
def ti21 : TI := ⟨1, 4, [.int .i32 0], (.int .i32)⟩
def ti22 : TI := ⟨1, 24, [.slice none 0 0], (.sl 23)⟩
def ti23 : TI := ⟨1, 24, [.slice none 0 0], (.sl 38)⟩
def ti24 : TI := ⟨1, 8, [.nilFunc], .func⟩
def ti25 : TI := ⟨1, 8, [.nilFunc], .func⟩
def ti26 : TI := ⟨1, 8, [.int .i64 0], (.int .i64)⟩
def ti28 : TI := ⟨1, 8, [.nilFunc], .func⟩
def ti29 : TI := ⟨1, 8, [.nilFunc], .func⟩
def ti30 : TI := ⟨1, 8, [.nilFunc], .func⟩
def ti32 : TI := ⟨1, 8, [.nilFunc], .func⟩
def ti34 : TI := ⟨1, 8, [.nilFunc], .func⟩
def ti35 : TI := ⟨1, 8, [.nilFunc], .func⟩
def ti36 : TI := ⟨1, 8, [.nilFunc], .func⟩
def ti37 : TI := ⟨2, 16, [.int .i64 0, .int .i64 0], (.st [(0, 3), (1, 3)])⟩
def ti38 : TI := ⟨2, 16, [.int .i64 0, .int .i64 0], (.st [(0, 3), (1, 3)])⟩
def ti40 : TI := ⟨1, 8, [.nilFunc], .func⟩
def ti41 : TI := ⟨1, 8, [.nilFunc], .func⟩
def ti43 : TI := ⟨1, 8, [.nilFunc], .func⟩
def ti44 : TI := ⟨1, 8, [.nilFunc], .func⟩
def ti45 : TI := ⟨1, 8, [.nilFunc], .func⟩
def ti46 : TI := ⟨1, 8, [.nilFunc], .func⟩
def ti47 : TI := ⟨1, 8, [.nilFunc], .func⟩
def ti48 : TI := ⟨1, 8, [.nilFunc], .func⟩
def ti49 : TI := ⟨1, 8, [.nilFunc], .func⟩
def ti50 : TI := ⟨1, 8, [.nilFunc], .func⟩
def ti51 : TI := ⟨1, 24, [.slice none 0 0], (.sl 22)⟩
def ti52 : TI := ⟨1, 8, [.nilFunc], .func⟩
def ti53 : TI := ⟨1, 8, [.nilFunc], .func⟩
def ti54 : TI := ⟨1, 24, [.slice none 0 0], (.sl 85)⟩
def ti56 : TI := ⟨1, 8, [.nilFunc], .func⟩
def ti57 : TI := ⟨1, 24, [.slice none 0 0], (.sl 54)⟩
def ti58 : TI := ⟨1, 8, [.nilFunc], .func⟩
def ti59 : TI := ⟨1, 8, [.nilFunc], .func⟩
def ti60 : TI := ⟨1, 8, [.nilFunc], .func⟩
def ti61 : TI := ⟨1, 8, [.nilFunc], .func⟩
def ti62 : TI := ⟨1, 24, [.slice none 0 0], (.sl 77)⟩
def ti64 : TI := ⟨1, 8, [.nilFunc], .func⟩
def ti65 : TI := ⟨1, 24, [.slice none 0 0], (.sl 62)⟩
def ti66 : TI := ⟨1, 8, [.nilFunc], .func⟩
def ti67 : TI := ⟨1, 8, [.nilFunc], .func⟩
def ti68 : TI := ⟨1, 8, [.nilFunc], .func⟩
def ti69 : TI := ⟨1, 24, [.slice none 0 0], (.sl 3)⟩
def ti71 : TI := ⟨1, 8, [.nilFunc], .func⟩
def ti72 : TI := ⟨1, 8, [.nilFunc], .func⟩
def ti73 : TI := ⟨1, 24, [.slice none 0 0], (.sl 125)⟩
def ti74 : TI := ⟨2, 32, [.int .i64 0, .slice none 0 0], (.st [(0, 3), (1, 73)])⟩
def ti75 : TI := ⟨2, 32, [.int .i64 0, .slice none 0 0], (.st [(0, 3), (1, 73)])⟩
def ti76 : TI := ⟨4, 64, [.int .i64 0, .slice none 0 0, .int .i64 0, .slice none 0 0], (.st [(0, 75), (2, 75)])⟩
def ti77 : TI := ⟨4, 64, [.int .i64 0, .slice none 0 0, .int .i64 0, .slice none 0 0], (.st [(0, 75), (2, 75)])⟩
def ti79 : TI := ⟨1, 8, [.nilFunc], .func⟩
def ti80 : TI := ⟨1, 8, [.nilFunc], .func⟩
def ti81 : TI := ⟨1, 8, [.nilFunc], .func⟩
def ti82 : TI := ⟨3, 40, [.int .i64 0, .bool false, .slice none 0 0], (.st [(0, 3), (1, 4), (2, 69)])⟩
def ti83 : TI := ⟨3, 40, [.int .i64 0, .bool false, .slice none 0 0], (.st [(0, 3), (1, 4), (2, 69)])⟩
def ti84 : TI := ⟨6, 80, [.int .i64 0, .bool false, .slice none 0 0, .int .i64 0, .bool false, .slice none 0 0], (.st [(0, 83), (3, 83)])⟩
def ti85 : TI := ⟨6, 80, [.int .i64 0, .bool false, .slice none 0 0, .int .i64 0, .bool false, .slice none 0 0], (.st [(0, 83), (3, 83)])⟩
def ti86 : TI := ⟨1, 8, [.nilFunc], .func⟩
def ti87 : TI := ⟨1, 8, [.nilFunc], .func⟩
def ti88 : TI := ⟨1, 8, [.nilFunc], .func⟩
def ti89 : TI := ⟨1, 8, [.nilFunc], .func⟩
def ti90 : TI := ⟨1, 8, [.nilFunc], .func⟩
def ti91 : TI := ⟨1, 8, [.nilFunc], .func⟩
def ti92 : TI := ⟨1, 8, [.nilFunc], .func⟩
def ti93 : TI := ⟨1, 8, [.nilFunc], .func⟩
def ti94 : TI := ⟨1, 8, [.nilFunc], .func⟩
def ti95 : TI := ⟨1, 8, [.nilFunc], .func⟩
def ti96 : TI := ⟨1, 8, [.nilFunc], .func⟩
def ti97 : TI := ⟨1, 8, [.nilFunc], .func⟩
def ti98 : TI := ⟨1, 8, [.int .u64 0], (.int .u64)⟩
def ti99 : TI := ⟨1, 8, [.nilFunc], .func⟩
def ti100 : TI := ⟨1, 8, [.nilFunc], .func⟩
def ti101 : TI := ⟨1, 8, [.nilFunc], .func⟩
def ti102 : TI := ⟨1, 8, [.nilFunc], .func⟩
def ti104 : TI := ⟨1, 8, [.nilFunc], .func⟩
def ti105 : TI := ⟨1, 8, [.nilFunc], .func⟩
def ti106 : TI := ⟨1, 8, [.nilFunc], .func⟩
def ti107 : TI := ⟨1, 8, [.nilFunc], .func⟩
def ti108 : TI := ⟨1, 8, [.nilFunc], .func⟩
def ti109 : TI := ⟨1, 8, [.nilFunc], .func⟩
def ti110 : TI := ⟨1, 8, [.nilFunc], .func⟩
def ti111 : TI := ⟨1, 8, [.nilFunc], .func⟩
def ti112 : TI := ⟨1, 8, [.nilFunc], .func⟩
def ti113 : TI := ⟨1, 8, [.nilFunc], .func⟩
def ti114 : TI := ⟨1, 8, [.nilFunc], .func⟩
def ti115 : TI := ⟨1, 8, [.nilFunc], .func⟩
def ti116 : TI := ⟨1, 8, [.nilFunc], .func⟩
def ti117 : TI := ⟨1, 8, [.nilFunc], .func⟩
def ti118 : TI := ⟨1, 8, [.nilFunc], .func⟩
def ti120 : TI := ⟨1, 8, [.nilFunc], .func⟩
def ti121 : TI := ⟨1, 8, [.nilFunc], .func⟩
def ti122 : TI := ⟨1, 8, [.nilFunc], .func⟩
def ti123 : TI := ⟨1, 8, [.nilFunc], .func⟩
def ti124 : TI := ⟨1, 8, [.nilFunc], .func⟩
def ti125 : TI := ⟨1, 4, [.int .u32 0], (.int .u32)⟩
def ti126 : TI := ⟨1, 8, [.nilFunc], .func⟩
def ti127 : TI := ⟨1, 8, [.int .u64 0], (.int .u64)⟩
def ti128 : TI := ⟨1, 8, [.nilFunc], .func⟩
def ti129 : TI := ⟨1, 8, [.nilFunc], .func⟩
def ti130 : TI := ⟨1, 8, [.nilFunc], .func⟩
def ti131 : TI := ⟨1, 8, [.nilFunc], .func⟩
def ti132 : TI := ⟨1, 8, [.nilFunc], .func⟩
def ti133 : TI := ⟨1, 8, [.nilFunc], .func⟩
def ti134 : TI := ⟨1, 8, [.nilFunc], .func⟩
def ti135 : TI := ⟨1, 8, [.nilFunc], .func⟩
def ti136 : TI := ⟨1, 8, [.nilFunc], .func⟩
def ti137 : TI := ⟨1, 8, [.nilFunc], .func⟩
def ti138 : TI := ⟨1, 8, [.nilFunc], .func⟩
def ti139 : TI := ⟨1, 8, [.nilFunc], .func⟩
def ti140 : TI := ⟨1, 8, [.nilFunc], .func⟩
def ti142 : TI := ⟨1, 8, [.nilFunc], .func⟩
def ti144 : TI := ⟨1, 8, [.nilFunc], .func⟩
def ti145 : TI := ⟨1, 8, [.nilFunc], .func⟩
def ti146 : TI := ⟨1, 8, [.nilFunc], .func⟩
def ti148 : TI := ⟨1, 8, [.nilFunc], .func⟩
def ti150 : TI := ⟨1, 8, [.nilFunc], .func⟩
def ti151 : TI := ⟨1, 8, [.nilFunc], .func⟩
def ti152 : TI := ⟨1, 8, [.nilFunc], .func⟩
def ti153 : TI := ⟨1, 8, [.nilFunc], .func⟩
def ti154 : TI := ⟨1, 8, [.nilFunc], .func⟩
def ti155 : TI := ⟨1, 8, [.nilFunc], .func⟩
def ti157 : TI := ⟨1, 8, [.nilFunc], .func⟩
def ti159 : TI := ⟨1, 8, [.nilFunc], .func⟩
def ti161 : TI := ⟨1, 8, [.nilFunc], .func⟩
def ti162 : TI := ⟨1, 8, [.nilFunc], .func⟩
def ti164 : TI := ⟨1, 8, [.nilFunc], .func⟩
def ti165 : TI := ⟨1, 8, [.nilFunc], .func⟩
def ti167 : TI := ⟨1, 8, [.nilFunc], .func⟩
def ti168 : TI := ⟨1, 8, [.nilFunc], .func⟩
def ti169 : TI := ⟨1, 8, [.nilFunc], .func⟩
def ti173 : TI := ⟨1, 8, [.nilFunc], .func⟩
def ti179 : TI := ⟨1, 1, [.int .u8 0], (.int .u8)⟩
def ti180 : TI := ⟨1, 1, [.int .u8 0], (.int .u8)⟩
def ti181 : TI := ⟨1, 8, [.nilFunc], .func⟩
def ti183 : TI := ⟨1, 4, [.int .i32 0], (.int .i32)⟩
def ti184 : TI := ⟨1, 4, [.int .i32 0], (.int .i32)⟩
def ti187 : TI := ⟨1, 16, [.string ⟨#[]⟩], (.st [(0, 9)])⟩
def ti188 : TI := ⟨1, 16, [.string ⟨#[]⟩], (.st [(0, 9)])⟩
theorem tok1 : TypeOk Tryz.prog 1 ti1 := typeOk_of (z := (.nilFunc)) (by kernel_rfl) rfl Tryz.underlying1 ⟨_, _, _, rfl⟩ rfl (by decide)
theorem tok2 : TypeOk Tryz.prog 2 ti2 := typeOk_of (z := (.int .i64 0)) (by kernel_rfl) rfl Tryz.underlying2 rfl rfl (by decide)
theorem tok3 : TypeOk Tryz.prog 3 ti3 := typeOk_of (z := (.int .i64 0)) (by kernel_rfl) rfl Tryz.underlying3 rfl rfl (by decide)
theorem tok4 : TypeOk Tryz.prog 4 ti4 := typeOk_of (z := (.bool false)) (by kernel_rfl) rfl Tryz.underlying4 rfl rfl (by decide)
theorem tok5 : TypeOk Tryz.prog 5 ti5 := typeOk_of (z := (.int .u8 0)) (by kernel_rfl) rfl Tryz.underlying5 rfl rfl (by decide)
theorem tok6 : TypeOk Tryz.prog 6 ti6 := typeOk_of (z := (.int .u8 0)) (by kernel_rfl) rfl Tryz.underlying6 rfl rfl (by decide)
theorem tok7 : TypeOk Tryz.prog 7 ti7 := typeOk_of (z := (.agg #[.int .i64 0, .int .i64 0, .bool false, .int .u8 0])) (by kernel_rfl) rfl Tryz.underlying7 ⟨_, rfl, rfl⟩ rfl (by decide)
theorem tok8 : TypeOk Tryz.prog 8 ti8 := typeOk_of (z := (.agg #[.int .i64 0, .int .i64 0, .bool false, .int .u8 0])) (by kernel_rfl) rfl Tryz.underlying8 ⟨_, rfl, rfl⟩ rfl (by decide)
theorem tok9 : TypeOk Tryz.prog 9 ti9 := typeOk_of (z := (.string ⟨#[]⟩)) (by kernel_rfl) rfl Tryz.underlying9 rfl rfl (by decide)
theorem tok10 : TypeOk Tryz.prog 10 ti10 := typeOk_of (z := (.string ⟨#[]⟩)) (by kernel_rfl) rfl Tryz.underlying10 rfl rfl (by decide)
theorem tok11 : TypeOk Tryz.prog 11 ti11 := typeOk_of (z := (.string ⟨#[]⟩)) (by kernel_rfl) rfl Tryz.underlying11 rfl rfl (by decide)
theorem tok12 : TypeOk Tryz.prog 12 ti12 := typeOk_of (z := (.int .u64 0)) (by kernel_rfl) rfl Tryz.underlying12 rfl rfl (by decide)
theorem tok13 : TypeOk Tryz.prog 13 ti13 := typeOk_of (z := (.agg #[.string ⟨#[]⟩, .int .u64 0])) (by kernel_rfl) rfl Tryz.underlying13 ⟨_, rfl, rfl⟩ rfl (by decide)
theorem tok14 : TypeOk Tryz.prog 14 ti14 := typeOk_of (z := (.agg #[.string ⟨#[]⟩, .int .u64 0])) (by kernel_rfl) rfl Tryz.underlying14 ⟨_, rfl, rfl⟩ rfl (by decide)
theorem tok21 : TypeOk Tryz.prog 21 ti21 := typeOk_of (z := (.int .i32 0)) (by kernel_rfl) rfl Tryz.underlying21 rfl rfl (by decide)
theorem tok22 : TypeOk Tryz.prog 22 ti22 := typeOk_of (z := (.slice none 0 0)) (by kernel_rfl) rfl Tryz.underlying22 rfl rfl (by decide)
theorem tok23 : TypeOk Tryz.prog 23 ti23 := typeOk_of (z := (.slice none 0 0)) (by kernel_rfl) rfl Tryz.underlying23 rfl rfl (by decide)
theorem tok24 : TypeOk Tryz.prog 24 ti24 := typeOk_of (z := (.nilFunc)) (by kernel_rfl) rfl Tryz.underlying24 ⟨_, _, _, rfl⟩ rfl (by decide)
theorem tok25 : TypeOk Tryz.prog 25 ti25 := typeOk_of (z := (.nilFunc)) (by kernel_rfl) rfl Tryz.underlying25 ⟨_, _, _, rfl⟩ rfl (by decide)
theorem tok26 : TypeOk Tryz.prog 26 ti26 := typeOk_of (z := (.int .i64 0)) (by kernel_rfl) rfl Tryz.underlying26 rfl rfl (by decide)
theorem tok28 : TypeOk Tryz.prog 28 ti28 := typeOk_of (z := (.nilFunc)) (by kernel_rfl) rfl Tryz.underlying28 ⟨_, _, _, rfl⟩ rfl (by decide)
theorem tok29 : TypeOk Tryz.prog 29 ti29 := typeOk_of (z := (.nilFunc)) (by kernel_rfl) rfl Tryz.underlying29 ⟨_, _, _, rfl⟩ rfl (by decide)
theorem tok30 : TypeOk Tryz.prog 30 ti30 := typeOk_of (z := (.nilFunc)) (by kernel_rfl) rfl Tryz.underlying30 ⟨_, _, _, rfl⟩ rfl (by decide)
theorem tok32 : TypeOk Tryz.prog 32 ti32 := typeOk_of (z := (.nilFunc)) (by kernel_rfl) rfl Tryz.underlying32 ⟨_, _, _, rfl⟩ rfl (by decide)
theorem tok34 : TypeOk Tryz.prog 34 ti34 := typeOk_of (z := (.nilFunc)) (by kernel_rfl) rfl Tryz.underlying34 ⟨_, _, _, rfl⟩ rfl (by decide)
theorem tok35 : TypeOk Tryz.prog 35 ti35 := typeOk_of (z := (.nilFunc)) (by kernel_rfl) rfl Tryz.underlying35 ⟨_, _, _, rfl⟩ rfl (by decide)
theorem tok36 : TypeOk Tryz.prog 36 ti36 := typeOk_of (z := (.nilFunc)) (by kernel_rfl) rfl Tryz.underlying36 ⟨_, _, _, rfl⟩ rfl (by decide)
theorem tok37 : TypeOk Tryz.prog 37 ti37 := typeOk_of (z := (.agg #[.int .i64 0, .int .i64 0])) (by kernel_rfl) rfl Tryz.underlying37 ⟨_, rfl, rfl⟩ rfl (by decide)
theorem tok38 : TypeOk Tryz.prog 38 ti38 := typeOk_of (z := (.agg #[.int .i64 0, .int .i64 0])) (by kernel_rfl) rfl Tryz.underlying38 ⟨_, rfl, rfl⟩ rfl (by decide)
theorem tok40 : TypeOk Tryz.prog 40 ti40 := typeOk_of (z := (.nilFunc)) (by kernel_rfl) rfl Tryz.underlying40 ⟨_, _, _, rfl⟩ rfl (by decide)
theorem tok41 : TypeOk Tryz.prog 41 ti41 := typeOk_of (z := (.nilFunc)) (by kernel_rfl) rfl Tryz.underlying41 ⟨_, _, _, rfl⟩ rfl (by decide)
theorem tok43 : TypeOk Tryz.prog 43 ti43 := typeOk_of (z := (.nilFunc)) (by kernel_rfl) rfl Tryz.underlying43 ⟨_, _, _, rfl⟩ rfl (by decide)
theorem tok44 : TypeOk Tryz.prog 44 ti44 := typeOk_of (z := (.nilFunc)) (by kernel_rfl) rfl Tryz.underlying44 ⟨_, _, _, rfl⟩ rfl (by decide)
theorem tok45 : TypeOk Tryz.prog 45 ti45 := typeOk_of (z := (.nilFunc)) (by kernel_rfl) rfl Tryz.underlying45 ⟨_, _, _, rfl⟩ rfl (by decide)
theorem tok46 : TypeOk Tryz.prog 46 ti46 := typeOk_of (z := (.nilFunc)) (by kernel_rfl) rfl Tryz.underlying46 ⟨_, _, _, rfl⟩ rfl (by decide)
theorem tok47 : TypeOk Tryz.prog 47 ti47 := typeOk_of (z := (.nilFunc)) (by kernel_rfl) rfl Tryz.underlying47 ⟨_, _, _, rfl⟩ rfl (by decide)
theorem tok48 : TypeOk Tryz.prog 48 ti48 := typeOk_of (z := (.nilFunc)) (by kernel_rfl) rfl Tryz.underlying48 ⟨_, _, _, rfl⟩ rfl (by decide)
theorem tok49 : TypeOk Tryz.prog 49 ti49 := typeOk_of (z := (.nilFunc)) (by kernel_rfl) rfl Tryz.underlying49 ⟨_, _, _, rfl⟩ rfl (by decide)
theorem tok50 : TypeOk Tryz.prog 50 ti50 := typeOk_of (z := (.nilFunc)) (by kernel_rfl) rfl Tryz.underlying50 ⟨_, _, _, rfl⟩ rfl (by decide)
theorem tok51 : TypeOk Tryz.prog 51 ti51 := typeOk_of (z := (.slice none 0 0)) (by kernel_rfl) rfl Tryz.underlying51 rfl rfl (by decide)
theorem tok52 : TypeOk Tryz.prog 52 ti52 := typeOk_of (z := (.nilFunc)) (by kernel_rfl) rfl Tryz.underlying52 ⟨_, _, _, rfl⟩ rfl (by decide)
theorem tok53 : TypeOk Tryz.prog 53 ti53 := typeOk_of (z := (.nilFunc)) (by kernel_rfl) rfl Tryz.underlying53 ⟨_, _, _, rfl⟩ rfl (by decide)
theorem tok54 : TypeOk Tryz.prog 54 ti54 := typeOk_of (z := (.slice none 0 0)) (by kernel_rfl) rfl Tryz.underlying54 rfl rfl (by decide)
theorem tok56 : TypeOk Tryz.prog 56 ti56 := typeOk_of (z := (.nilFunc)) (by kernel_rfl) rfl Tryz.underlying56 ⟨_, _, _, rfl⟩ rfl (by decide)
theorem tok57 : TypeOk Tryz.prog 57 ti57 := typeOk_of (z := (.slice none 0 0)) (by kernel_rfl) rfl Tryz.underlying57 rfl rfl (by decide)
theorem tok58 : TypeOk Tryz.prog 58 ti58 := typeOk_of (z := (.nilFunc)) (by kernel_rfl) rfl Tryz.underlying58 ⟨_, _, _, rfl⟩ rfl (by decide)
theorem tok59 : TypeOk Tryz.prog 59 ti59 := typeOk_of (z := (.nilFunc)) (by kernel_rfl) rfl Tryz.underlying59 ⟨_, _, _, rfl⟩ rfl (by decide)
theorem tok60 : TypeOk Tryz.prog 60 ti60 := typeOk_of (z := (.nilFunc)) (by kernel_rfl) rfl Tryz.underlying60 ⟨_, _, _, rfl⟩ rfl (by decide)
theorem tok61 : TypeOk Tryz.prog 61 ti61 := typeOk_of (z := (.nilFunc)) (by kernel_rfl) rfl Tryz.underlying61 ⟨_, _, _, rfl⟩ rfl (by decide)
theorem tok62 : TypeOk Tryz.prog 62 ti62 := typeOk_of (z := (.slice none 0 0)) (by kernel_rfl) rfl Tryz.underlying62 rfl rfl (by decide)
theorem tok64 : TypeOk Tryz.prog 64 ti64 := typeOk_of (z := (.nilFunc)) (by kernel_rfl) rfl Tryz.underlying64 ⟨_, _, _, rfl⟩ rfl (by decide)
theorem tok65 : TypeOk Tryz.prog 65 ti65 := typeOk_of (z := (.slice none 0 0)) (by kernel_rfl) rfl Tryz.underlying65 rfl rfl (by decide)
theorem tok66 : TypeOk Tryz.prog 66 ti66 := typeOk_of (z := (.nilFunc)) (by kernel_rfl) rfl Tryz.underlying66 ⟨_, _, _, rfl⟩ rfl (by decide)
theorem tok67 : TypeOk Tryz.prog 67 ti67 := typeOk_of (z := (.nilFunc)) (by kernel_rfl) rfl Tryz.underlying67 ⟨_, _, _, rfl⟩ rfl (by decide)
theorem tok68 : TypeOk Tryz.prog 68 ti68 := typeOk_of (z := (.nilFunc)) (by kernel_rfl) rfl Tryz.underlying68 ⟨_, _, _, rfl⟩ rfl (by decide)
theorem tok69 : TypeOk Tryz.prog 69 ti69 := typeOk_of (z := (.slice none 0 0)) (by kernel_rfl) rfl Tryz.underlying69 rfl rfl (by decide)
theorem tok71 : TypeOk Tryz.prog 71 ti71 := typeOk_of (z := (.nilFunc)) (by kernel_rfl) rfl Tryz.underlying71 ⟨_, _, _, rfl⟩ rfl (by decide)
theorem tok72 : TypeOk Tryz.prog 72 ti72 := typeOk_of (z := (.nilFunc)) (by kernel_rfl) rfl Tryz.underlying72 ⟨_, _, _, rfl⟩ rfl (by decide)
theorem tok73 : TypeOk Tryz.prog 73 ti73 := typeOk_of (z := (.slice none 0 0)) (by kernel_rfl) rfl Tryz.underlying73 rfl rfl (by decide)
theorem tok74 : TypeOk Tryz.prog 74 ti74 := typeOk_of (z := (.agg #[.int .i64 0, .slice none 0 0])) (by kernel_rfl) rfl Tryz.underlying74 ⟨_, rfl, rfl⟩ rfl (by decide)
theorem tok75 : TypeOk Tryz.prog 75 ti75 := typeOk_of (z := (.agg #[.int .i64 0, .slice none 0 0])) (by kernel_rfl) rfl Tryz.underlying75 ⟨_, rfl, rfl⟩ rfl (by decide)
theorem tok76 : TypeOk Tryz.prog 76 ti76 := typeOk_of (z := (.agg #[.int .i64 0, .slice none 0 0, .int .i64 0, .slice none 0 0])) (by kernel_rfl) rfl Tryz.underlying76 ⟨_, rfl, rfl⟩ rfl (by decide)
theorem tok77 : TypeOk Tryz.prog 77 ti77 := typeOk_of (z := (.agg #[.int .i64 0, .slice none 0 0, .int .i64 0, .slice none 0 0])) (by kernel_rfl) rfl Tryz.underlying77 ⟨_, rfl, rfl⟩ rfl (by decide)
theorem tok79 : TypeOk Tryz.prog 79 ti79 := typeOk_of (z := (.nilFunc)) (by kernel_rfl) rfl Tryz.underlying79 ⟨_, _, _, rfl⟩ rfl (by decide)
theorem tok80 : TypeOk Tryz.prog 80 ti80 := typeOk_of (z := (.nilFunc)) (by kernel_rfl) rfl Tryz.underlying80 ⟨_, _, _, rfl⟩ rfl (by decide)
theorem tok81 : TypeOk Tryz.prog 81 ti81 := typeOk_of (z := (.nilFunc)) (by kernel_rfl) rfl Tryz.underlying81 ⟨_, _, _, rfl⟩ rfl (by decide)
theorem tok82 : TypeOk Tryz.prog 82 ti82 := typeOk_of (z := (.agg #[.int .i64 0, .bool false, .slice none 0 0])) (by kernel_rfl) rfl Tryz.underlying82 ⟨_, rfl, rfl⟩ rfl (by decide)
theorem tok83 : TypeOk Tryz.prog 83 ti83 := typeOk_of (z := (.agg #[.int .i64 0, .bool false, .slice none 0 0])) (by kernel_rfl) rfl Tryz.underlying83 ⟨_, rfl, rfl⟩ rfl (by decide)
theorem tok84 : TypeOk Tryz.prog 84 ti84 := typeOk_of (z := (.agg #[.int .i64 0, .bool false, .slice none 0 0, .int .i64 0, .bool false, .slice none 0 0])) (by kernel_rfl) rfl Tryz.underlying84 ⟨_, rfl, rfl⟩ rfl (by decide)
theorem tok85 : TypeOk Tryz.prog 85 ti85 := typeOk_of (z := (.agg #[.int .i64 0, .bool false, .slice none 0 0, .int .i64 0, .bool false, .slice none 0 0])) (by kernel_rfl) rfl Tryz.underlying85 ⟨_, rfl, rfl⟩ rfl (by decide)
theorem tok86 : TypeOk Tryz.prog 86 ti86 := typeOk_of (z := (.nilFunc)) (by kernel_rfl) rfl Tryz.underlying86 ⟨_, _, _, rfl⟩ rfl (by decide)
theorem tok87 : TypeOk Tryz.prog 87 ti87 := typeOk_of (z := (.nilFunc)) (by kernel_rfl) rfl Tryz.underlying87 ⟨_, _, _, rfl⟩ rfl (by decide)
theorem tok88 : TypeOk Tryz.prog 88 ti88 := typeOk_of (z := (.nilFunc)) (by kernel_rfl) rfl Tryz.underlying88 ⟨_, _, _, rfl⟩ rfl (by decide)
theorem tok89 : TypeOk Tryz.prog 89 ti89 := typeOk_of (z := (.nilFunc)) (by kernel_rfl) rfl Tryz.underlying89 ⟨_, _, _, rfl⟩ rfl (by decide)
theorem tok90 : TypeOk Tryz.prog 90 ti90 := typeOk_of (z := (.nilFunc)) (by kernel_rfl) rfl Tryz.underlying90 ⟨_, _, _, rfl⟩ rfl (by decide)
theorem tok91 : TypeOk Tryz.prog 91 ti91 := typeOk_of (z := (.nilFunc)) (by kernel_rfl) rfl Tryz.underlying91 ⟨_, _, _, rfl⟩ rfl (by decide)
theorem tok92 : TypeOk Tryz.prog 92 ti92 := typeOk_of (z := (.nilFunc)) (by kernel_rfl) rfl Tryz.underlying92 ⟨_, _, _, rfl⟩ rfl (by decide)
theorem tok93 : TypeOk Tryz.prog 93 ti93 := typeOk_of (z := (.nilFunc)) (by kernel_rfl) rfl Tryz.underlying93 ⟨_, _, _, rfl⟩ rfl (by decide)
theorem tok94 : TypeOk Tryz.prog 94 ti94 := typeOk_of (z := (.nilFunc)) (by kernel_rfl) rfl Tryz.underlying94 ⟨_, _, _, rfl⟩ rfl (by decide)
theorem tok95 : TypeOk Tryz.prog 95 ti95 := typeOk_of (z := (.nilFunc)) (by kernel_rfl) rfl Tryz.underlying95 ⟨_, _, _, rfl⟩ rfl (by decide)
theorem tok96 : TypeOk Tryz.prog 96 ti96 := typeOk_of (z := (.nilFunc)) (by kernel_rfl) rfl Tryz.underlying96 ⟨_, _, _, rfl⟩ rfl (by decide)
theorem tok97 : TypeOk Tryz.prog 97 ti97 := typeOk_of (z := (.nilFunc)) (by kernel_rfl) rfl Tryz.underlying97 ⟨_, _, _, rfl⟩ rfl (by decide)
theorem tok98 : TypeOk Tryz.prog 98 ti98 := typeOk_of (z := (.int .u64 0)) (by kernel_rfl) rfl Tryz.underlying98 rfl rfl (by decide)
theorem tok99 : TypeOk Tryz.prog 99 ti99 := typeOk_of (z := (.nilFunc)) (by kernel_rfl) rfl Tryz.underlying99 ⟨_, _, _, rfl⟩ rfl (by decide)
theorem tok100 : TypeOk Tryz.prog 100 ti100 := typeOk_of (z := (.nilFunc)) (by kernel_rfl) rfl Tryz.underlying100 ⟨_, _, _, rfl⟩ rfl (by decide)
theorem tok101 : TypeOk Tryz.prog 101 ti101 := typeOk_of (z := (.nilFunc)) (by kernel_rfl) rfl Tryz.underlying101 ⟨_, _, _, rfl⟩ rfl (by decide)
theorem tok102 : TypeOk Tryz.prog 102 ti102 := typeOk_of (z := (.nilFunc)) (by kernel_rfl) rfl Tryz.underlying102 ⟨_, _, _, rfl⟩ rfl (by decide)
theorem tok104 : TypeOk Tryz.prog 104 ti104 := typeOk_of (z := (.nilFunc)) (by kernel_rfl) rfl Tryz.underlying104 ⟨_, _, _, rfl⟩ rfl (by decide)
theorem tok105 : TypeOk Tryz.prog 105 ti105 := typeOk_of (z := (.nilFunc)) (by kernel_rfl) rfl Tryz.underlying105 ⟨_, _, _, rfl⟩ rfl (by decide)
theorem tok106 : TypeOk Tryz.prog 106 ti106 := typeOk_of (z := (.nilFunc)) (by kernel_rfl) rfl Tryz.underlying106 ⟨_, _, _, rfl⟩ rfl (by decide)
theorem tok107 : TypeOk Tryz.prog 107 ti107 := typeOk_of (z := (.nilFunc)) (by kernel_rfl) rfl Tryz.underlying107 ⟨_, _, _, rfl⟩ rfl (by decide)
theorem tok108 : TypeOk Tryz.prog 108 ti108 := typeOk_of (z := (.nilFunc)) (by kernel_rfl) rfl Tryz.underlying108 ⟨_, _, _, rfl⟩ rfl (by decide)
theorem tok109 : TypeOk Tryz.prog 109 ti109 := typeOk_of (z := (.nilFunc)) (by kernel_rfl) rfl Tryz.underlying109 ⟨_, _, _, rfl⟩ rfl (by decide)
theorem tok110 : TypeOk Tryz.prog 110 ti110 := typeOk_of (z := (.nilFunc)) (by kernel_rfl) rfl Tryz.underlying110 ⟨_, _, _, rfl⟩ rfl (by decide)
theorem tok111 : TypeOk Tryz.prog 111 ti111 := typeOk_of (z := (.nilFunc)) (by kernel_rfl) rfl Tryz.underlying111 ⟨_, _, _, rfl⟩ rfl (by decide)
theorem tok112 : TypeOk Tryz.prog 112 ti112 := typeOk_of (z := (.nilFunc)) (by kernel_rfl) rfl Tryz.underlying112 ⟨_, _, _, rfl⟩ rfl (by decide)
theorem tok113 : TypeOk Tryz.prog 113 ti113 := typeOk_of (z := (.nilFunc)) (by kernel_rfl) rfl Tryz.underlying113 ⟨_, _, _, rfl⟩ rfl (by decide)
theorem tok114 : TypeOk Tryz.prog 114 ti114 := typeOk_of (z := (.nilFunc)) (by kernel_rfl) rfl Tryz.underlying114 ⟨_, _, _, rfl⟩ rfl (by decide)
theorem tok115 : TypeOk Tryz.prog 115 ti115 := typeOk_of (z := (.nilFunc)) (by kernel_rfl) rfl Tryz.underlying115 ⟨_, _, _, rfl⟩ rfl (by decide)
theorem tok116 : TypeOk Tryz.prog 116 ti116 := typeOk_of (z := (.nilFunc)) (by kernel_rfl) rfl Tryz.underlying116 ⟨_, _, _, rfl⟩ rfl (by decide)
theorem tok117 : TypeOk Tryz.prog 117 ti117 := typeOk_of (z := (.nilFunc)) (by kernel_rfl) rfl Tryz.underlying117 ⟨_, _, _, rfl⟩ rfl (by decide)
theorem tok118 : TypeOk Tryz.prog 118 ti118 := typeOk_of (z := (.nilFunc)) (by kernel_rfl) rfl Tryz.underlying118 ⟨_, _, _, rfl⟩ rfl (by decide)
theorem tok120 : TypeOk Tryz.prog 120 ti120 := typeOk_of (z := (.nilFunc)) (by kernel_rfl) rfl Tryz.underlying120 ⟨_, _, _, rfl⟩ rfl (by decide)
theorem tok121 : TypeOk Tryz.prog 121 ti121 := typeOk_of (z := (.nilFunc)) (by kernel_rfl) rfl Tryz.underlying121 ⟨_, _, _, rfl⟩ rfl (by decide)
theorem tok122 : TypeOk Tryz.prog 122 ti122 := typeOk_of (z := (.nilFunc)) (by kernel_rfl) rfl Tryz.underlying122 ⟨_, _, _, rfl⟩ rfl (by decide)
theorem tok123 : TypeOk Tryz.prog 123 ti123 := typeOk_of (z := (.nilFunc)) (by kernel_rfl) rfl Tryz.underlying123 ⟨_, _, _, rfl⟩ rfl (by decide)
theorem tok124 : TypeOk Tryz.prog 124 ti124 := typeOk_of (z := (.nilFunc)) (by kernel_rfl) rfl Tryz.underlying124 ⟨_, _, _, rfl⟩ rfl (by decide)
theorem tok125 : TypeOk Tryz.prog 125 ti125 := typeOk_of (z := (.int .u32 0)) (by kernel_rfl) rfl Tryz.underlying125 rfl rfl (by decide)
theorem tok126 : TypeOk Tryz.prog 126 ti126 := typeOk_of (z := (.nilFunc)) (by kernel_rfl) rfl Tryz.underlying126 ⟨_, _, _, rfl⟩ rfl (by decide)
theorem tok127 : TypeOk Tryz.prog 127 ti127 := typeOk_of (z := (.int .u64 0)) (by kernel_rfl) rfl Tryz.underlying127 rfl rfl (by decide)
theorem tok128 : TypeOk Tryz.prog 128 ti128 := typeOk_of (z := (.nilFunc)) (by kernel_rfl) rfl Tryz.underlying128 ⟨_, _, _, rfl⟩ rfl (by decide)
theorem tok129 : TypeOk Tryz.prog 129 ti129 := typeOk_of (z := (.nilFunc)) (by kernel_rfl) rfl Tryz.underlying129 ⟨_, _, _, rfl⟩ rfl (by decide)
theorem tok130 : TypeOk Tryz.prog 130 ti130 := typeOk_of (z := (.nilFunc)) (by kernel_rfl) rfl Tryz.underlying130 ⟨_, _, _, rfl⟩ rfl (by decide)
theorem tok131 : TypeOk Tryz.prog 131 ti131 := typeOk_of (z := (.nilFunc)) (by kernel_rfl) rfl Tryz.underlying131 ⟨_, _, _, rfl⟩ rfl (by decide)
theorem tok132 : TypeOk Tryz.prog 132 ti132 := typeOk_of (z := (.nilFunc)) (by kernel_rfl) rfl Tryz.underlying132 ⟨_, _, _, rfl⟩ rfl (by decide)
theorem tok133 : TypeOk Tryz.prog 133 ti133 := typeOk_of (z := (.nilFunc)) (by kernel_rfl) rfl Tryz.underlying133 ⟨_, _, _, rfl⟩ rfl (by decide)
theorem tok134 : TypeOk Tryz.prog 134 ti134 := typeOk_of (z := (.nilFunc)) (by kernel_rfl) rfl Tryz.underlying134 ⟨_, _, _, rfl⟩ rfl (by decide)
theorem tok135 : TypeOk Tryz.prog 135 ti135 := typeOk_of (z := (.nilFunc)) (by kernel_rfl) rfl Tryz.underlying135 ⟨_, _, _, rfl⟩ rfl (by decide)
theorem tok136 : TypeOk Tryz.prog 136 ti136 := typeOk_of (z := (.nilFunc)) (by kernel_rfl) rfl Tryz.underlying136 ⟨_, _, _, rfl⟩ rfl (by decide)
theorem tok137 : TypeOk Tryz.prog 137 ti137 := typeOk_of (z := (.nilFunc)) (by kernel_rfl) rfl Tryz.underlying137 ⟨_, _, _, rfl⟩ rfl (by decide)
theorem tok138 : TypeOk Tryz.prog 138 ti138 := typeOk_of (z := (.nilFunc)) (by kernel_rfl) rfl Tryz.underlying138 ⟨_, _, _, rfl⟩ rfl (by decide)
theorem tok139 : TypeOk Tryz.prog 139 ti139 := typeOk_of (z := (.nilFunc)) (by kernel_rfl) rfl Tryz.underlying139 ⟨_, _, _, rfl⟩ rfl (by decide)
theorem tok140 : TypeOk Tryz.prog 140 ti140 := typeOk_of (z := (.nilFunc)) (by kernel_rfl) rfl Tryz.underlying140 ⟨_, _, _, rfl⟩ rfl (by decide)
theorem tok142 : TypeOk Tryz.prog 142 ti142 := typeOk_of (z := (.nilFunc)) (by kernel_rfl) rfl Tryz.underlying142 ⟨_, _, _, rfl⟩ rfl (by decide)
theorem tok144 : TypeOk Tryz.prog 144 ti144 := typeOk_of (z := (.nilFunc)) (by kernel_rfl) rfl Tryz.underlying144 ⟨_, _, _, rfl⟩ rfl (by decide)
theorem tok145 : TypeOk Tryz.prog 145 ti145 := typeOk_of (z := (.nilFunc)) (by kernel_rfl) rfl Tryz.underlying145 ⟨_, _, _, rfl⟩ rfl (by decide)
theorem tok146 : TypeOk Tryz.prog 146 ti146 := typeOk_of (z := (.nilFunc)) (by kernel_rfl) rfl Tryz.underlying146 ⟨_, _, _, rfl⟩ rfl (by decide)
theorem tok148 : TypeOk Tryz.prog 148 ti148 := typeOk_of (z := (.nilFunc)) (by kernel_rfl) rfl Tryz.underlying148 ⟨_, _, _, rfl⟩ rfl (by decide)
theorem tok150 : TypeOk Tryz.prog 150 ti150 := typeOk_of (z := (.nilFunc)) (by kernel_rfl) rfl Tryz.underlying150 ⟨_, _, _, rfl⟩ rfl (by decide)
theorem tok151 : TypeOk Tryz.prog 151 ti151 := typeOk_of (z := (.nilFunc)) (by kernel_rfl) rfl Tryz.underlying151 ⟨_, _, _, rfl⟩ rfl (by decide)
theorem tok152 : TypeOk Tryz.prog 152 ti152 := typeOk_of (z := (.nilFunc)) (by kernel_rfl) rfl Tryz.underlying152 ⟨_, _, _, rfl⟩ rfl (by decide)
theorem tok153 : TypeOk Tryz.prog 153 ti153 := typeOk_of (z := (.nilFunc)) (by kernel_rfl) rfl Tryz.underlying153 ⟨_, _, _, rfl⟩ rfl (by decide)
theorem tok154 : TypeOk Tryz.prog 154 ti154 := typeOk_of (z := (.nilFunc)) (by kernel_rfl) rfl Tryz.underlying154 ⟨_, _, _, rfl⟩ rfl (by decide)
theorem tok155 : TypeOk Tryz.prog 155 ti155 := typeOk_of (z := (.nilFunc)) (by kernel_rfl) rfl Tryz.underlying155 ⟨_, _, _, rfl⟩ rfl (by decide)
theorem tok157 : TypeOk Tryz.prog 157 ti157 := typeOk_of (z := (.nilFunc)) (by kernel_rfl) rfl Tryz.underlying157 ⟨_, _, _, rfl⟩ rfl (by decide)
theorem tok159 : TypeOk Tryz.prog 159 ti159 := typeOk_of (z := (.nilFunc)) (by kernel_rfl) rfl Tryz.underlying159 ⟨_, _, _, rfl⟩ rfl (by decide)
theorem tok161 : TypeOk Tryz.prog 161 ti161 := typeOk_of (z := (.nilFunc)) (by kernel_rfl) rfl Tryz.underlying161 ⟨_, _, _, rfl⟩ rfl (by decide)
theorem tok162 : TypeOk Tryz.prog 162 ti162 := typeOk_of (z := (.nilFunc)) (by kernel_rfl) rfl Tryz.underlying162 ⟨_, _, _, rfl⟩ rfl (by decide)
theorem tok164 : TypeOk Tryz.prog 164 ti164 := typeOk_of (z := (.nilFunc)) (by kernel_rfl) rfl Tryz.underlying164 ⟨_, _, _, rfl⟩ rfl (by decide)
theorem tok165 : TypeOk Tryz.prog 165 ti165 := typeOk_of (z := (.nilFunc)) (by kernel_rfl) rfl Tryz.underlying165 ⟨_, _, _, rfl⟩ rfl (by decide)
theorem tok167 : TypeOk Tryz.prog 167 ti167 := typeOk_of (z := (.nilFunc)) (by kernel_rfl) rfl Tryz.underlying167 ⟨_, _, _, rfl⟩ rfl (by decide)
theorem tok168 : TypeOk Tryz.prog 168 ti168 := typeOk_of (z := (.nilFunc)) (by kernel_rfl) rfl Tryz.underlying168 ⟨_, _, _, rfl⟩ rfl (by decide)
theorem tok169 : TypeOk Tryz.prog 169 ti169 := typeOk_of (z := (.nilFunc)) (by kernel_rfl) rfl Tryz.underlying169 ⟨_, _, _, rfl⟩ rfl (by decide)
theorem tok173 : TypeOk Tryz.prog 173 ti173 := typeOk_of (z := (.nilFunc)) (by kernel_rfl) rfl Tryz.underlying173 ⟨_, _, _, rfl⟩ rfl (by decide)
theorem tok179 : TypeOk Tryz.prog 179 ti179 := typeOk_of (z := (.int .u8 0)) (by kernel_rfl) rfl Tryz.underlying179 rfl rfl (by decide)
theorem tok180 : TypeOk Tryz.prog 180 ti180 := typeOk_of (z := (.int .u8 0)) (by kernel_rfl) rfl Tryz.underlying180 rfl rfl (by decide)
theorem tok181 : TypeOk Tryz.prog 181 ti181 := typeOk_of (z := (.nilFunc)) (by kernel_rfl) rfl Tryz.underlying181 ⟨_, _, _, rfl⟩ rfl (by decide)
theorem tok183 : TypeOk Tryz.prog 183 ti183 := typeOk_of (z := (.int .i32 0)) (by kernel_rfl) rfl Tryz.underlying183 rfl rfl (by decide)
theorem tok184 : TypeOk Tryz.prog 184 ti184 := typeOk_of (z := (.int .i32 0)) (by kernel_rfl) rfl Tryz.underlying184 rfl rfl (by decide)
theorem tok187 : TypeOk Tryz.prog 187 ti187 := typeOk_of (z := (.agg #[.string ⟨#[]⟩])) (by kernel_rfl) rfl Tryz.underlying187 ⟨_, rfl, rfl⟩ rfl (by decide)
theorem tok188 : TypeOk Tryz.prog 188 ti188 := typeOk_of (z := (.agg #[.string ⟨#[]⟩])) (by kernel_rfl) rfl Tryz.underlying188 ⟨_, rfl, rfl⟩ rfl (by decide)
def tbl : List (Nat × TI) := [(1, ti1), (2, ti2), (3, ti3), (4, ti4), (5, ti5), (6, ti6), (7, ti7), (8, ti8), (9, ti9), (10, ti10), (11, ti11), (12, ti12), (13, ti13), (14, ti14), (21, ti21), (22, ti22), (23, ti23), (24, ti24), (25, ti25), (26, ti26), (28, ti28), (29, ti29), (30, ti30), (32, ti32), (34, ti34), (35, ti35), (36, ti36), (37, ti37), (38, ti38), (40, ti40), (41, ti41), (43, ti43), (44, ti44), (45, ti45), (46, ti46), (47, ti47), (48, ti48), (49, ti49), (50, ti50), (51, ti51), (52, ti52), (53, ti53), (54, ti54), (56, ti56), (57, ti57), (58, ti58), (59, ti59), (60, ti60), (61, ti61), (62, ti62), (64, ti64), (65, ti65), (66, ti66), (67, ti67), (68, ti68), (69, ti69), (71, ti71), (72, ti72), (73, ti73), (74, ti74), (75, ti75), (76, ti76), (77, ti77), (79, ti79), (80, ti80), (81, ti81), (82, ti82), (83, ti83), (84, ti84), (85, ti85), (86, ti86), (87, ti87), (88, ti88), (89, ti89), (90, ti90), (91, ti91), (92, ti92), (93, ti93), (94, ti94), (95, ti95), (96, ti96), (97, ti97), (98, ti98), (99, ti99), (100, ti100), (101, ti101), (102, ti102), (104, ti104), (105, ti105), (106, ti106), (107, ti107), (108, ti108), (109, ti109), (110, ti110), (111, ti111), (112, ti112), (113, ti113), (114, ti114), (115, ti115), (116, ti116), (117, ti117), (118, ti118), (120, ti120), (121, ti121), (122, ti122), (123, ti123), (124, ti124), (125, ti125), (126, ti126), (127, ti127), (128, ti128), (129, ti129), (130, ti130), (131, ti131), (132, ti132), (133, ti133), (134, ti134), (135, ti135), (136, ti136), (137, ti137), (138, ti138), (139, ti139), (140, ti140), (142, ti142), (144, ti144), (145, ti145), (146, ti146), (148, ti148), (150, ti150), (151, ti151), (152, ti152), (153, ti153), (154, ti154), (155, ti155), (157, ti157), (159, ti159), (161, ti161), (162, ti162), (164, ti164), (165, ti165), (167, ti167), (168, ti168), (169, ti169), (173, ti173), (179, ti179), (180, ti180), (181, ti181), (183, ti183), (184, ti184), (187, ti187), (188, ti188)]
def T : TT := getT tbl
theorem typesOk : TypesOk Tryz.prog T := typesOk_of (by simp only [tbl, List.forall_mem_cons]; exact ⟨tok1, tok2, tok3, tok4, tok5, tok6, tok7, tok8, tok9, tok10, tok11, tok12, tok13, tok14, tok21, tok22, tok23, tok24, tok25, tok26, tok28, tok29, tok30, tok32, tok34, tok35, tok36, tok37, tok38, tok40, tok41, tok43, tok44, tok45, tok46, tok47, tok48, tok49, tok50, tok51, tok52, tok53, tok54, tok56, tok57, tok58, tok59, tok60, tok61, tok62, tok64, tok65, tok66, tok67, tok68, tok69, tok71, tok72, tok73, tok74, tok75, tok76, tok77, tok79, tok80, tok81, tok82, tok83, tok84, tok85, tok86, tok87, tok88, tok89, tok90, tok91, tok92, tok93, tok94, tok95, tok96, tok97, tok98, tok99, tok100, tok101, tok102, tok104, tok105, tok106, tok107, tok108, tok109, tok110, tok111, tok112, tok113, tok114, tok115, tok116, tok117, tok118, tok120, tok121, tok122, tok123, tok124, tok125, tok126, tok127, tok128, tok129, tok130, tok131, tok132, tok133, tok134, tok135, tok136, tok137, tok138, tok139, tok140, tok142, tok144, tok145, tok146, tok148, tok150, tok151, tok152, tok153, tok154, tok155, tok157, tok159, tok161, tok162, tok164, tok165, tok167, tok168, tok169, tok173, tok179, tok180, tok181, tok183, tok184, tok187, tok188, by simp⟩)
end Go.Proofs.YtcmieifjephdcaaGreat
set_option linter.unusedVariables false
set_option linter.unusedSimpArgs false
set_option maxRecDepth 100000
namespace Go.Proofs.YtcmieifjephdcaaGreat
open Go.Ab Go.RowKit
abbrev E0 : TypeId → Bool := fun t => Nat.beq t 38
theorem trim_run (k : Nat) (ds : List Nat) (hk : k ≤ 2) (hl : ds.length < 4611686018427387904) : Run Tryz.prog T E0 (.call 146 [.sl k (ds.map d32)] (.sl (if k = 0 then 0 else 1) ((trim ds).map d32))) := by
 refine mkcall Tryz.func146 rfl rfl (Nat.le_of_ble_eq_true rfl) <| Rg 1 rfl <| Ua rfl rfl <| Wn <| WC.block <| WC.loopV (α := Nat × (List Nat)) (fun ⟨k1, es⟩ => [(0, .sl k1 (es.map d32))]) (fun ⟨k1, es⟩ => []) (fun ⟨k1, es⟩ n => (k1 = k ∨ k = 2 ∧ k1 = 1) ∧ trim es = trim ds ∧ es.length < 4611686018427387904) (fun ⟨k1, es⟩ => es.length) (k, ds) ⟨rfl, trivial⟩ trivial ⟨.inl rfl, rfl, hl⟩ ?_
 rintro ⟨k1, es⟩ n hF
 change WC _ _ _ _ _ [(0, .sl k1 (es.map d32))] ([]) n _
 obtain ⟨hk1, hds, hel⟩ := hF
 refine WC.assoc <| Rg 12 rfl <| Um rfl rfl <| WO.U (oLenM rfl rfl) rfl <| WO.U (oGtr rfl rfl) rfl <| WO.D (fun h5 => ?_) (fun h5 => ?_)
 rotate_left
 ·refine Um rfl rfl <| WO.K rfl rfl <| WO.K rfl rfl <| WO.K rfl rfl <| WO.K rfl rfl <| WO.K rfl rfl <| WO.K rfl rfl <| WO.K rfl rfl <| WO.U (oPkF rfl rfl) rfl <| Wn <| WC.cF rfl <| WC.exits <| loopR_exit <| after_exit rfl <| Rg 2 rfl <| Um rfl rfl <| Ua rfl rfl <| Nw [(2, _)] ⟨rfl, trivial⟩ <| WC.ret <| postW (n := 0) (.inr rfl) rfl ?_ (by simp)
  have ht : trim es = es := trim_done (by omega)
  rw [← hds, ht]
  rcases hk1 with rfl | ⟨rfl, rfl⟩
  ·have : k1 = 0 ∨ k1 = 1 ∨ k1 = 2 := by omega
   rcases this with rfl | rfl | rfl
   ·exact .same _
   ·exact .same _
   ·exact .two _
  ·exact .same _
 refine Um rfl rfl <| WO.Ug rfl (oMv rfl) rfl <| WO.Ug rfl (oMv rfl) rfl <| WO.Ug rfl (oLenM rfl rfl) rfl <| WO.Ug rfl (oSub64 rfl rfl (by omega)) rfl <| WO.Ug rfl (oIxM (j := es.length - 1) rfl rfl rfl rfl (by omega) (by omega) rfl) rfl <| WO.Ug rfl (oLd rfl rfl rfl) rfl <| WO.Ug rfl (oEql rfl rfl) rfl <| WO.D (fun h13 => ?_) (fun h13 => ?_)
 ·refine WO.U (oPkT rfl rfl) rfl <| Wn <| WC.cT rfl <| WC.skips <| WC.block1 <| WC.reg1z (z := 6) rfl <| Um rfl rfl <| Um rfl rfl <| WO.U (oLenM rfl rfl) rfl <| WO.U (oSub64 rfl rfl (by omega)) rfl <| WO.U (oSlH (j := es.length - 1) rfl rfl rfl rows_d32 rfl (by omega) (by simp)) rfl <| Ua rfl rfl <| Wn <| after0_normal <| loopR_normal <| ⟨⟨if k1 = 2 then 1 else k1, es.take (es.length - 1)⟩, ⟨congrArg some ?_, trivial⟩, trivial, ⟨?_, ?_, ?_⟩, ?_⟩
  ·have h9 : es.length - 1 < es.length := by omega
   simp [h9]
  ·split <;> omega
  ·rw [trim_step (by omega) (by omega)]; exact hds
  ·simp; omega
  ·simp; omega
 refine WO.U (oPkT rfl rfl) rfl <| Wn <| WC.cF rfl <| WC.exits <| loopR_exit <| after_exit rfl <| Rg 2 rfl <| Um rfl rfl <| Ua rfl rfl <| Nw [(2, _)] ⟨rfl, trivial⟩ <| WC.ret <| postW (n := 0) (.inr rfl) rfl ?_ (by simp)
 have ht : trim es = es := trim_done (by omega)
 rw [← hds, ht]
 rcases hk1 with rfl | ⟨rfl, rfl⟩
 ·have : k1 = 0 ∨ k1 = 1 ∨ k1 = 2 := by omega
  rcases this with rfl | rfl | rfl
  ·exact .same _
  ·exact .same _
  ·exact .two _
 ·exact .same _
theorem sign_run (v : Int) : Run Tryz.prog T E0 (.call 111 [lvI v] (.v (.int .i64 v.sign))) := by
 refine mkcall Tryz.func111 rfl rfl (Nat.le_of_ble_eq_true rfl) <| Rg 2 rfl <| WO.S (oBx rfl rfl) rfl <| Ua rfl rfl <| Wn <| WC.block <| Rg 4 rfl <| WO.U (oFaP rfl rfl rfl rfl rfl) rfl <| WO.U (oLdP rfl rfl rfl rfl rfl) rfl <| WO.U (oGtr rfl rfl) rfl <| WO.D (fun h6 => ?_) (fun h6 => ?_)
 ·refine Ua rfl rfl <| Wn <| WC.cT1 rfl <| Rg 1 rfl <| Ua rfl rfl <| Wn <| WC.ret <| after_ret <| post (n := 0) (.inr rfl) rfl (congrArg (fun z => LV.v (.int .i64 z)) ?_) (by simp)
  exact (Int.sign_eq_one_of_pos ((ia_pos v).1 h6)).symm
 refine Ua rfl rfl <| Wn <| WC.cF1 rfl <| Rg 4 rfl <| WO.U (oFaP rfl rfl rfl rfl rfl) rfl <| WO.U (oLdP rfl rfl rfl rfl rfl) rfl <| WO.U (oLss rfl rfl) rfl <| WO.D (fun h10 => ?_) (fun h10 => ?_)
 ·refine Ua rfl rfl <| Wn <| WC.cT1 rfl <| Rg 1 rfl <| Ua rfl rfl <| Wn <| WC.ret <| after_ret <| post (n := 0) (.inr rfl) rfl (congrArg (fun z => LV.v (.int .i64 z)) ?_) (by simp)
  exact (Int.sign_eq_neg_one_of_neg ((ia_neg v).1 h10)).symm
 refine Ua rfl rfl <| Wn <| WC.cF1 rfl <| WC.skip <| after_normal <| Rg 1 rfl <| Ua rfl rfl <| Wn <| WC.ret <| post (n := 0) (.inr rfl) rfl (congrArg (fun z => LV.v (.int .i64 z)) ?_) (by simp)
 have h1 := ia_pos v
 have h2 := ia_neg v
 have : v = 0 := by omega
 subst this; rfl
theorem neg_run (v : Int) : Run Tryz.prog T E0 (.call 117 [lvI v] (lvI (-v))) := by
 have hb := ia_bd v
 refine mkcall Tryz.func117 rfl rfl (Nat.le_of_ble_eq_true rfl) <| Rg 2 rfl <| WO.S (oBx rfl rfl) rfl <| WO.S (oAl rfl) rfl <| Wn <| Rg 7 rfl <| WO.U (oFaP rfl rfl rfl rfl rfl) rfl <| WO.U (oLdP rfl rfl rfl rfl rfl) rfl <| WO.U (oNeg64 rfl (by omega)) rfl <| WO.U (oFaP rfl rfl rfl rfl rfl) rfl <| WO.U (oLdP rfl rfl rfl rfl rfl) rfl <| WO.U (oBd (cs := [_, _]) rfl rfl rfl rfl rfl) rfl <| WO.S0 (oSt (cs' := [_, _]) rfl rfl rfl rfl rfl rfl rfl rfl) <| Wn <| WC.ret <| post (n := 0) (.inr rfl) rfl ?_ (by simp)
 simp only [lvI, ia_negate, ik_negate, idg_negate]; rfl
theorem abs_run (v : Int) : Run Tryz.prog T E0 (.call 127 [lvI v] (lvI v.natAbs)) := by
 refine mkcall Tryz.func127 rfl rfl (Nat.le_of_ble_eq_true rfl) <| Rg 2 rfl <| WO.S (oBx rfl rfl) rfl <| WO.S (oAl rfl) rfl <| Wn <| WC.assoc <| Rg 3 rfl <| WO.U (oFaP rfl rfl rfl rfl rfl) rfl <| WO.U (oLdP rfl rfl rfl rfl rfl) rfl <| WO.U (oLss rfl rfl) rfl <| WO.D (fun h5 => ?_) (fun h5 => ?_)
 rotate_left
 ·refine Wn <| WC.cF rfl <| WC.skips <| Rg 2 rfl <| WO.U (oLdP (l := .agg [_, _]) rfl rfl rfl rfl rfl) rfl <| WO.S0 (oSt (cs' := [_, _]) rfl rfl rfl rfl rfl rfl rfl rfl) <| Wn <| WC.ret <| post (n := 0) (.inr rfl) rfl ?_ (by simp)
  have h1 := ia_neg v
  have : (v.natAbs : Int) = v := by omega
  rw [this]; rfl
 refine Wn <| WC.cT rfl <| WC.assoc <| Rg 3 rfl <| WO.U (oLdP (l := .agg [_, _]) rfl rfl rfl rfl rfl) rfl <| WO.U (oCall rfl (neg_run _) (by simp)) rfl <| WO.S0 (oSt (cs' := [_, _]) rfl rfl rfl rfl rfl rfl rfl rfl) <| Wn <| WC.rets <| post (n := 0) (.inr rfl) rfl ?_ (by simp)
 have h1 := (ia_neg v).1 h5
 have : (v.natAbs : Int) = -v := by omega
 rw [this]; rfl
theorem one_run  : Run Tryz.prog T E0 (.call 120 [] (lvI 1)) := by
 refine mkcall Tryz.func120 rfl rfl (Nat.le_of_ble_eq_true rfl) <| Rg 1 rfl <| WO.S (oAl rfl) rfl <| Wn <| Rg 2 rfl <| WO.U (oBd (cs := [_, _]) rfl rfl rfl rfl rfl) rfl <| WO.S0 (oSt (cs' := [_, _]) rfl rfl rfl rfl rfl rfl rfl rfl) <| Wn <| WC.ret ?_
 exact post (n := 0) (.inr rfl) rfl rfl (by simp)
theorem of_run (v : Int) (hv : -9223372036854775808 ≤ v ∧ v ≤ 9223372036854775807) : Run Tryz.prog T E0 (.call 110 [.v (.int .i64 v)] (lvI v)) := by
 refine mkcall Tryz.func110 rfl rfl (Nat.le_of_ble_eq_true rfl) <| Rg 1 rfl <| WO.S (oAl rfl) rfl <| Wn <| WC.assoc <| Rg 6 rfl <| Um rfl rfl <| WO.U (oGtr rfl rfl) rfl <| WO.D (fun h6 => ?_) (fun h6 => ?_)
 rotate_left
 ·refine Um rfl rfl <| WO.K rfl rfl <| WO.K rfl rfl <| WO.U (oPkF rfl rfl) rfl <| Wn <| WC.cF rfl <| WC.skips <| Rg 1 rfl <| Ua rfl rfl <| Wn <| Rg 3 rfl <| Um rfl rfl <| WO.U (cI (v % 18446744073709551616) (oCnv rfl rfl rfl) (IntKind.wrap_u64 _)) rfl <| Ua rfl rfl <| Wn <| WC.assoc <| Rg 2 rfl <| Um rfl rfl <| WO.U (oLss rfl rfl) rfl <| WO.D (fun h16 => ?_) (fun h16 => ?_)
  rotate_left
  ·refine Wn <| WC.cF rfl <| WC.skips <| Rg 9 rfl <| Um rfl rfl <| Um rfl rfl <| WO.U (cI (((v.natAbs % 4294967296 : Nat) : Int)) (oCnv rfl rfl rfl) (by rw [IntKind.wrap_u32]; omega)) rfl <| Um rfl rfl <| WO.U (cI (((v.natAbs / 4294967296 : Nat) : Int)) (oShrU (s := 32) rfl rfl (by omega)) (by omega)) rfl <| WO.U (cI (((v.natAbs / 4294967296 : Nat) : Int)) (oCnv rfl rfl rfl) (by rw [IntKind.wrap_u32]; omega)) rfl <| WO.U (oBs' (cs := [_, _]) (rows := [[_], [_]]) rfl rfl (by decide) rfl rfl rfl) rfl <| WO.U (oBd (cs := [_, _]) rfl rfl rfl rfl rfl) rfl <| WO.S0 (oSt (cs' := [_, _]) rfl rfl rfl rfl rfl rfl rfl rfl) <| Nw [(2, _)] ⟨rfl, trivial⟩ <| WC.ret ?_
   omega
  refine Wn <| WC.cT rfl <| Rg 4 rfl <| Um rfl rfl <| WO.U (cI (((v.natAbs : Nat) : Int)) (oNeg rfl) (by rw [IntKind.wrap_u64]; omega)) rfl <| Ua rfl rfl <| Ua rfl rfl <| Nw [(2, _), (3, _), (4, _)] ⟨rfl, rfl, rfl, trivial⟩ <| Rg 9 rfl <| Um rfl rfl <| Um rfl rfl <| WO.U (cI (((v.natAbs % 4294967296 : Nat) : Int)) (oCnv rfl rfl rfl) (by rw [IntKind.wrap_u32]; omega)) rfl <| Um rfl rfl <| WO.U (cI (((v.natAbs / 4294967296 : Nat) : Int)) (oShrU (s := 32) rfl rfl (by omega)) (by omega)) rfl <| WO.U (cI (((v.natAbs / 4294967296 : Nat) : Int)) (oCnv rfl rfl rfl) (by rw [IntKind.wrap_u32]; omega)) rfl <| WO.U (oBs' (cs := [_, _]) (rows := [[_], [_]]) rfl rfl (by decide) rfl rfl rfl) rfl <| WO.U (oBd (cs := [_, _]) rfl rfl rfl rfl rfl) rfl <| WO.S0 (oSt (cs' := [_, _]) rfl rfl rfl rfl rfl rfl rfl rfl) <| Wn <| WC.ret <| postW (n := 0) (l := .agg [_, _]) (.inr rfl) rfl ?_ (by simp)
  have hns : ¬ small v := by unfold small; omega
  rw [lvI_big hns, Int.sign_eq_neg_one_of_neg h16, ← two_big (m := v.natAbs) (by omega) (by omega)]
  exact .int _ _
 refine Um rfl rfl <| WO.Ug rfl (oMv rfl) rfl <| WO.Ug rfl (oLss rfl rfl) rfl <| WO.D (fun h9 => ?_) (fun h9 => ?_)
 ·refine WO.U (oPkT rfl rfl) rfl <| Wn <| WC.cT rfl <| WC.assoc <| Rg 3 rfl <| Um rfl rfl <| WO.U (oBd (cs := [_, _]) rfl rfl rfl rfl rfl) rfl <| WO.S0 (oSt (cs' := [_, _]) rfl rfl rfl rfl rfl rfl rfl rfl) <| Wn <| WC.rets <| post (n := 0) (.inr rfl) rfl ?_ (by simp)
  rw [lvI_small ⟨h6, h9⟩]; rfl
 refine WO.U (oPkT rfl rfl) rfl <| Wn <| WC.cF rfl <| WC.skips <| Rg 1 rfl <| Ua rfl rfl <| Wn <| Rg 3 rfl <| Um rfl rfl <| WO.U (cI (v % 18446744073709551616) (oCnv rfl rfl rfl) (IntKind.wrap_u64 _)) rfl <| Ua rfl rfl <| Wn <| WC.assoc <| Rg 2 rfl <| Um rfl rfl <| WO.U (oLss rfl rfl) rfl <| WO.D (fun h16 => ?_) (fun h16 => ?_)
 rotate_left
 ·refine Wn <| WC.cF rfl <| WC.skips <| Rg 9 rfl <| Um rfl rfl <| Um rfl rfl <| WO.U (cI (((v.natAbs % 4294967296 : Nat) : Int)) (oCnv rfl rfl rfl) (by rw [IntKind.wrap_u32]; omega)) rfl <| Um rfl rfl <| WO.U (cI (((v.natAbs / 4294967296 : Nat) : Int)) (oShrU (s := 32) rfl rfl (by omega)) (by omega)) rfl <| WO.U (cI (((v.natAbs / 4294967296 : Nat) : Int)) (oCnv rfl rfl rfl) (by rw [IntKind.wrap_u32]; omega)) rfl <| WO.U (oBs' (cs := [_, _]) (rows := [[_], [_]]) rfl rfl (by decide) rfl rfl rfl) rfl <| WO.U (oBd (cs := [_, _]) rfl rfl rfl rfl rfl) rfl <| WO.S0 (oSt (cs' := [_, _]) rfl rfl rfl rfl rfl rfl rfl rfl) <| Nw [(2, _)] ⟨rfl, trivial⟩ <| WC.ret <| postW (n := 0) (l := .agg [_, _]) (.inr rfl) rfl ?_ (by simp)
  have hns : ¬ small v := by unfold small; omega
  rw [lvI_big hns, Int.sign_eq_one_of_pos (by omega), ← two_big (m := v.natAbs) (by omega) (by omega)]
  exact .int _ _
 refine Wn <| WC.cT rfl <| Rg 4 rfl <| Um rfl rfl <| WO.U (cI (((v.natAbs : Nat) : Int)) (oNeg rfl) (by rw [IntKind.wrap_u64]; omega)) rfl <| Ua rfl rfl <| Ua rfl rfl <| Nw [(2, _), (3, _), (4, _)] ⟨rfl, rfl, rfl, trivial⟩ <| Rg 9 rfl <| Um rfl rfl <| Um rfl rfl <| WO.U (cI (((v.natAbs % 4294967296 : Nat) : Int)) (oCnv rfl rfl rfl) (by rw [IntKind.wrap_u32]; omega)) rfl <| Um rfl rfl <| WO.U (cI (((v.natAbs / 4294967296 : Nat) : Int)) (oShrU (s := 32) rfl rfl (by omega)) (by omega)) rfl <| WO.U (cI (((v.natAbs / 4294967296 : Nat) : Int)) (oCnv rfl rfl rfl) (by rw [IntKind.wrap_u32]; omega)) rfl <| WO.U (oBs' (cs := [_, _]) (rows := [[_], [_]]) rfl rfl (by decide) rfl rfl rfl) rfl <| WO.U (oBd (cs := [_, _]) rfl rfl rfl rfl rfl) rfl <| WO.S0 (oSt (cs' := [_, _]) rfl rfl rfl rfl rfl rfl rfl rfl) <| Wn <| WC.ret <| postW (n := 0) (l := .agg [_, _]) (.inr rfl) rfl ?_ (by simp)
 have hns : ¬ small v := by unfold small; omega
 rw [lvI_big hns, Int.sign_eq_neg_one_of_neg h16, ← two_big (m := v.natAbs) (by omega) (by omega)]
 exact .int _ _
theorem int_run (v b : Int) (hb : 0 ≤ b ∧ b < 4611686018427387904) : Run Tryz.prog T E0 (.call 93 [lvI v, .v (.int .i64 b)] (.tup [.v (.int .i64 (if -b ≤ v ∧ v ≤ b then v else 0)), .v (.bool (decide (-b ≤ v ∧ v ≤ b)))])) := by
 refine mkcall Tryz.func93 rfl rfl (Nat.le_of_ble_eq_true rfl) <| Rg 3 rfl <| WO.S (oBx rfl rfl) rfl <| Ua rfl rfl <| Ua rfl rfl <| Wn <| WC.assoc <| Rg 16 rfl <| WO.U (oFaP rfl rfl rfl rfl rfl) rfl <| WO.U (oLdP rfl rfl rfl rfl rfl) rfl <| WO.U (oNilN rfl rfl) rfl <| WO.B (fun h8 => ?_) (fun h8 => ?_)
 ·refine Um rfl rfl <| WO.K rfl rfl <| WO.K rfl rfl <| WO.K rfl rfl <| WO.K rfl rfl <| WO.U (oPkT rfl rfl) rfl <| Um rfl rfl <| WO.K rfl rfl <| WO.K rfl rfl <| WO.K rfl rfl <| WO.K rfl rfl <| WO.K rfl rfl <| WO.U (oPkT rfl rfl) rfl <| Nw [(2, _), (21, _)] ⟨rfl, rfl, trivial⟩ <| WC.cT rfl <| WC.assoc <| Rg 2 rfl <| Ua rfl rfl <| Ua rfl rfl <| Wn <| WC.rets <| post (n := 0) (.inr rfl) rfl ?_ (by simp)
  have hs := ik_eq'.1 h8
  have hn : ¬ (-b ≤ v ∧ v ≤ b) := by unfold small at hs; omega
  rw [if_neg hn, decide_eq_false hn]; rfl
 refine Um rfl rfl <| WO.Ug rfl (oFaP rfl rfl rfl rfl rfl) rfl <| WO.Ug rfl (oLdP rfl rfl rfl rfl rfl) rfl <| WO.Ug rfl (oMv rfl) rfl <| WO.Ug rfl (oGtr rfl rfl) rfl <| WO.D (fun h13 => ?_) (fun h13 => ?_)
 ·refine WO.U (oPkF rfl rfl) rfl <| Um rfl rfl <| WO.K rfl rfl <| WO.K rfl rfl <| WO.K rfl rfl <| WO.K rfl rfl <| WO.K rfl rfl <| WO.U (oPkT rfl rfl) rfl <| Nw [(2, _), (21, _)] ⟨rfl, rfl, trivial⟩ <| WC.cT rfl <| WC.assoc <| Rg 2 rfl <| Ua rfl rfl <| Ua rfl rfl <| Wn <| WC.rets <| post (n := 0) (.inr rfl) rfl ?_ (by simp)
  have hs := ia_small (ik_ne'.1 h8)
  have hn : ¬ (-b ≤ v ∧ v ≤ b) := by omega
  rw [if_neg hn, decide_eq_false hn]; rfl
 refine WO.U (oPkF rfl rfl) rfl <| Um rfl rfl <| WO.Ug rfl (oFaP rfl rfl rfl rfl rfl) rfl <| WO.Ug rfl (oLdP rfl rfl rfl rfl rfl) rfl <| WO.Ug rfl (oMv rfl) rfl <| WO.Ug rfl (oNeg64 rfl (by omega)) rfl <| WO.Ug rfl (oLss rfl rfl) rfl <| WO.D (fun h20 => ?_) (fun h20 => ?_)
 ·refine WO.U (oPkF rfl rfl) rfl <| Nw [(2, _), (21, _)] ⟨rfl, rfl, trivial⟩ <| WC.cT rfl <| WC.assoc <| Rg 2 rfl <| Ua rfl rfl <| Ua rfl rfl <| Wn <| WC.rets <| post (n := 0) (.inr rfl) rfl ?_ (by simp)
  have hs := ia_small (ik_ne'.1 h8)
  have hn : ¬ (-b ≤ v ∧ v ≤ b) := by omega
  rw [if_neg hn, decide_eq_false hn]; rfl
 refine WO.U (oPkF rfl rfl) rfl <| Nw [(2, _), (21, _)] ⟨rfl, rfl, trivial⟩ <| WC.cF rfl <| WC.skips <| Rg 4 rfl <| WO.U (oFaP rfl rfl rfl rfl rfl) rfl <| WO.U (oLdP rfl rfl rfl rfl rfl) rfl <| Ua rfl rfl <| Ua rfl rfl <| Wn <| WC.ret <| post (n := 0) (.inr rfl) rfl ?_ (by simp)
 have hs := ia_small (ik_ne'.1 h8)
 have hn : -b ≤ v ∧ v ≤ b := by omega
 rw [if_pos hn, decide_eq_true hn]
 exact congrArg (fun z => LV.tup [.v (.int .i64 z), .v (.bool true)]) hs
theorem digits_run (v : Int) : Run Tryz.prog T E0 (.call 133 [lvI v] (.tup [.v (.int .i64 v.sign), .sl 1 ((dgs B32 v.natAbs).map d32)])) := by
 have hb := ia_bd v
 refine mkcall Tryz.func133 rfl rfl (Nat.le_of_ble_eq_true rfl) <| Rg 3 rfl <| WO.S (oBx rfl rfl) rfl <| Ua rfl rfl <| Ua rfl rfl <| Wn <| WC.assoc <| Rg 3 rfl <| WO.U (oFaP rfl rfl rfl rfl rfl) rfl <| WO.U (oLdP rfl rfl rfl rfl rfl) rfl <| WO.U (oNilN rfl rfl) rfl <| WO.B (fun h8 => ?_) (fun h8 => ?_)
 ·refine Wn <| WC.cT rfl <| WC.assoc <| WC.draw (z := 6) rfl (by kernel_rfl) <| WD.U (oFaP rfl rfl rfl rfl rfl) rfl <| WD.U (oLdP rfl rfl rfl rfl rfl) rfl <| WD.U (oFaP rfl rfl rfl rfl rfl) rfl <| WD.U (oLdP rfl rfl rfl rfl rfl) rfl <| WD.U (oAs rfl) rfl <| WD.U (oAs rfl) rfl <| WD.nil (drawOk_of (by kernel_rfl)) rfl <| WC.rets <| post (n := 0) (.inr rfl) rfl ?_ (by simp)
  have hs := ik_eq'.1 h8
  rw [ia_big hs, ik_big hs, idg_big hs]; rfl
 have hs := ik_ne'.1 h8
 have hia := ia_small hs
 refine Wn <| WC.cF rfl <| WC.skips <| Rg 2 rfl <| Ua rfl rfl <| Ua rfl rfl <| Wn <| WC.block <| Rg 4 rfl <| WO.U (oFaP rfl rfl rfl rfl rfl) rfl <| WO.U (oLdP rfl rfl rfl rfl rfl) rfl <| WO.U (oGtr rfl rfl) rfl <| WO.D (fun h16 => ?_) (fun h16 => ?_)
 ·refine Ua rfl rfl <| Wn <| WC.cT1 rfl <| WC.draw1z (z := 5) rfl (by kernel_rfl) <| WD.U (oFaP rfl rfl rfl rfl rfl) rfl <| WD.U (oLdP rfl rfl rfl rfl rfl) rfl <| WD.U (cI (((v.natAbs : Nat) : Int)) (oCnv rfl rfl rfl) (by rw [IntKind.wrap_u64]; omega)) rfl <| WD.U (oAs rfl) rfl <| WD.U (oAs rfl) rfl <| WD.nil (drawOk_of (by kernel_rfl)) rfl <| after_normal <| WC.weak [(4, _), (5, _)] ⟨rfl, rfl, trivial⟩ <| Rg 10 rfl <| Um rfl rfl <| Um rfl rfl <| WO.U (cI (((v.natAbs % 4294967296 : Nat) : Int)) (oCnv rfl rfl rfl) (by rw [IntKind.wrap_u32]; omega)) rfl <| Um rfl rfl <| WO.U (cI (((v.natAbs / 4294967296 : Nat) : Int)) (oShrU (s := 32) rfl rfl (by omega)) (by omega)) rfl <| WO.U (cI (((v.natAbs / 4294967296 : Nat) : Int)) (oCnv rfl rfl rfl) (by rw [IntKind.wrap_u32]; omega)) rfl <| WO.U (oBs' (cs := [_, _]) (rows := [[_], [_]]) rfl rfl (by decide) rfl rfl rfl) rfl <| WO.U (oCall rfl (trim_run 2 [v.natAbs % 4294967296, v.natAbs / 4294967296] (by omega) (by simp)) (by simp)) rfl <| Ua rfl rfl <| Ua rfl rfl <| WO.nil ?_
  refine WC.ret <| post (n := 0) (.inr rfl) rfl ?_ (by simp)
  rw [← two_dg (m := v.natAbs) (by omega), Int.sign_eq_one_of_pos (by omega)]; rfl
 refine Ua rfl rfl <| Wn <| WC.cF1 rfl <| Rg 4 rfl <| WO.U (oFaP rfl rfl rfl rfl rfl) rfl <| WO.U (oLdP rfl rfl rfl rfl rfl) rfl <| WO.U (oLss rfl rfl) rfl <| WO.D (fun h23 => ?_) (fun h23 => ?_)
 rotate_left
 ·refine Ua rfl rfl <| Nw [(1, _), (4, _), (5, _), (20, _)] ⟨rfl, rfl, rfl, rfl, trivial⟩ <| WC.cF1 rfl <| WC.skip <| after_normal <| Rg 10 rfl <| Um rfl rfl <| Um rfl rfl <| WO.U (cI (((v.natAbs % 4294967296 : Nat) : Int)) (oCnv rfl rfl rfl) (by rw [IntKind.wrap_u32]; omega)) rfl <| Um rfl rfl <| WO.U (cI (((v.natAbs / 4294967296 : Nat) : Int)) (oShrU (s := 32) rfl rfl (by omega)) (by omega)) rfl <| WO.U (cI (((v.natAbs / 4294967296 : Nat) : Int)) (oCnv rfl rfl rfl) (by rw [IntKind.wrap_u32]; omega)) rfl <| WO.U (oBs' (cs := [_, _]) (rows := [[_], [_]]) rfl rfl (by decide) rfl rfl rfl) rfl <| WO.U (oCall rfl (trim_run 2 [v.natAbs % 4294967296, v.natAbs / 4294967296] (by omega) (by simp)) (by simp)) rfl <| Ua rfl rfl <| Ua rfl rfl <| Wn <| WC.ret <| post (n := 0) (.inr rfl) rfl ?_ (by simp)
  have h0 : v = 0 := by omega
  rw [← two_dg (m := v.natAbs) (by omega)]
  subst h0; rfl
 refine Ua rfl rfl <| Nw [(1, _), (4, _), (5, _), (20, _)] ⟨rfl, rfl, rfl, rfl, trivial⟩ <| WC.cT1 rfl <| WC.draw1z (z := 6) rfl (by kernel_rfl) <| WD.U (oFaP rfl rfl rfl rfl rfl) rfl <| WD.U (oLdP rfl rfl rfl rfl rfl) rfl <| WD.U (oNeg64 rfl (by omega)) rfl <| WD.U (cI (((v.natAbs : Nat) : Int)) (oCnv rfl rfl rfl) (by rw [IntKind.wrap_u64]; omega)) rfl <| WD.U (oAs rfl) rfl <| WD.U (oAs rfl) rfl <| WD.nil (drawOk_of (by kernel_rfl)) rfl <| after_normal <| Rg 10 rfl <| Um rfl rfl <| Um rfl rfl <| WO.U (cI (((v.natAbs % 4294967296 : Nat) : Int)) (oCnv rfl rfl rfl) (by rw [IntKind.wrap_u32]; omega)) rfl <| Um rfl rfl <| WO.U (cI (((v.natAbs / 4294967296 : Nat) : Int)) (oShrU (s := 32) rfl rfl (by omega)) (by omega)) rfl <| WO.U (cI (((v.natAbs / 4294967296 : Nat) : Int)) (oCnv rfl rfl rfl) (by rw [IntKind.wrap_u32]; omega)) rfl <| WO.U (oBs' (cs := [_, _]) (rows := [[_], [_]]) rfl rfl (by decide) rfl rfl rfl) rfl <| WO.U (oCall rfl (trim_run 2 [v.natAbs % 4294967296, v.natAbs / 4294967296] (by omega) (by simp)) (by simp)) rfl <| Ua rfl rfl <| Ua rfl rfl ?_
 refine Nw [(2, _), (3, _)] ⟨rfl, rfl, trivial⟩ <| WC.ret <| post (n := 0) (.inr rfl) rfl ?_ (by simp)
 rw [← two_dg (m := v.natAbs) (by omega), Int.sign_eq_neg_one_of_neg (by omega)]; rfl
theorem add32_run (x y c : Nat) (hx : x < 4294967296) (hy : y < 4294967296) (hc : c ≤ 1) : Run Tryz.prog T E0 (.call 147 [.v (.int .u32 (x : Int)), .v (.int .u32 (y : Int)), .v (.int .u32 (c : Int))] (.tup [.v (.int .u32 (((x + y + c) % 4294967296 : Nat) : Int)), .v (.int .u32 (((x + y + c) / 4294967296 : Nat) : Int))])) := by
 refine mkcall Tryz.func147 rfl rfl (Nat.le_of_ble_eq_true rfl) <| Rg 2 rfl <| Ua rfl rfl <| Ua rfl rfl <| Wn <| Rg 9 rfl <| Um rfl rfl <| WO.U (cI ((x : Int)) (oCnv rfl rfl rfl) (by rw [IntKind.wrap_u64]; omega)) rfl <| Um rfl rfl <| WO.U (cI ((y : Int)) (oCnv rfl rfl rfl) (by rw [IntKind.wrap_u64]; omega)) rfl <| WO.U (cI (((x + y : Nat) : Int)) (oAddU rfl rfl) (by omega)) rfl <| Um rfl rfl <| WO.U (cI ((c : Int)) (oCnv rfl rfl rfl) (by rw [IntKind.wrap_u64]; omega)) rfl <| WO.U (cI (((x + y + c : Nat) : Int)) (oAddU rfl rfl) (by omega)) rfl <| Ua rfl rfl <| Wn <| Rg 3 rfl <| Um rfl rfl <| WO.U (cI ((((x + y + c) % 4294967296 : Nat) : Int)) (oCnv rfl rfl rfl) (by rw [IntKind.wrap_u32]; omega)) rfl <| Ua rfl rfl <| Nw [(6, _), (8, _)] ⟨rfl, rfl, trivial⟩ <| Rg 4 rfl <| Um rfl rfl ?_
 refine WO.U (cI ((((x + y + c) / 4294967296 : Nat) : Int)) (oShrU (s := 32) rfl rfl (by omega)) (by omega)) rfl <| WO.U (cI ((((x + y + c) / 4294967296 : Nat) : Int)) (oCnv rfl rfl rfl) (by rw [IntKind.wrap_u32]; omega)) rfl <| Ua rfl rfl <| Wn <| WC.ret ?_
 exact post (n := 0) (.inr rfl) rfl rfl (by simp)
theorem compare_run (k1 k2 : Nat) (xs ys : List Nat) (hx : Dg B32 xs) (hy : Dg B32 ys) (tx : Trm xs) (ty : Trm ys) (lx : xs.length < 4611686018427387904) (ly : ys.length < 4611686018427387904) : Run Tryz.prog T E0 (.call 139 [.sl k1 (xs.map d32), .sl k2 (ys.map d32)] (.v (.int .i64 ((val B32 xs : Int) - val B32 ys).sign))) := by
 refine mkcall Tryz.func139 rfl rfl (Nat.le_of_ble_eq_true rfl) <| Rg 1 rfl <| Ua rfl rfl <| Wn <| WC.assoc <| Rg 5 rfl <| Um rfl rfl <| WO.U (oLenM rfl rfl) rfl <| Um rfl rfl <| WO.U (oLenM rfl rfl) rfl <| WO.U (oNeq rfl rfl) rfl <| WO.D (fun h10 => ?_) (fun h10 => ?_)
 ·refine Wn <| WC.cT rfl <| WC.assoc <| WC.assoc <| Rg 5 rfl <| Um rfl rfl <| WO.U (oLenM rfl rfl) rfl <| Um rfl rfl <| WO.U (oLenM rfl rfl) rfl <| WO.U (oLss rfl rfl) rfl <| WO.D (fun h15 => ?_) (fun h15 => ?_)
  ·refine Wn <| WC.cT rfl <| WC.assoc <| Rg 1 rfl <| Ua rfl rfl <| Wn <| WC.rets <| post (n := 0) (.inr rfl) rfl (congrArg (fun z => LV.v (.int .i64 z)) ?_) (by simp)
   have := val_lt_len (B := B32) (by decide) hx ty (by omega)
   exact (Int.sign_eq_neg_one_of_neg (by omega)).symm
  refine Wn <| WC.cF rfl <| WC.skips <| WC.assoc <| Rg 1 rfl <| Ua rfl rfl <| Wn <| WC.rets <| post (n := 0) (.inr rfl) rfl (congrArg (fun z => LV.v (.int .i64 z)) ?_) (by simp)
  have := val_lt_len (B := B32) (by decide) hy tx (by omega)
  exact (Int.sign_eq_one_of_pos (by omega)).symm
 have hlen : xs.length = ys.length := by omega
 refine Wn <| WC.cF rfl <| WC.skips <| WC.assoc <| Rg 4 rfl <| Um rfl rfl <| WO.U (oLenM rfl rfl) rfl <| WO.U (oSub64 rfl rfl (by omega)) rfl <| Ua rfl rfl <| Wn <| WC.block <| WC.loopV (α := Nat) (fun k => [(0, .sl k1 (xs.map d32)), (1, .sl k2 (ys.map d32)), (5, .v (.int .i64 ((k : Int) - 1)))]) (fun k => []) (fun k n => k ≤ xs.length ∧ xs.drop k = ys.drop k) (fun k => k) (xs.length) ⟨rfl, rfl, rfl, trivial⟩ trivial ⟨Nat.le_refl _, by rw [List.drop_length, hlen, List.drop_length]⟩ ?_
 rintro k n hF
 change WC _ _ _ _ _ [(0, .sl k1 (xs.map d32)), (1, .sl k2 (ys.map d32)), (5, .v (.int .i64 ((k : Int) - 1)))] ([]) n _
 obtain ⟨hk, hd⟩ := hF
 refine WC.assoc <| Rg 2 rfl <| Um rfl rfl <| WO.U (oGeq rfl rfl) rfl <| WO.D (fun h20 => ?_) (fun h20 => ?_)
 rotate_left
 ·refine Wn <| WC.cF rfl <| WC.exits <| loopR_exit <| after_exit rfl <| Rg 1 rfl <| Ua rfl rfl <| Wn <| WC.ret <| post (n := 0) (.inr rfl) rfl (congrArg (fun z => LV.v (.int .i64 z)) ?_) (by simp)
  have h0 : k = 0 := by omega
  subst h0
  simp only [List.drop_zero] at hd
  subst hd
  simp
 refine Wn <| WC.cT rfl <| WC.skips <| WC.block <| WC.draw (z := 9) rfl (by kernel_rfl) <| Dm rfl rfl <| Dm rfl rfl <| WD.U (oIxM (j := k - 1) rfl rfl rfl rfl (by omega) (by omega) rfl) rfl <| WD.U (oLd rfl rfl rfl) rfl <| Dm rfl rfl <| Dm rfl rfl <| WD.U (oIxM (j := k - 1) rfl rfl rfl rfl (by omega) (by omega) rfl) rfl <| WD.U (oLd rfl rfl rfl) rfl <| WD.U (oNeq rfl rfl) rfl <| WD.D (fun h31 => ?_) (fun h31 => ?_)
 rotate_left
 ·refine WD.nil (drawOk_of (by kernel_rfl)) rfl <| WC.cF1 rfl <| WC.skip <| after_normal <| WC.reg1z (z := 3) rfl <| Um rfl rfl <| WO.U (cI (((k - 1 : Nat) : Int) - 1) (oSub64 rfl rfl (by omega)) (by omega)) rfl <| Ua rfl rfl <| Wn <| loopR_normal ?_
  have hj : k - 1 + 1 = k := by omega
  refine ⟨k - 1, ⟨rfl, rfl, rfl, trivial⟩, trivial, ⟨by omega, ?_⟩, by show k - 1 < k; omega⟩
  rw [drop_cons_getD (by omega : k - 1 < xs.length), drop_cons_getD (by omega : k - 1 < ys.length), hj, hd]
  congr 1; omega
 refine WD.nil (drawOk_of (by kernel_rfl)) rfl <| WC.cT1 rfl <| WC.assoc <| WC.draw (z := 9) rfl (by kernel_rfl) <| Dm rfl rfl <| Dm rfl rfl <| WD.U (oIxM (j := k - 1) rfl rfl rfl rfl (by omega) (by omega) rfl) rfl <| WD.U (oLd rfl rfl rfl) rfl <| Dm rfl rfl <| Dm rfl rfl <| WD.U (oIxM (j := k - 1) rfl rfl rfl rfl (by omega) (by omega) rfl) rfl <| WD.U (oLd rfl rfl rfl) rfl <| WD.U (oLss rfl rfl) rfl <| WD.D (fun h40 => ?_) (fun h40 => ?_)
 ·refine WD.nil (drawOk_of (by kernel_rfl)) rfl <| WC.weak [(40, _)] ⟨rfl, trivial⟩ <| WC.cT rfl <| WC.assoc <| Rg 1 rfl <| Ua rfl rfl <| Wn <| WC.rets <| after_ret <| loopR_ret <| after_ret <| post (n := 0) (.inr rfl) rfl (congrArg (fun z => LV.v (.int .i64 z)) ?_) (by simp)
  have hj : k - 1 + 1 = k := by omega
  have := val_lt_at (B := B32) (ys := ys) (by decide) hx (k := k - 1) (by omega) (by omega) (by rw [hj]; exact hd) (by omega)
  exact (Int.sign_eq_neg_one_of_neg (by omega)).symm
 refine WD.nil (drawOk_of (by kernel_rfl)) rfl <| WC.weak [(40, _)] ⟨rfl, trivial⟩ <| WC.cF rfl <| WC.skips <| Rg 1 rfl <| Ua rfl rfl <| Wn <| WC.ret <| after_ret <| loopR_ret <| after_ret <| post (n := 0) (.inr rfl) rfl (congrArg (fun z => LV.v (.int .i64 z)) ?_) (by simp)
 have hj : k - 1 + 1 = k := by omega
 have := val_lt_at (B := B32) (ys := xs) (by decide) hy (k := k - 1) (by omega) (by omega) (by rw [hj]; exact hd.symm) (by omega)
 exact (Int.sign_eq_one_of_pos (by omega)).symm
end Go.Proofs.YtcmieifjephdcaaGreat
set_option linter.unusedVariables false
set_option linter.unusedSimpArgs false
set_option maxRecDepth 100000
namespace Go.Proofs.YtcmieifjephdcaaGreat
open Go.Ab Go.RowKit
theorem sub32_run (x y c : Nat) (hx : x < 4294967296) (hy : y < 4294967296) (hc : c ≤ 1) : Run Tryz.prog T E0 (.call 148 [.v (.int .u32 (x : Int)), .v (.int .u32 (y : Int)), .v (.int .u32 (c : Int))] (.tup [.v (.int .u32 ((((x + 8589934592 - y - c) % 4294967296) : Nat) : Int)), .v (.int .u32 ((if x < y + c then 1 else 0 : Nat) : Int))])) := by
 have hxy : x ^^^ y < 4294967296 := Nat.xor_lt_two_pow (n := 32) hx hy
 refine mkcall Tryz.func148 rfl rfl (Nat.le_of_ble_eq_true rfl) <| Rg 2 rfl <| Ua rfl rfl <| Ua rfl rfl <| Wn <| Rg 6 rfl <| Um rfl rfl <| Um rfl rfl <| WO.U (oSub32 rfl rfl) rfl <| Um rfl rfl <| WO.U (cI (((((x + 8589934592 - y - c) % 4294967296) : Nat) : Int)) (oSub32 rfl rfl) (by omega)) rfl <| Ua rfl rfl <| Wn <| Rg 13 rfl <| Um rfl rfl <| WO.U (oCom32 (a := x) rfl hx) rfl <| Um rfl rfl <| WO.U (oBin (v := .int .u32 (((4294967295 - x) &&& y : Nat) : Int)) rfl rfl (and32 (by omega) hy)) rfl <| Um rfl rfl <| Um rfl rfl <| WO.U (oBin (v := .int .u32 ((x ^^^ y : Nat) : Int)) rfl rfl (xor32 hx hy)) rfl <| WO.U (oCom32 (a := x ^^^ y) rfl hxy) rfl <| Um rfl rfl <| WO.U (oBin (v := .int .u32 (((4294967295 - (x ^^^ y)) &&& ((x + 8589934592 - y - c) % 4294967296) : Nat) : Int)) rfl rfl (and32 (by omega) (by omega))) rfl ?_
 refine WO.U (oBin (v := .int .u32 ((((4294967295 - x) &&& y) ||| ((4294967295 - (x ^^^ y)) &&& ((x + 8589934592 - y - c) % 4294967296)) : Nat) : Int)) rfl rfl (or32 (Nat.lt_of_le_of_lt Nat.and_le_right hy) (Nat.lt_of_le_of_lt Nat.and_le_left (by omega)))) rfl <| WO.U (cI (((if x < y + c then 1 else 0 : Nat) : Int)) (oShr32 (s := 31) rfl rfl (by omega)) (by rw [← borrow hx hy hc (d := ((x + 8589934592 - y - c) % 4294967296)) (by omega)]; rfl)) rfl <| Ua rfl rfl <| Nw [(6, _), (7, _)] ⟨rfl, rfl, trivial⟩ <| WC.ret ?_
 exact post (n := 0) (.inr rfl) rfl rfl (by simp)
theorem plus_run (k1 k2 : Nat) (xs ys : List Nat) (hx : Dg B32 xs) (hy : Dg B32 ys) (lx : xs.length < 1099511627776) (ly : ys.length < 1099511627776) : ∃ r, Run Tryz.prog T E0 (.call 138 [.sl k1 (xs.map d32), .sl k2 (ys.map d32)] r) ∧ ∃ ds, r = .sl 1 (ds.map d32) ∧ Dg B32 ds ∧ val B32 ds = val B32 xs + val B32 ys ∧ ds.length ≤ max xs.length ys.length + 1 := by
 refine mkcallE Tryz.func138 rfl rfl (Nat.le_of_ble_eq_true rfl) ?_
 have J3 : ∀ (k1 k2 : Nat) (us ws : List Nat) (hu : Dg B32 us) (hw : Dg B32 ws) (hle : ws.length ≤ us.length) (hm : us.length ≤ max xs.length ys.length) (hs : val B32 us + val B32 ws = val B32 xs + val B32 ys) (n : Nat) , WC Tryz.prog T E0 Tryz.f138.ntmps (codeR (codeR (codeOf Tryz.f138))) [(0, .sl k1 (us.map d32)), (1, .sl k2 (ws.map d32))] [] n (fun x e h n => ∃ r, (∃ ds, r = .sl 1 (ds.map d32) ∧ Dg B32 ds ∧ val B32 ds = val B32 xs + val B32 ys ∧ ds.length ≤ max xs.length ys.length + 1) ∧ Post T Tryz.f138.results.toList r x e h n) := by
  intro k1 k2 us ws hu hw hle hm hs n
  refine Rg 5 rfl <| Um rfl rfl <| WO.U (oLenM rfl rfl) rfl <| WO.U (oAdd64 rfl rfl (by omega)) rfl <| WO.S (oMk (a := 0) (b := us.length + 1) rfl rfl rfl rfl rfl rfl (by decide) (by omega) (by show 4 * (us.length + 1) ≤ _; omega) (by omega)) rfl <| Ua rfl rfl <| Wn <| Rg 1 rfl <| Ua rfl rfl <| Wn <| WC.assoc <| Rg 3 rfl <| Um rfl rfl <| WO.U (oLenM rfl rfl) rfl <| Um rfl rfl <| Wn <| WC.block <| WC.loopV (α := Nat × Nat × (List Nat)) (fun ⟨c, q, ds⟩ => [(0, .sl k1 (us.map d32)), (1, .sl k2 (ws.map d32)), (5, .ref q 1 0 ds.length), (6, .v (.int .u32 (c : Int))), (22, .v (.int .i64 (us.length : Int))), (23, .v (.int .i64 (ds.length : Int)))]) (fun ⟨c, q, ds⟩ => [(q, { cells := (ds.map d32).flatten, sz := 1, elem := 125, st := 0 })]) (fun ⟨c, q, ds⟩ n => ds.length ≤ us.length ∧ Dg B32 ds ∧ c ≤ 1 ∧ val B32 ds + B32 ^ ds.length * c = val B32 (us.take ds.length) + val B32 (ws.take ds.length)) (fun ⟨c, q, ds⟩ => us.length - ds.length) (0, n + 3, []) ⟨rfl, rfl, rfl, rfl, rfl, rfl, trivial⟩ ⟨g0, trivial⟩ ⟨Nat.zero_le _, by intro d hd; simp at hd, by omega, by simp [val]⟩ ?_
  rintro ⟨c, q, ds⟩ n hF
  change WC _ _ _ _ _ [(0, .sl k1 (us.map d32)), (1, .sl k2 (ws.map d32)), (5, .ref q 1 0 ds.length), (6, .v (.int .u32 (c : Int))), (22, .v (.int .i64 (us.length : Int))), (23, .v (.int .i64 (ds.length : Int)))] ([(q, { cells := (ds.map d32).flatten, sz := 1, elem := 125, st := 0 })]) n _
  obtain ⟨hdl, hdd, hc, hi⟩ := hF
  refine Rg 1 rfl <| WO.U (oLss rfl rfl) rfl <| WO.D (fun h24 => ?_) (fun h24 => ?_)
  rotate_left
  ·refine Wn <| WC.cF rfl <| WC.exits <| loopR_exit <| after_exit rfl <| Rg 5 rfl <| Um rfl rfl <| Um rfl rfl <| WO.U (oBs' (cs := [_]) (rows := [[_]]) rfl rfl (by decide) rfl rfl rfl) rfl <| WO.S (oApM (f := d32) rfl rfl rfl rfl rfl (fun _ => rfl) (by decide) g0 (by show (2 * (ds.length + 1) + 256) * 4 ≤ _; omega) (by omega)) rfl <| Ua rfl rfl <| Wn <| WC.ret <| ⟨.sl 1 ((ds ++ [c]).map d32), ⟨_, rfl, hdd.snoc (by show c < 4294967296; omega), ?_, by simp; omega⟩, postRef (n := 0) _ (.inr rfl) rfl (by simp) g0 (by show (0 : Nat) ≠ 2; decide) rfl (by decide) rfl rows_d32 data_rows_d32⟩
   have hl : ds.length = us.length := by omega
   rw [val_snoc, hi, List.take_of_length_le (by omega), List.take_of_length_le (by omega), hs]
  refine Wn <| WC.cT rfl <| WC.skips <| WC.block <| Rg 2 rfl <| Um rfl rfl <| Ua rfl rfl <| Wn <| Rg 1 rfl <| Ua rfl rfl <| Wn <| WC.assoc <| Rg 4 rfl <| Um rfl rfl <| Um rfl rfl <| WO.U (oLenM rfl rfl) rfl <| WO.U (oLss rfl rfl) rfl <| WO.D (fun h29 => ?_) (fun h29 => ?_)
  rotate_left
  ·refine Wn <| WC.cF rfl <| WC.skips <| Rg 1 rfl <| Ua rfl rfl <| Nw [(0, _), (1, _), (5, _), (6, _), (7, _), (8, _), (22, _), (23, _)] ⟨rfl, rfl, rfl, rfl, rfl, rfl, rfl, rfl, trivial⟩ ?_
   have hxl : us.getD ds.length default < 4294967296 := getD_lt hu (by omega)
   refine Rg 12 rfl <| Um rfl rfl <| Um rfl rfl <| WO.U (oIxM rfl rfl rfl rfl rfl (by omega) rfl) rfl <| WO.U (oLd rfl rfl rfl) rfl <| Um rfl rfl <| Um rfl rfl <| WO.U (oCall rfl (add32_run (us.getD ds.length default) 0 c hxl (by decide) hc) (by simp)) rfl <| Um rfl rfl <| WO.U (oEx rfl rfl) rfl <| WO.U (oEx rfl rfl) rfl <| Ua rfl rfl <| Ua rfl rfl <| Nw [(0, _), (1, _), (5, _), (6, _), (9, _), (22, _), (23, _)] ⟨rfl, rfl, rfl, rfl, rfl, rfl, rfl, trivial⟩ <| WC.reg1z (z := 5) rfl <| Um rfl rfl <| Um rfl rfl <| WO.U (oBs' (cs := [_]) (rows := [[_]]) rfl rfl (by decide) rfl rfl rfl) rfl <| WO.S (oApM (f := d32) rfl rfl rfl rfl rfl (fun _ => rfl) (by decide) g0 (by show (2 * (ds.length + 1) + 256) * 4 ≤ _; omega) (by omega)) rfl <| Ua rfl rfl <| Wn <| after_normal <| WC.reg1z (z := 2) rfl ?_
   refine WO.U (cI (((ds.length + 1 : Nat) : Int)) (oAdd64 rfl rfl (by omega)) (by omega)) rfl <| Um rfl rfl <| Wn <| loopR_normal <| ⟨⟨_, _, ds ++ [_]⟩, ⟨rfl, rfl, rfl, rfl, rfl, congrArg some (by simp), trivial⟩, ⟨g0, trivial⟩, ⟨by simp; omega, hdd.snoc (Nat.mod_lt _ (by decide)), by omega, plus_step hi rfl (getD_out (by omega)).symm⟩, by simp; omega⟩
  refine Wn <| WC.cT rfl <| Rg 5 rfl <| Um rfl rfl <| Um rfl rfl <| WO.U (oIxM rfl rfl rfl rfl rfl (by omega) rfl) rfl <| WO.U (oLd rfl rfl rfl) rfl <| Ua rfl rfl <| Nw [(0, _), (1, _), (5, _), (6, _), (7, _), (8, _), (22, _), (23, _)] ⟨rfl, rfl, rfl, rfl, rfl, rfl, rfl, rfl, trivial⟩ <| Rg 1 rfl <| Ua rfl rfl <| WO.nil ?_
  have hxl : us.getD ds.length default < 4294967296 := getD_lt hu (by omega)
  have hyl : ws.getD ds.length default < 4294967296 := getD_lt hw (by omega)
  refine Rg 12 rfl <| Um rfl rfl <| Um rfl rfl <| WO.U (oIxM rfl rfl rfl rfl rfl (by omega) rfl) rfl <| WO.U (oLd rfl rfl rfl) rfl <| Um rfl rfl <| Um rfl rfl <| WO.U (oCall rfl (add32_run (us.getD ds.length default) (ws.getD ds.length default) c hxl hyl hc) (by simp)) rfl <| Um rfl rfl <| WO.U (oEx rfl rfl) rfl <| WO.U (oEx rfl rfl) rfl <| Ua rfl rfl <| Ua rfl rfl <| Nw [(0, _), (1, _), (5, _), (6, _), (9, _), (22, _), (23, _)] ⟨rfl, rfl, rfl, rfl, rfl, rfl, rfl, trivial⟩ <| WC.reg1z (z := 5) rfl <| Um rfl rfl <| Um rfl rfl <| WO.U (oBs' (cs := [_]) (rows := [[_]]) rfl rfl (by decide) rfl rfl rfl) rfl <| WO.S (oApM (f := d32) rfl rfl rfl rfl rfl (fun _ => rfl) (by decide) g0 (by show (2 * (ds.length + 1) + 256) * 4 ≤ _; omega) (by omega)) rfl <| Ua rfl rfl <| Wn <| after_normal <| WC.reg1z (z := 2) rfl ?_
  refine WO.U (cI (((ds.length + 1 : Nat) : Int)) (oAdd64 rfl rfl (by omega)) (by omega)) rfl <| Um rfl rfl <| Wn <| loopR_normal <| ⟨⟨_, _, ds ++ [_]⟩, ⟨rfl, rfl, rfl, rfl, rfl, congrArg some (by simp), trivial⟩, ⟨g0, trivial⟩, ⟨by simp; omega, hdd.snoc (Nat.mod_lt _ (by decide)), by omega, plus_step hi rfl rfl⟩, by simp; omega⟩
 refine Rg 1 rfl <| Ua rfl rfl <| Wn <| WC.assoc <| Rg 5 rfl <| Um rfl rfl <| WO.U (oLenM rfl rfl) rfl <| Um rfl rfl <| WO.U (oLenM rfl rfl) rfl <| WO.U (oLss rfl rfl) rfl <| WO.D (fun h14 => ?_) (fun h14 => ?_)
 rotate_left
 ·refine Wn <| WC.cF rfl <| WC.skips <| WC.weak [(0, _), (1, _)] ⟨rfl, rfl, trivial⟩ ?_
  exact J3 _ _ xs ys hx hy (by omega) (by omega) rfl _
 refine Wn <| WC.cT rfl <| Rg 4 rfl <| Um rfl rfl <| Um rfl rfl <| Ua rfl rfl <| Ua rfl rfl <| Nw [(0, _), (1, _)] ⟨rfl, rfl, trivial⟩ ?_
 exact J3 _ _ ys xs hy hx (by omega) (by omega) (by omega) _
theorem minus_run (k1 k2 : Nat) (xs ys : List Nat) (hx : Dg B32 xs) (hy : Dg B32 ys) (lx : xs.length < 1099511627776) (hle : ys.length ≤ xs.length) (hv : val B32 ys ≤ val B32 xs) : ∃ r, Run Tryz.prog T E0 (.call 140 [.sl k1 (xs.map d32), .sl k2 (ys.map d32)] r) ∧ ∃ ds, r = .sl 1 (ds.map d32) ∧ Dg B32 ds ∧ val B32 ds = val B32 xs - val B32 ys ∧ ds.length = xs.length := by
 refine mkcallE Tryz.func140 rfl rfl (Nat.le_of_ble_eq_true rfl) <| Rg 1 rfl <| Ua rfl rfl <| Wn <| Rg 4 rfl <| Um rfl rfl <| WO.U (oLenM rfl rfl) rfl <| WO.S (oMk (a := 0) (b := xs.length) rfl rfl rfl rfl rfl rfl (by decide) (by omega) (by show 4 * xs.length ≤ _; omega) (by omega)) rfl <| Ua rfl rfl <| Wn <| Rg 1 rfl <| Ua rfl rfl <| Wn <| WC.assoc <| Rg 3 rfl <| Um rfl rfl <| WO.U (oLenM rfl rfl) rfl <| Um rfl rfl <| Wn <| WC.block <| WC.loopV (α := Nat × Nat × (List Nat)) (fun ⟨c, q, ds⟩ => [(0, .sl k1 (xs.map d32)), (1, .sl k2 (ys.map d32)), (5, .ref q 1 0 ds.length), (6, .v (.int .u32 (c : Int))), (14, .v (.int .i64 (xs.length : Int))), (15, .v (.int .i64 (ds.length : Int)))]) (fun ⟨c, q, ds⟩ => [(q, { cells := (ds.map d32).flatten, sz := 1, elem := 125, st := 0 })]) (fun ⟨c, q, ds⟩ n => ds.length ≤ xs.length ∧ Dg B32 ds ∧ c ≤ 1 ∧ val B32 (xs.take ds.length) + B32 ^ ds.length * c = val B32 ds + val B32 (ys.take ds.length)) (fun ⟨c, q, ds⟩ => xs.length - ds.length) (0, 0 + 1 + 2, []) ⟨rfl, rfl, rfl, rfl, rfl, rfl, trivial⟩ ⟨g0, trivial⟩ ⟨Nat.zero_le _, by intro d hd; simp at hd, by omega, by simp [val]⟩ ?_
 rintro ⟨c, q, ds⟩ n hF
 change WC _ _ _ _ _ [(0, .sl k1 (xs.map d32)), (1, .sl k2 (ys.map d32)), (5, .ref q 1 0 ds.length), (6, .v (.int .u32 (c : Int))), (14, .v (.int .i64 (xs.length : Int))), (15, .v (.int .i64 (ds.length : Int)))] ([(q, { cells := (ds.map d32).flatten, sz := 1, elem := 125, st := 0 })]) n _
 obtain ⟨hdl, hdd, hc, hi⟩ := hF
 refine Rg 1 rfl <| WO.U (oLss rfl rfl) rfl <| WO.D (fun h16 => ?_) (fun h16 => ?_)
 rotate_left
 ·refine Wn <| WC.cF rfl <| WC.exits <| loopR_exit <| after_exit rfl <| Rg 2 rfl <| Um rfl rfl <| Ua rfl rfl <| Wn <| WC.ret <| ⟨.sl 1 (ds.map d32), ⟨_, rfl, hdd, ?_, by omega⟩, postRef (n := 0) _ (.inr rfl) rfl (by simp) g0 (by show (0 : Nat) ≠ 2; decide) rfl (by decide) rfl rows_d32 data_rows_d32⟩
  have hl : ds.length = xs.length := by omega
  rw [List.take_of_length_le (by omega), List.take_of_length_le (by omega)] at hi
  have hlt := val_lt (B := B32) (by decide) hdd
  rcases (show c = 0 ∨ c = 1 by omega) with rfl | rfl
  ·omega
  ·omega
 refine Wn <| WC.cT rfl <| WC.skips <| WC.block <| Rg 2 rfl <| Um rfl rfl <| Ua rfl rfl <| Wn <| Rg 1 rfl <| Ua rfl rfl <| Wn <| WC.assoc <| Rg 4 rfl <| Um rfl rfl <| Um rfl rfl <| WO.U (oLenM rfl rfl) rfl <| WO.U (oLss rfl rfl) rfl <| WO.D (fun h21 => ?_) (fun h21 => ?_)
 rotate_left
 ·refine Wn <| WC.cF rfl <| WC.skips <| Rg 1 rfl <| Ua rfl rfl <| Nw [(0, _), (1, _), (5, _), (6, _), (7, _), (8, _), (14, _), (15, _)] ⟨rfl, rfl, rfl, rfl, rfl, rfl, rfl, rfl, trivial⟩ ?_
  have hxl : xs.getD ds.length default < 4294967296 := getD_lt hx (by omega)
  refine Rg 12 rfl <| Um rfl rfl <| Um rfl rfl <| WO.U (oIxM rfl rfl rfl rfl rfl (by omega) rfl) rfl <| WO.U (oLd rfl rfl rfl) rfl <| Um rfl rfl <| Um rfl rfl <| WO.U (oCall rfl (sub32_run (xs.getD ds.length default) 0 c hxl (by decide) hc) (by simp)) rfl <| Um rfl rfl <| WO.U (oEx rfl rfl) rfl <| WO.U (oEx rfl rfl) rfl <| Ua rfl rfl <| Ua rfl rfl <| Nw [(0, _), (1, _), (5, _), (6, _), (9, _), (14, _), (15, _)] ⟨rfl, rfl, rfl, rfl, rfl, rfl, rfl, trivial⟩ <| WC.reg1z (z := 5) rfl <| Um rfl rfl <| Um rfl rfl <| WO.U (oBs' (cs := [_]) (rows := [[_]]) rfl rfl (by decide) rfl rfl rfl) rfl <| WO.S (oApM (f := d32) rfl rfl rfl rfl rfl (fun _ => rfl) (by decide) g0 (by show (2 * (ds.length + 1) + 256) * 4 ≤ _; omega) (by omega)) rfl <| Ua rfl rfl <| Wn <| after_normal <| WC.reg1z (z := 2) rfl ?_
  refine WO.U (cI (((ds.length + 1 : Nat) : Int)) (oAdd64 rfl rfl (by omega)) (by omega)) rfl <| Um rfl rfl <| Wn <| loopR_normal <| ⟨⟨_, _, ds ++ [_]⟩, ⟨rfl, rfl, rfl, rfl, rfl, congrArg some (by simp), trivial⟩, ⟨g0, trivial⟩, ⟨by simp; omega, hdd.snoc (Nat.mod_lt _ (by decide)), by split <;> omega, minus_step hi rfl (getD_out (by omega)).symm (by show _ = _ + 4294967296 * _; split <;> omega)⟩, by simp; omega⟩
 refine Wn <| WC.cT rfl <| Rg 5 rfl <| Um rfl rfl <| Um rfl rfl <| WO.U (oIxM rfl rfl rfl rfl rfl (by omega) rfl) rfl <| WO.U (oLd rfl rfl rfl) rfl <| Ua rfl rfl <| Nw [(0, _), (1, _), (5, _), (6, _), (7, _), (8, _), (14, _), (15, _)] ⟨rfl, rfl, rfl, rfl, rfl, rfl, rfl, rfl, trivial⟩ <| Rg 1 rfl <| Ua rfl rfl <| WO.nil ?_
 have hxl : xs.getD ds.length default < 4294967296 := getD_lt hx (by omega)
 have hyl : ys.getD ds.length default < 4294967296 := getD_lt hy (by omega)
 refine Rg 12 rfl <| Um rfl rfl <| Um rfl rfl <| WO.U (oIxM rfl rfl rfl rfl rfl (by omega) rfl) rfl <| WO.U (oLd rfl rfl rfl) rfl <| Um rfl rfl <| Um rfl rfl <| WO.U (oCall rfl (sub32_run (xs.getD ds.length default) (ys.getD ds.length default) c hxl hyl hc) (by simp)) rfl <| Um rfl rfl <| WO.U (oEx rfl rfl) rfl <| WO.U (oEx rfl rfl) rfl <| Ua rfl rfl <| Ua rfl rfl <| Nw [(0, _), (1, _), (5, _), (6, _), (9, _), (14, _), (15, _)] ⟨rfl, rfl, rfl, rfl, rfl, rfl, rfl, trivial⟩ <| WC.reg1z (z := 5) rfl <| Um rfl rfl <| Um rfl rfl <| WO.U (oBs' (cs := [_]) (rows := [[_]]) rfl rfl (by decide) rfl rfl rfl) rfl <| WO.S (oApM (f := d32) rfl rfl rfl rfl rfl (fun _ => rfl) (by decide) g0 (by show (2 * (ds.length + 1) + 256) * 4 ≤ _; omega) (by omega)) rfl <| Ua rfl rfl <| Wn <| after_normal <| WC.reg1z (z := 2) rfl ?_
 refine WO.U (cI (((ds.length + 1 : Nat) : Int)) (oAdd64 rfl rfl (by omega)) (by omega)) rfl <| Um rfl rfl <| Wn <| loopR_normal <| ⟨⟨_, _, ds ++ [_]⟩, ⟨rfl, rfl, rfl, rfl, rfl, congrArg some (by simp), trivial⟩, ⟨g0, trivial⟩, ⟨by simp; omega, hdd.snoc (Nat.mod_lt _ (by decide)), by split <;> omega, minus_step hi rfl rfl (by show _ = _ + 4294967296 * _; split <;> omega)⟩, by simp; omega⟩
theorem made_run (s : Int) (k : Nat) (ds : List Nat) (hs : s = 1 ∨ s = -1 ∨ s = 0 ∧ val B32 ds = 0) (hk : k = 1 ∨ k = 2) (hd : Dg B32 ds) (hl : ds.length < 4611686018427387904) : Run Tryz.prog T E0 (.call 134 [.v (.int .i64 s), .sl k (ds.map d32)] (lvI (s * val B32 ds))) := by
 have hkk : (if k = 0 then 0 else 1) = 1 := by rw [if_neg (by omega)]
 have htd := trim_dg hd
 have hrun := trim_run k ds (by omega) hl
 rw [hkk] at hrun
 have htl : (trim ds).length ≤ ds.length := by
  unfold trim; simpa using (List.dropWhile_sublist (· == 0) (l := ds.reverse)).length_le
 generalize hes : trim ds = es at *
 refine mkcall Tryz.func134 rfl rfl (Nat.le_of_ble_eq_true rfl) <| Rg 1 rfl <| WO.S (oAl rfl) rfl <| Wn <| Rg 3 rfl <| Um rfl rfl <| WO.U (oCall rfl (hrun) (by simp)) rfl <| Ua rfl rfl <| Wn <| WC.assoc <| Rg 3 rfl <| Um rfl rfl <| WO.U (oLenM rfl rfl) rfl <| WO.U (oLeq rfl rfl) rfl <| WO.D (fun h12 => ?_) (fun h12 => ?_)
 rotate_left
 ·refine Wn <| WC.cF rfl <| WC.skips <| Rg 4 rfl <| Um rfl rfl <| Um rfl rfl <| WO.U (oBd (cs := [_, _]) rfl rfl rfl rfl rfl) rfl <| WO.S0 (oSt (cs' := [_, _]) rfl rfl rfl rfl rfl rfl rfl rfl) <| Wn <| WC.ret <| post (n := 0) (.inr rfl) rfl ?_ (by simp)
  have hb := val_big hd (by rw [hes]; omega)
  rw [lvI_made hd (by have : val B32 ds = val 4294967296 ds := rfl; omega) hb, hes]; rfl
 refine Wn <| WC.cT rfl <| WC.assoc <| Rg 1 rfl <| Ua rfl rfl <| Wn <| WC.assoc <| WC.assoc <| Rg 3 rfl <| Um rfl rfl <| WO.U (oLenM rfl rfl) rfl <| Um rfl rfl <| Wn <| WC.block <| WC.loopV (α := Nat × Nat) (fun ⟨i, m⟩ => [(0, .v (.int .i64 s)), (1, .sl 1 (es.map d32)), (4, .ptr 0 0), (5, .v (.int .u64 (m : Int))), (13, .sl 1 (es.map d32)), (14, .v (.int .i64 (es.length : Int))), (15, .v (.int .i64 (i : Int)))]) (fun ⟨i, m⟩ => [(0, { cells := [.v (.int .i64 0), .sl 0 []], sz := 2, elem := 75, st := 0 })]) (fun ⟨i, m⟩ n => i ≤ es.length ∧ m = val B32 (es.take i)) (fun ⟨i, m⟩ => es.length - i) (0, 0) ⟨rfl, rfl, rfl, rfl, rfl, rfl, rfl, trivial⟩ ⟨rfl, trivial⟩ ⟨Nat.zero_le _, by simp [val]⟩ ?_
 rintro ⟨i, m⟩ n hF
 change WC _ _ _ _ _ [(0, .v (.int .i64 s)), (1, .sl 1 (es.map d32)), (4, .ptr 0 0), (5, .v (.int .u64 (m : Int))), (13, .sl 1 (es.map d32)), (14, .v (.int .i64 (es.length : Int))), (15, .v (.int .i64 (i : Int)))] ([(0, { cells := [.v (.int .i64 0), .sl 0 []], sz := 2, elem := 75, st := 0 })]) n _
 obtain ⟨hi, hm⟩ := hF
 refine Rg 1 rfl <| WO.U (oLss rfl rfl) rfl <| WO.D (fun h16 => ?_) (fun h16 => ?_)
 ·refine Wn <| WC.cT rfl <| WC.skips <| WC.block <| Rg 5 rfl <| Um rfl rfl <| WO.U (oIxM rfl rfl rfl rfl rfl (by omega) rfl) rfl <| WO.U (oLd rfl rfl rfl) rfl <| Ua rfl rfl <| Ua rfl rfl <| WO.nil ?_
  have hxl : es.getD i default < 4294967296 := getD_lt htd (by omega)
  have hml : m < 4294967296 ^ i := by
   have := val_lt (B := 4294967296) (by decide) (htd.take i)
   rw [List.length_take, Nat.min_eq_left hi] at this
   rw [hm]; exact this
  refine WC.reg1z (z := 8) rfl <| Um rfl rfl <| Um rfl rfl <| WO.U (cI (((es.getD i default : Nat) : Int)) (oCnv rfl rfl rfl) (by rw [IntKind.wrap_u64]; omega)) rfl <| Um rfl rfl <| WO.U (cI (((32 * i : Nat) : Int)) (oMul64 rfl rfl (by omega)) (by omega)) rfl <| WO.U (cI (((es.getD i default * 4294967296 ^ i : Nat) : Int)) (oShlU (s := 32 * i) rfl rfl (by omega)) (shl_dig (by omega) hxl)) rfl <| WO.U (oBin (v := .int .u64 ((m + 4294967296 ^ i * es.getD i default : Nat) : Int)) rfl rfl (or_dig (by omega) hxl hml)) rfl <| Ua rfl rfl <| Wn <| after_normal <| WC.weak [(0, _), (1, _), (4, _), (5, _), (13, _), (14, _), (15, _)] ⟨rfl, rfl, rfl, rfl, rfl, rfl, rfl, trivial⟩ <| WC.reg1z (z := 2) rfl <| WO.U (cI (((i + 1 : Nat) : Int)) (oAdd64 rfl rfl (by omega)) (by omega)) rfl <| Um rfl rfl <| Wn <| loopR_normal <| ⟨⟨i + 1, _⟩, ⟨rfl, rfl, rfl, rfl, rfl, rfl, rfl, trivial⟩, ⟨rfl, trivial⟩, ⟨by omega, ?_⟩, by show es.length - (i + 1) < es.length - i; omega⟩
  rw [take_succ_val, hm]
 refine Wn <| WC.cF rfl <| WC.exits <| loopR_exit <| after_exit rfl <| WC.assoc <| Rg 2 rfl <| Um rfl rfl <| WO.U (oLss rfl rfl) rfl <| WO.D (fun h29 => ?_) (fun h29 => ?_)
 rotate_left
 ·refine Wn <| WC.cF rfl <| WC.skips <| Rg 4 rfl <| Um rfl rfl <| Um rfl rfl <| WO.U (oBd (cs := [_, _]) rfl rfl rfl rfl rfl) rfl <| WO.S0 (oSt (cs' := [_, _]) rfl rfl rfl rfl rfl rfl rfl rfl) <| Wn <| WC.ret ?_
  have hE : m = val B32 ds := by
   rw [hm, List.take_of_length_le (by omega), ← hes, trim_val]
  refine post (n := 0) (.inr rfl) rfl ?_ (by simp)
  rw [lvI_made hd (by omega) (by show 4611686018427387904 ≤ val B32 ds; omega), hes]; rfl
 refine Wn <| WC.cT rfl <| WC.assoc <| Rg 6 rfl <| Um rfl rfl <| Um rfl rfl <| WO.U (cI ((m : Int)) (oCnv rfl rfl rfl) (by rw [IntWalk.i64_in _ (by omega)])) rfl <| WO.U (oMul64 rfl rfl (by rcases hs with rfl | rfl | ⟨rfl, _⟩ <;> omega)) rfl <| WO.U (oBd (cs := [_, _]) rfl rfl rfl rfl rfl) rfl <| WO.S0 (oSt (cs' := [_, _]) rfl rfl rfl rfl rfl rfl rfl rfl) <| Nw [(4, _)] ⟨rfl, trivial⟩ <| WC.rets ?_
 have hE : m = val B32 ds := by
  rw [hm, List.take_of_length_le (by omega), ← hes, trim_val]
 refine post (n := 0) (.inr rfl) rfl ?_ (by simp)
 rw [lvI_small (by unfold small; rw [← hE]; rcases hs with rfl | rfl | ⟨rfl, _⟩ <;> omega), ← hE]; rfl
end Go.Proofs.YtcmieifjephdcaaGreat
set_option linter.unusedVariables false
set_option linter.unusedSimpArgs false
set_option maxRecDepth 100000
namespace Go.Proofs.YtcmieifjephdcaaGreat
open Go.Ab Go.RowKit
theorem ia0 {v : Int} (h : v.sign = 0) : v = 0 := Int.sign_eq_zero_iff_zero.1 h
theorem add_run (v w : Int) (hv : len32 v < 1099511627775) (hw : len32 w < 1099511627775) : Run Tryz.prog T E0 (.call 122 [lvI v, lvI w] (lvI (v + w))) := by
 have bv := ia_bd v
 have bw := ia_bd w
 have ev := sign_mul_abs v
 have ew := sign_mul_abs w
 have dv := dgs_val (B := B32) (by decide) v.natAbs
 have dw := dgs_val (B := B32) (by decide) w.natAbs
 have qv := dgs_dg (B := B32) (by decide) v.natAbs
 have qw := dgs_dg (B := B32) (by decide) w.natAbs
 have tv := dgs_tr (B := B32) (by decide) v.natAbs
 have tw := dgs_tr (B := B32) (by decide) w.natAbs
 have lv : (dgs B32 v.natAbs).length < 1099511627775 := hv
 have lw : (dgs B32 w.natAbs).length < 1099511627775 := hw
 refine mkcall Tryz.func122 rfl rfl (Nat.le_of_ble_eq_true rfl) <| Rg 3 rfl <| WO.S (oBx rfl rfl) rfl <| WO.S (oBx rfl rfl) rfl <| WO.S (oAl rfl) rfl <| Wn <| WC.assoc <| Rg 8 rfl <| WO.U (oFaP rfl rfl rfl rfl rfl) rfl <| WO.U (oLdP rfl rfl rfl rfl rfl) rfl <| WO.U (oNilE rfl rfl) rfl <| WO.B (fun h11 => ?_) (fun h11 => ?_)
 rotate_left
 ·refine Um rfl rfl <| WO.K rfl rfl <| WO.K rfl rfl <| WO.K rfl rfl <| WO.U (oPkF rfl rfl) rfl <| Wn <| WC.cF rfl <| WC.skips <| Rg 7 rfl <| WO.U (oLdP (l := .agg [_, _]) rfl rfl rfl rfl rfl) rfl <| WO.U (oCall rfl (digits_run _) (by simp)) rfl <| Um rfl rfl <| WO.U (oEx rfl rfl) rfl <| WO.U (oEx rfl rfl) rfl <| Ua rfl rfl <| Ua rfl rfl <| Nw [(2, _), (3, _), (4, _), (5, _), (6, _)] ⟨rfl, rfl, rfl, rfl, rfl, trivial⟩ <| Rg 7 rfl <| WO.U (oLdP (l := .agg [_, _]) rfl rfl rfl rfl rfl) rfl <| WO.U (oCall rfl (digits_run _) (by simp)) rfl <| Um rfl rfl <| WO.U (oEx rfl rfl) rfl <| WO.U (oEx rfl rfl) rfl ?_
  refine Ua rfl rfl <| Ua rfl rfl <| Wn <| WC.block <| Rg 3 rfl <| Um rfl rfl <| WO.U (oEql rfl rfl) rfl <| WO.D (fun h35 => ?_) (fun h35 => ?_)
  ·refine Ua rfl rfl <| Nw [(2, _), (3, _), (4, _), (5, _), (6, _), (7, _), (8, _), (33, _)] ⟨rfl, rfl, rfl, rfl, rfl, rfl, rfl, rfl, trivial⟩ <| WC.cT1 rfl <| Rg 2 rfl <| WO.U (oLdP (l := .agg [_, _]) rfl rfl rfl rfl rfl) rfl <| WO.S0 (oSt (cs' := [_, _]) rfl rfl rfl rfl rfl rfl rfl rfl) <| Wn <| WC.ret <| after_ret <| post (n := 0) (.inr rfl) rfl ?_ (by simp)
   rw [ia0 h35, Int.zero_add]; rfl
  refine Ua rfl rfl <| Nw [(2, _), (3, _), (4, _), (5, _), (6, _), (7, _), (8, _), (33, _)] ⟨rfl, rfl, rfl, rfl, rfl, rfl, rfl, rfl, trivial⟩ <| WC.cF1 rfl <| Rg 3 rfl <| Um rfl rfl <| WO.U (oEql rfl rfl) rfl <| WO.D (fun h39 => ?_) (fun h39 => ?_)
  ·refine Ua rfl rfl <| Wn <| WC.cT1 rfl <| Rg 2 rfl <| WO.U (oLdP (l := .agg [_, _]) rfl rfl rfl rfl rfl) rfl <| WO.S0 (oSt (cs' := [_, _]) rfl rfl rfl rfl rfl rfl rfl rfl) <| Wn <| WC.ret <| after_ret <| post (n := 0) (.inr rfl) rfl ?_ (by simp)
   rw [ia0 h39, Int.add_zero]; rfl
  refine Ua rfl rfl <| Wn <| WC.cF1 rfl <| Rg 4 rfl <| Um rfl rfl <| Um rfl rfl <| WO.U (oEql rfl rfl) rfl <| WO.D (fun h44 => ?_) (fun h44 => ?_)
  ·refine Ua rfl rfl <| Nw [(4, _), (5, _), (6, _), (7, _), (8, _), (41, _)] ⟨rfl, rfl, rfl, rfl, rfl, rfl, trivial⟩ <| WC.cT1 rfl ?_
   have hsv : v.sign = 1 ∨ v.sign = -1 := by rcases Int.sign_trichotomy v with h | h | h <;> omega
   obtain ⟨r, hr, ds, rfl, hdd, hvl, hln⟩ := plus_run 1 1 _ _ qv qw (by omega) (by omega)
   refine Rg 6 rfl <| Um rfl rfl <| Um rfl rfl <| Um rfl rfl <| WO.U (oCall rfl (hr) (by simp)) rfl <| WO.U (oCall rfl (made_run v.sign 1 ds (by omega) (.inl rfl) hdd (by omega)) (by simp)) rfl <| WO.S0 (oSt (cs' := [_, _]) rfl rfl rfl rfl rfl rfl rfl rfl) <| Wn <| WC.ret <| after_ret <| post (n := 0) (.inr rfl) rfl ?_ (by simp)
   have : v.sign * (val B32 ds : Int) = v + w := by
    rw [hvl, dv, dw]; rcases hsv with h | h <;> rw [h] at ev h44 ⊢ <;> rw [← h44] at ew <;> omega
   rw [this]; rfl
  refine Ua rfl rfl <| Nw [(4, _), (5, _), (6, _), (7, _), (8, _), (41, _)] ⟨rfl, rfl, rfl, rfl, rfl, rfl, trivial⟩ <| WC.cF1 rfl <| Rg 5 rfl <| Um rfl rfl <| Um rfl rfl <| WO.U (oCall rfl (compare_run 1 1 _ _ qv qw tv tw (by omega) (by omega)) (by simp)) rfl <| WO.U (oGeq rfl rfl) rfl <| WO.D (fun h54 => ?_) (fun h54 => ?_)
  ·refine Ua rfl rfl <| Wn <| WC.cT1 rfl ?_
   have hsv : v.sign = 1 ∨ v.sign = -1 := by rcases Int.sign_trichotomy v with h | h | h <;> omega
   have hge : val B32 (dgs B32 w.natAbs) ≤ val B32 (dgs B32 v.natAbs) := by
    rcases Nat.lt_or_ge (val B32 (dgs B32 v.natAbs)) (val B32 (dgs B32 w.natAbs)) with h | h
    ·rw [Int.sign_eq_neg_one_of_neg (by omega)] at h54; omega
    ·exact h
   have hll : (dgs B32 w.natAbs).length ≤ (dgs B32 v.natAbs).length := by
    rcases Nat.lt_or_ge (dgs B32 v.natAbs).length (dgs B32 w.natAbs).length with h | h
    ·have := val_lt_len (by decide) qv tw h; omega
    ·exact h
   obtain ⟨r, hr, ds, rfl, hdd, hvl, hln⟩ := minus_run 1 1 _ _ qv qw (by omega) hll hge
   refine Rg 6 rfl <| Um rfl rfl <| Um rfl rfl <| Um rfl rfl <| WO.U (oCall rfl (hr) (by simp)) rfl <| WO.U (oCall rfl (made_run v.sign 1 ds (by omega) (.inl rfl) hdd (by omega)) (by simp)) rfl <| WO.S0 (oSt (cs' := [_, _]) rfl rfl rfl rfl rfl rfl rfl rfl) <| Nw [(4, _)] ⟨rfl, trivial⟩ <| WC.ret <| after_ret <| post (n := 0) (.inr rfl) rfl ?_ (by simp)
   have : v.sign * (val B32 ds : Int) = v + w := by
    rw [hvl, dv, dw] at *; rcases hsv with h | h <;> rw [h] at ev h44 ⊢ <;> rcases (show w.sign = 1 ∨ w.sign = -1 by rcases Int.sign_trichotomy w with h | h | h <;> omega) with k | k <;> rw [k] at ew h44 <;> omega
   rw [this]; rfl
  refine Ua rfl rfl <| Wn <| WC.cF1 rfl <| WC.skip <| after_normal ?_
  have hsv : w.sign = 1 ∨ w.sign = -1 := by rcases Int.sign_trichotomy w with h | h | h <;> omega
  have hge : val B32 (dgs B32 v.natAbs) ≤ val B32 (dgs B32 w.natAbs) := by
   rcases Nat.lt_or_ge (val B32 (dgs B32 w.natAbs)) (val B32 (dgs B32 v.natAbs)) with h | h
   ·rw [Int.sign_eq_one_of_pos (by omega)] at h54; omega
   ·exact h
  have hll : (dgs B32 v.natAbs).length ≤ (dgs B32 w.natAbs).length := by
   rcases Nat.lt_or_ge (dgs B32 w.natAbs).length (dgs B32 v.natAbs).length with h | h
   ·have := val_lt_len (by decide) qw tv h; omega
   ·exact h
  obtain ⟨r, hr, ds, rfl, hdd, hvl, hln⟩ := minus_run 1 1 _ _ qw qv (by omega) hll hge
  refine Rg 6 rfl <| Um rfl rfl <| Um rfl rfl <| Um rfl rfl <| WO.U (oCall rfl (hr) (by simp)) rfl <| WO.U (oCall rfl (made_run w.sign 1 ds (by omega) (.inl rfl) hdd (by omega)) (by simp)) rfl <| WO.S0 (oSt (cs' := [_, _]) rfl rfl rfl rfl rfl rfl rfl rfl) <| Nw [(4, _)] ⟨rfl, trivial⟩ <| WC.ret <| post (n := 0) (.inr rfl) rfl ?_ (by simp)
  have : w.sign * (val B32 ds : Int) = v + w := by
   rw [hvl, dv, dw] at *; rcases hsv with h | h <;> rw [h] at ew h44 ⊢ <;> rcases (show v.sign = 1 ∨ v.sign = -1 by rcases Int.sign_trichotomy v with h | h | h <;> omega) with k | k <;> rw [k] at ev h44 <;> omega
  rw [this]; rfl
 refine Um rfl rfl <| WO.Ug rfl (oFaP rfl rfl rfl rfl rfl) rfl <| WO.Ug rfl (oLdP rfl rfl rfl rfl rfl) rfl <| WO.Ug rfl (oNilE rfl rfl) rfl <| WO.B (fun h15 => ?_) (fun h15 => ?_)
 ·refine WO.U (oPkT rfl rfl) rfl <| Wn <| WC.cT rfl <| WC.assoc <| Rg 7 rfl <| WO.U (oFaP rfl rfl rfl rfl rfl) rfl <| WO.U (oLdP rfl rfl rfl rfl rfl) rfl <| WO.U (oFaP rfl rfl rfl rfl rfl) rfl <| WO.U (oLdP rfl rfl rfl rfl rfl) rfl <| WO.U (oAdd64 rfl rfl (by omega)) rfl <| WO.U (oCall rfl (of_run _ (by omega)) (by simp)) rfl <| WO.S0 (oSt (cs' := [_, _]) rfl rfl rfl rfl rfl rfl rfl rfl) <| Nw [(4, _)] ⟨rfl, trivial⟩ <| WC.rets <| post (n := 0) (.inr rfl) rfl ?_ (by simp)
  rw [ia_small (ik_eq.1 h11), ia_small (ik_eq.1 h15)]; rfl
 refine WO.U (oPkT rfl rfl) rfl <| Wn <| WC.cF rfl <| WC.skips <| Rg 7 rfl <| WO.U (oLdP (l := .agg [_, _]) rfl rfl rfl rfl rfl) rfl <| WO.U (oCall rfl (digits_run _) (by simp)) rfl <| Um rfl rfl <| WO.U (oEx rfl rfl) rfl <| WO.U (oEx rfl rfl) rfl <| Ua rfl rfl <| Ua rfl rfl <| Nw [(2, _), (3, _), (4, _), (5, _), (6, _)] ⟨rfl, rfl, rfl, rfl, rfl, trivial⟩ <| Rg 7 rfl <| WO.U (oLdP (l := .agg [_, _]) rfl rfl rfl rfl rfl) rfl <| WO.U (oCall rfl (digits_run _) (by simp)) rfl <| Um rfl rfl <| WO.U (oEx rfl rfl) rfl <| WO.U (oEx rfl rfl) rfl <| Ua rfl rfl <| Ua rfl rfl <| Wn <| WC.block ?_
 refine Rg 3 rfl <| Um rfl rfl <| WO.U (oEql rfl rfl) rfl <| WO.D (fun h35 => ?_) (fun h35 => ?_)
 ·refine Ua rfl rfl <| Nw [(2, _), (3, _), (4, _), (5, _), (6, _), (7, _), (8, _), (33, _)] ⟨rfl, rfl, rfl, rfl, rfl, rfl, rfl, rfl, trivial⟩ <| WC.cT1 rfl <| Rg 2 rfl <| WO.U (oLdP (l := .agg [_, _]) rfl rfl rfl rfl rfl) rfl <| WO.S0 (oSt (cs' := [_, _]) rfl rfl rfl rfl rfl rfl rfl rfl) <| Wn <| WC.ret <| after_ret <| post (n := 0) (.inr rfl) rfl ?_ (by simp)
  rw [ia0 h35, Int.zero_add]; rfl
 refine Ua rfl rfl <| Nw [(2, _), (3, _), (4, _), (5, _), (6, _), (7, _), (8, _), (33, _)] ⟨rfl, rfl, rfl, rfl, rfl, rfl, rfl, rfl, trivial⟩ <| WC.cF1 rfl <| Rg 3 rfl <| Um rfl rfl <| WO.U (oEql rfl rfl) rfl <| WO.D (fun h39 => ?_) (fun h39 => ?_)
 ·refine Ua rfl rfl <| Wn <| WC.cT1 rfl <| Rg 2 rfl <| WO.U (oLdP (l := .agg [_, _]) rfl rfl rfl rfl rfl) rfl <| WO.S0 (oSt (cs' := [_, _]) rfl rfl rfl rfl rfl rfl rfl rfl) <| Wn <| WC.ret <| after_ret <| post (n := 0) (.inr rfl) rfl ?_ (by simp)
  rw [ia0 h39, Int.add_zero]; rfl
 refine Ua rfl rfl <| Wn <| WC.cF1 rfl <| Rg 4 rfl <| Um rfl rfl <| Um rfl rfl <| WO.U (oEql rfl rfl) rfl <| WO.D (fun h44 => ?_) (fun h44 => ?_)
 ·refine Ua rfl rfl <| Nw [(4, _), (5, _), (6, _), (7, _), (8, _), (41, _)] ⟨rfl, rfl, rfl, rfl, rfl, rfl, trivial⟩ <| WC.cT1 rfl ?_
  have hsv : v.sign = 1 ∨ v.sign = -1 := by rcases Int.sign_trichotomy v with h | h | h <;> omega
  obtain ⟨r, hr, ds, rfl, hdd, hvl, hln⟩ := plus_run 1 1 _ _ qv qw (by omega) (by omega)
  refine Rg 6 rfl <| Um rfl rfl <| Um rfl rfl <| Um rfl rfl <| WO.U (oCall rfl (hr) (by simp)) rfl <| WO.U (oCall rfl (made_run v.sign 1 ds (by omega) (.inl rfl) hdd (by omega)) (by simp)) rfl <| WO.S0 (oSt (cs' := [_, _]) rfl rfl rfl rfl rfl rfl rfl rfl) <| Wn <| WC.ret <| after_ret <| post (n := 0) (.inr rfl) rfl ?_ (by simp)
  have : v.sign * (val B32 ds : Int) = v + w := by
   rw [hvl, dv, dw]; rcases hsv with h | h <;> rw [h] at ev h44 ⊢ <;> rw [← h44] at ew <;> omega
  rw [this]; rfl
 refine Ua rfl rfl <| Nw [(4, _), (5, _), (6, _), (7, _), (8, _), (41, _)] ⟨rfl, rfl, rfl, rfl, rfl, rfl, trivial⟩ <| WC.cF1 rfl <| Rg 5 rfl <| Um rfl rfl <| Um rfl rfl <| WO.U (oCall rfl (compare_run 1 1 _ _ qv qw tv tw (by omega) (by omega)) (by simp)) rfl <| WO.U (oGeq rfl rfl) rfl <| WO.D (fun h54 => ?_) (fun h54 => ?_)
 ·refine Ua rfl rfl <| Wn <| WC.cT1 rfl ?_
  have hsv : v.sign = 1 ∨ v.sign = -1 := by rcases Int.sign_trichotomy v with h | h | h <;> omega
  have hge : val B32 (dgs B32 w.natAbs) ≤ val B32 (dgs B32 v.natAbs) := by
   rcases Nat.lt_or_ge (val B32 (dgs B32 v.natAbs)) (val B32 (dgs B32 w.natAbs)) with h | h
   ·rw [Int.sign_eq_neg_one_of_neg (by omega)] at h54; omega
   ·exact h
  have hll : (dgs B32 w.natAbs).length ≤ (dgs B32 v.natAbs).length := by
   rcases Nat.lt_or_ge (dgs B32 v.natAbs).length (dgs B32 w.natAbs).length with h | h
   ·have := val_lt_len (by decide) qv tw h; omega
   ·exact h
  obtain ⟨r, hr, ds, rfl, hdd, hvl, hln⟩ := minus_run 1 1 _ _ qv qw (by omega) hll hge
  refine Rg 6 rfl <| Um rfl rfl <| Um rfl rfl <| Um rfl rfl <| WO.U (oCall rfl (hr) (by simp)) rfl <| WO.U (oCall rfl (made_run v.sign 1 ds (by omega) (.inl rfl) hdd (by omega)) (by simp)) rfl <| WO.S0 (oSt (cs' := [_, _]) rfl rfl rfl rfl rfl rfl rfl rfl) <| Nw [(4, _)] ⟨rfl, trivial⟩ <| WC.ret <| after_ret <| post (n := 0) (.inr rfl) rfl ?_ (by simp)
  have : v.sign * (val B32 ds : Int) = v + w := by
   rw [hvl, dv, dw] at *; rcases hsv with h | h <;> rw [h] at ev h44 ⊢ <;> rcases (show w.sign = 1 ∨ w.sign = -1 by rcases Int.sign_trichotomy w with h | h | h <;> omega) with k | k <;> rw [k] at ew h44 <;> omega
  rw [this]; rfl
 refine Ua rfl rfl <| Wn <| WC.cF1 rfl <| WC.skip <| after_normal ?_
 have hsv : w.sign = 1 ∨ w.sign = -1 := by rcases Int.sign_trichotomy w with h | h | h <;> omega
 have hge : val B32 (dgs B32 v.natAbs) ≤ val B32 (dgs B32 w.natAbs) := by
  rcases Nat.lt_or_ge (val B32 (dgs B32 w.natAbs)) (val B32 (dgs B32 v.natAbs)) with h | h
  ·rw [Int.sign_eq_one_of_pos (by omega)] at h54; omega
  ·exact h
 have hll : (dgs B32 v.natAbs).length ≤ (dgs B32 w.natAbs).length := by
  rcases Nat.lt_or_ge (dgs B32 w.natAbs).length (dgs B32 v.natAbs).length with h | h
  ·have := val_lt_len (by decide) qw tv h; omega
  ·exact h
 obtain ⟨r, hr, ds, rfl, hdd, hvl, hln⟩ := minus_run 1 1 _ _ qw qv (by omega) hll hge
 refine Rg 6 rfl <| Um rfl rfl <| Um rfl rfl <| Um rfl rfl <| WO.U (oCall rfl (hr) (by simp)) rfl <| WO.U (oCall rfl (made_run w.sign 1 ds (by omega) (.inl rfl) hdd (by omega)) (by simp)) rfl <| WO.S0 (oSt (cs' := [_, _]) rfl rfl rfl rfl rfl rfl rfl rfl) <| Nw [(4, _)] ⟨rfl, trivial⟩ <| WC.ret <| post (n := 0) (.inr rfl) rfl ?_ (by simp)
 have : w.sign * (val B32 ds : Int) = v + w := by
  rw [hvl, dv, dw] at *; rcases hsv with h | h <;> rw [h] at ew h44 ⊢ <;> rcases (show v.sign = 1 ∨ v.sign = -1 by rcases Int.sign_trichotomy v with h | h | h <;> omega) with k | k <;> rw [k] at ev h44 <;> omega
 rw [this]; rfl
end Go.Proofs.YtcmieifjephdcaaGreat
set_option linter.unusedVariables false
set_option linter.unusedSimpArgs false
set_option maxRecDepth 100000
namespace Go.Proofs.YtcmieifjephdcaaGreat
open Go.Ab Go.RowKit
theorem mul64_run (x y : Nat) (hx : x < 18446744073709551616) (hy : y < 18446744073709551616) : Run Tryz.prog T E0 (.call 132 [.v (.int .u64 (x : Int)), .v (.int .u64 (y : Int))] (.tup [.v (.int .u64 ((x * y / 18446744073709551616 : Nat) : Int)), .v (.int .u64 ((x * y % 18446744073709551616 : Nat) : Int))])) := by
 obtain ⟨p00, h00⟩ : ∃ p, p = (x % 4294967296) * (y % 4294967296) := ⟨_, rfl⟩
 obtain ⟨p10, h10⟩ : ∃ p, p = (x / 4294967296) * (y % 4294967296) := ⟨_, rfl⟩
 obtain ⟨p01, h01⟩ : ∃ p, p = (x % 4294967296) * (y / 4294967296) := ⟨_, rfl⟩
 obtain ⟨p11, h11⟩ : ∃ p, p = (x / 4294967296) * (y / 4294967296) := ⟨_, rfl⟩
 have b00 := mul_dig (a := x % 4294967296) (b := y % 4294967296) (by omega) (by omega)
 have b10 := mul_dig (a := x / 4294967296) (b := y % 4294967296) (by omega) (by omega)
 have b01 := mul_dig (a := x % 4294967296) (b := y / 4294967296) (by omega) (by omega)
 have b11 := mul_dig (a := x / 4294967296) (b := y / 4294967296) (by omega) (by omega)
 have hxy := mul_words h00 h10 h01 h11
 rw [← h00] at b00
 rw [← h10] at b10
 rw [← h01] at b01
 rw [← h11] at b11
 refine mkcall Tryz.func132 rfl rfl (Nat.le_of_ble_eq_true rfl) <| Rg 2 rfl <| Ua rfl rfl <| Ua rfl rfl <| Wn <| Rg 3 rfl <| Um rfl rfl <| WO.U (oBin (v := .int .u64 ((x % 4294967296 : Nat) : Int)) rfl rfl (mask32 hx)) rfl <| Ua rfl rfl <| Wn <| Rg 3 rfl <| Um rfl rfl <| WO.U (cI (((x / 4294967296 : Nat) : Int)) (oShrU (s := 32) rfl rfl (by omega)) (by omega)) rfl <| Ua rfl rfl <| Wn <| Rg 3 rfl <| Um rfl rfl <| WO.U (oBin (v := .int .u64 ((y % 4294967296 : Nat) : Int)) rfl rfl (mask32 hy)) rfl <| Ua rfl rfl <| Wn <| Rg 3 rfl <| Um rfl rfl <| WO.U (cI (((y / 4294967296 : Nat) : Int)) (oShrU (s := 32) rfl rfl (by omega)) (by omega)) rfl <| Ua rfl rfl ?_
 refine Nw [(0, _), (1, _), (6, _), (7, _), (8, _), (9, _)] ⟨rfl, rfl, rfl, rfl, rfl, rfl, trivial⟩ <| Rg 4 rfl <| Um rfl rfl <| Um rfl rfl <| WO.U (cI ((p00 : Int)) (oMulU rfl rfl) (by rw [← Int.natCast_mul, ← h00]; omega)) rfl <| Ua rfl rfl <| Wn <| Rg 7 rfl <| Um rfl rfl <| Um rfl rfl <| WO.U (cI ((p10 : Int)) (oMulU rfl rfl) (by rw [← Int.natCast_mul, ← h10]; omega)) rfl <| Um rfl rfl <| WO.U (cI (((p00 / 4294967296 : Nat) : Int)) (oShrU (s := 32) rfl rfl (by omega)) (by omega)) rfl <| WO.U (cI (((p10 + p00 / 4294967296 : Nat) : Int)) (oAddU rfl rfl) (by omega)) rfl <| Ua rfl rfl <| Nw [(0, _), (1, _), (6, _), (7, _), (9, _), (11, _)] ⟨rfl, rfl, rfl, rfl, rfl, rfl, trivial⟩ <| Rg 3 rfl <| Um rfl rfl <| WO.U (oBin (v := .int .u64 (((p10 + p00 / 4294967296) % 4294967296 : Nat) : Int)) rfl rfl (mask32 (by omega))) rfl <| Ua rfl rfl <| Wn <| Rg 3 rfl ?_
 refine Um rfl rfl <| WO.U (cI ((((p10 + p00 / 4294967296) / 4294967296 : Nat) : Int)) (oShrU (s := 32) rfl rfl (by omega)) (by omega)) rfl <| Ua rfl rfl <| Wn <| Rg 6 rfl <| Um rfl rfl <| Um rfl rfl <| Um rfl rfl <| WO.U (cI ((p01 : Int)) (oMulU rfl rfl) (by rw [← Int.natCast_mul, ← h01]; omega)) rfl <| WO.U (cI ((((p10 + p00 / 4294967296) % 4294967296 + p01 : Nat) : Int)) (oAddU rfl rfl) (by omega)) rfl <| Ua rfl rfl <| Nw [(0, _), (1, _), (7, _), (9, _), (12, _), (13, _)] ⟨rfl, rfl, rfl, rfl, rfl, rfl, trivial⟩ <| Rg 9 rfl <| Um rfl rfl <| Um rfl rfl <| WO.U (cI ((p11 : Int)) (oMulU rfl rfl) (by rw [← Int.natCast_mul, ← h11]; omega)) rfl <| Um rfl rfl <| WO.U (cI (((p11 + (p10 + p00 / 4294967296) / 4294967296 : Nat) : Int)) (oAddU rfl rfl) (by omega)) rfl <| Um rfl rfl <| WO.U (cI (((((p10 + p00 / 4294967296) % 4294967296 + p01) / 4294967296 : Nat) : Int)) (oShrU (s := 32) rfl rfl (by omega)) (by omega)) rfl <| WO.U (cI (((x * y / 18446744073709551616 : Nat) : Int)) (oAddU rfl rfl) (by rw [hxy]; omega)) rfl <| Ua rfl rfl <| WO.nil ?_
 refine WC.weak [(0, _), (1, _), (4, _)] ⟨rfl, rfl, rfl, trivial⟩ <| Rg 4 rfl <| Um rfl rfl <| Um rfl rfl <| WO.U (cI (((x * y % 18446744073709551616 : Nat) : Int)) (oMulU rfl rfl) (by rw [← Int.natCast_mul]; rfl)) rfl <| Ua rfl rfl <| Wn <| WC.ret ?_
 exact post (n := 0) (.inr rfl) rfl rfl (by simp)
theorem mul_run (v w : Int) (hv : len32 v < 549755813888) (hw : len32 w < 549755813888) : Run Tryz.prog T E0 (.call 119 [lvI v, lvI w] (lvI (v * w))) := by
 have bv := ia_bd v
 have bw := ia_bd w
 have ev := sign_mul_abs v
 have ew := sign_mul_abs w
 have evw : v * w = v.sign * w.sign * ((v.natAbs * w.natAbs : Nat) : Int) := by
  rw [Int.natCast_mul]; grind
 obtain ⟨σ, hσ⟩ : ∃ σ, σ = v.sign * w.sign := ⟨_, rfl⟩
 have hs3 : σ = 1 ∨ σ = -1 ∨ σ = 0 ∧ v.natAbs * w.natAbs = 0 := by
  rcases Int.sign_trichotomy v with h | h | h <;> rcases Int.sign_trichotomy w with k | k | k <;> rw [h, k] at hσ <;> simp at hσ <;> first | exact .inl hσ | exact .inr (.inl hσ) | skip
  all_goals (refine .inr (.inr ⟨hσ, ?_⟩); first | (rw [ia0 h]; simp; done) | (rw [ia0 k]; simp))
 rw [← hσ] at evw
 obtain ⟨xs, hxs⟩ : ∃ xs, xs = dgs B32 v.natAbs := ⟨_, rfl⟩
 obtain ⟨ys, hys⟩ : ∃ ys, ys = dgs B32 w.natAbs := ⟨_, rfl⟩
 have dv : val B32 xs = v.natAbs := by rw [hxs]; exact dgs_val (by decide) _
 have dw : val B32 ys = w.natAbs := by rw [hys]; exact dgs_val (by decide) _
 have qv : Dg B32 xs := by rw [hxs]; exact dgs_dg (by decide) _
 have qw : Dg B32 ys := by rw [hys]; exact dgs_dg (by decide) _
 have lv : xs.length < 549755813888 := by rw [hxs]; exact hv
 have lw : ys.length < 549755813888 := by rw [hys]; exact hw
 refine mkcall Tryz.func119 rfl rfl (Nat.le_of_ble_eq_true rfl) ?_
 have J5 : ∀  (n : Nat) (hn : 3 ≤ n), WC Tryz.prog T E0 Tryz.f119.ntmps (codeR (codeR (codeOf Tryz.f119))) [(2, .ptr 0 0), (3, .ptr 1 0), (4, .ptr 2 0)] [(2, { cells := [.v (.int .i64 0), .sl 0 []], sz := 2, elem := 75, st := 0 }), (1, { cells := (lvI w).cells, sz := (lvI w).cells.length, elem := 75, st := 0 }), (0, { cells := (lvI v).cells, sz := (lvI v).cells.length, elem := 75, st := 0 })] n (Post T Tryz.f119.results.toList (lvI (v * w))) := by
  intro  n hn
  refine Rg 7 rfl <| WO.U (oLdP (l := .agg [_, _]) rfl rfl rfl rfl rfl) rfl <| WO.U (oCall rfl ((hxs ▸ digits_run v)) (by simp)) rfl <| Um rfl rfl <| WO.U (oEx rfl rfl) rfl <| WO.U (oEx rfl rfl) rfl <| Ua rfl rfl <| Ua rfl rfl <| Wn <| Rg 7 rfl <| WO.U (oLdP (l := .agg [_, _]) rfl rfl rfl rfl rfl) rfl <| WO.U (oCall rfl ((hys ▸ digits_run w)) (by simp)) rfl <| Um rfl rfl <| WO.U (oEx rfl rfl) rfl <| WO.U (oEx rfl rfl) rfl <| Ua rfl rfl <| Ua rfl rfl <| Nw [(4, _), (7, _), (8, _), (9, _), (10, _)] ⟨rfl, rfl, rfl, rfl, rfl, trivial⟩ <| Rg 7 rfl <| Um rfl rfl <| WO.U (oLenM rfl rfl) rfl <| Um rfl rfl <| WO.U (oLenM rfl rfl) rfl ?_
  refine WO.U (oAdd64 rfl rfl (by omega)) rfl <| WO.S (oMk (a := xs.length + ys.length) (b := xs.length + ys.length) rfl rfl rfl rfl (by omega) (by omega) (by decide) (by omega) (by show 4 * (xs.length + ys.length) ≤ _; omega) (by omega)) rfl <| Ua rfl rfl <| Wn <| WC.assoc <| Rg 3 rfl <| Um rfl rfl <| WO.U (oLenM rfl rfl) rfl <| Um rfl rfl <| Nw [(4, _), (7, _), (9, _), (10, _), (11, _), (74, _), (75, _), (76, _)] ⟨rfl, rfl, rfl, rfl, rfl, rfl, rfl, rfl, trivial⟩ <| WC.block <| WC.loopV (α := Nat × Nat × (List Nat)) (fun ⟨i, q, us⟩ => [(4, .ptr 2 0), (7, .v (.int .i64 v.sign)), (9, .v (.int .i64 w.sign)), (10, .sl 1 (ys.map d32)), (11, .ref q 1 0 us.length), (74, .sl 1 (xs.map d32)), (75, .v (.int .i64 (xs.length : Int))), (76, .v (.int .i64 (i : Int)))]) (fun ⟨i, q, us⟩ => [(q, { cells := (us.map d32).flatten, sz := 1, elem := 125, st := 0 }), (2, { cells := [.v (.int .i64 0), .sl 0 []], sz := 2, elem := 75, st := 0 })]) (fun ⟨i, q, us⟩ n => i ≤ xs.length ∧ us.length = xs.length + ys.length ∧ Dg B32 us ∧ val B32 us = val B32 (xs.take i) * val B32 ys ∧ (∀ j, i + ys.length ≤ j → us.getD j default = 0) ∧ 2 < q) (fun ⟨i, q, us⟩ => xs.length - i) (0, n + 7 + 7 + 5, List.replicate (xs.length + ys.length) 0) ⟨rfl, rfl, rfl, rfl, congrArg some (by rw [List.length_replicate]; rfl), rfl, rfl, rfl, trivial⟩ ⟨g0.trans (by rw [List.map_replicate]; rfl), g1 (by omega) rfl, trivial⟩ ⟨Nat.zero_le _, by simp, by intro d hd; simp at hd; rw [hd.2]; decide, by rw [val_zeros]; simp [val], by intro j _; exact getD_zeros _ _, by omega⟩ ?_
  rintro ⟨i, q, us⟩ n hF
  change WC _ _ _ _ _ [(4, .ptr 2 0), (7, .v (.int .i64 v.sign)), (9, .v (.int .i64 w.sign)), (10, .sl 1 (ys.map d32)), (11, .ref q 1 0 us.length), (74, .sl 1 (xs.map d32)), (75, .v (.int .i64 (xs.length : Int))), (76, .v (.int .i64 (i : Int)))] ([(q, { cells := (us.map d32).flatten, sz := 1, elem := 125, st := 0 }), (2, { cells := [.v (.int .i64 0), .sl 0 []], sz := 2, elem := 75, st := 0 })]) n _
  obtain ⟨hi, hul, hud, huv, huz, hq⟩ := hF
  refine Rg 1 rfl <| WO.U (oLss rfl rfl) rfl <| WO.D (fun h77 => ?_) (fun h77 => ?_)
  rotate_left
  ·refine Wn <| WC.cF rfl <| WC.exits <| loopR_exit <| after_exit rfl ?_
   have hE : val B32 us = v.natAbs * w.natAbs := by
    rw [huv, List.take_of_length_le (by omega), dv, dw]
   refine Rg 6 rfl <| Um rfl rfl <| Um rfl rfl <| WO.U (cI σ (oMul64 rfl rfl (by rw [← hσ]; omega)) hσ.symm) rfl <| Um rfl rfl <| WO.S (oCallF [.v (.int .i64 σ), .sl 1 (us.map d32)] [(q, { cells := (us.map d32).flatten, sz := 1, elem := 125, st := 1 })] rfl (made_run σ 1 us (by rw [hE]; exact hs3) (.inl rfl) hud (by omega)) (.data (by simp) (.own _ (by simp) g0 (by show (0 : Nat) ≠ 2; decide) rfl (by decide) (by simp [keys]) rfl rows_d32 data_rows_d32 .nil)) (by intro p hp; simp at hp; subst hp; exact ⟨_, g0, by show (0 : Nat) ≠ 2; decide, rfl⟩)) rfl <| WO.S0 (oSt (cs' := [_, _]) rfl rfl rfl (g1 (by omega) (g1 (by omega) rfl)) rfl rfl rfl rfl) <| Wn <| WC.ret <| post (n := 0) (.inr rfl) rfl ?_ (by simp)
   rw [evw, ← hE]; rfl
  refine Wn <| WC.cT rfl <| WC.skips <| WC.block <| Rg 5 rfl <| Um rfl rfl <| WO.U (oIxM rfl rfl rfl rfl rfl (by omega) rfl) rfl <| WO.U (oLd rfl rfl rfl) rfl <| Ua rfl rfl <| Ua rfl rfl <| Wn <| Rg 1 rfl <| Ua rfl rfl <| Nw [(4, _), (7, _), (9, _), (10, _), (11, _), (12, _), (13, _), (14, _), (74, _), (75, _), (76, _)] ⟨rfl, rfl, rfl, rfl, rfl, rfl, rfl, rfl, rfl, rfl, rfl, trivial⟩ <| WC.assoc <| Rg 3 rfl <| Um rfl rfl <| WO.U (oLenM rfl rfl) rfl <| Um rfl rfl <| Wn <| WC.block <| WC.loopV (α := Nat × Nat × (List Nat)) (fun ⟨k, c, us1⟩ => [(4, .ptr 2 0), (7, .v (.int .i64 v.sign)), (9, .v (.int .i64 w.sign)), (10, .sl 1 (ys.map d32)), (11, .ref q 1 0 us1.length), (12, .v (.int .i64 (i : Int))), (13, .v (.int .u32 (xs.getD i default : Int))), (14, .v (.int .u64 (c : Int))), (74, .sl 1 (xs.map d32)), (75, .v (.int .i64 (xs.length : Int))), (76, .v (.int .i64 (i : Int))), (81, .sl 1 (ys.map d32)), (82, .v (.int .i64 (ys.length : Int))), (83, .v (.int .i64 (k : Int)))]) (fun ⟨k, c, us1⟩ => [(q, { cells := (us1.map d32).flatten, sz := 1, elem := 125, st := 0 }), (2, { cells := [.v (.int .i64 0), .sl 0 []], sz := 2, elem := 75, st := 0 })]) (fun ⟨k, c, us1⟩ n => k ≤ ys.length ∧ us1.length = us.length ∧ Dg B32 us1 ∧ c < 4294967296 ∧ val B32 us1 + B32 ^ (i + k) * c = val B32 us + B32 ^ i * (xs.getD i default * val B32 (ys.take k)) ∧ (∀ j, i + k ≤ j → us1.getD j default = us.getD j default)) (fun ⟨k, c, us1⟩ => ys.length - k) (0, 0, us) ⟨rfl, rfl, rfl, rfl, rfl, rfl, rfl, rfl, rfl, rfl, rfl, rfl, rfl, rfl, trivial⟩ ⟨g0, g1 (by omega) rfl, trivial⟩ ⟨Nat.zero_le _, rfl, hud, by decide, by simp [val], fun _ _ => rfl⟩ ?_
  rintro ⟨k, c, us1⟩ n hG
  change WC _ _ _ _ _ [(4, .ptr 2 0), (7, .v (.int .i64 v.sign)), (9, .v (.int .i64 w.sign)), (10, .sl 1 (ys.map d32)), (11, .ref q 1 0 us1.length), (12, .v (.int .i64 (i : Int))), (13, .v (.int .u32 (xs.getD i default : Int))), (14, .v (.int .u64 (c : Int))), (74, .sl 1 (xs.map d32)), (75, .v (.int .i64 (xs.length : Int))), (76, .v (.int .i64 (i : Int))), (81, .sl 1 (ys.map d32)), (82, .v (.int .i64 (ys.length : Int))), (83, .v (.int .i64 (k : Int)))] ([(q, { cells := (us1.map d32).flatten, sz := 1, elem := 125, st := 0 }), (2, { cells := [.v (.int .i64 0), .sl 0 []], sz := 2, elem := 75, st := 0 })]) n _
  obtain ⟨hk, hl1, hd1, hc1, hv1, hz1⟩ := hG
  refine Rg 1 rfl <| WO.U (oLss rfl rfl) rfl <| WO.D (fun h84 => ?_) (fun h84 => ?_)
  rotate_left
  ·refine Nw [(4, _), (7, _), (9, _), (10, _), (11, _), (12, _), (13, _), (14, _), (74, _), (75, _), (76, _), (81, _), (82, _), (83, _), (84, _)] ⟨rfl, rfl, rfl, rfl, rfl, rfl, rfl, rfl, rfl, rfl, rfl, rfl, rfl, rfl, rfl, trivial⟩ <| WC.cF rfl <| WC.exits <| loopR_exit <| after_exit rfl <| WC.weak [(4, _), (7, _), (9, _), (10, _), (11, _), (12, _), (14, _), (74, _), (75, _), (76, _)] ⟨rfl, rfl, rfl, rfl, rfl, rfl, rfl, rfl, rfl, rfl, trivial⟩ <| WC.reg1z (z := 9) rfl <| Um rfl rfl <| Um rfl rfl <| Um rfl rfl <| WO.U (oLenM rfl rfl) rfl <| WO.U (cI (((i + ys.length : Nat) : Int)) (oAdd64 rfl rfl (by omega)) (by omega)) rfl <| Um rfl rfl <| WO.U (cI ((c : Int)) (oCnv rfl rfl rfl) (by rw [IntKind.wrap_u32]; omega)) rfl <| WO.U (oIxR rfl rfl rfl rfl rfl (by omega) rfl) rfl <| WO.S0 (oStO (f := d32) (us := us1) c rfl rfl rfl g0 (fun _ => rfl) rfl rfl (by omega) rfl) <| Wn <| after_normal <| WC.weak [(4, _), (7, _), (9, _), (10, _), (11, _), (74, _), (75, _), (76, _)] ⟨rfl, rfl, rfl, rfl, rfl, rfl, rfl, rfl, trivial⟩ <| WC.reg1z (z := 2) rfl <| WO.U (cI (((i + 1 : Nat) : Int)) (oAdd64 rfl rfl (by omega)) (by omega)) rfl <| Um rfl rfl <| WO.nil ?_
   refine loopR_normal <| ⟨⟨i + 1, q, us1.set (i + ys.length) c⟩, ⟨rfl, rfl, rfl, rfl, congrArg some (by rw [List.length_set]), rfl, rfl, rfl, trivial⟩, ⟨g0, g1 (by omega) (g1 (by omega) rfl), trivial⟩, ⟨by omega, by rw [List.length_set]; omega, hd1.set _ hc1, ?_, ?_, hq⟩, by show xs.length - (i + 1) < xs.length - i; omega⟩
   ·have hk' : k = ys.length := by omega
    subst hk'
    have h1 := val_set (B := B32) us1 (i + ys.length) c (by omega)
    rw [hz1 _ (Nat.le_refl _), huz _ (Nat.le_refl _), Nat.mul_zero, Nat.add_zero] at h1
    rw [h1, hv1, huv, take_succ_val, List.take_of_length_le (Nat.le_refl _), Nat.add_mul, Nat.mul_assoc]
   ·intro j hj
    rw [lgetD_set (by omega), hz1 j (by omega)]; exact huz j (by omega)
  refine Nw [(4, _), (7, _), (9, _), (10, _), (11, _), (12, _), (13, _), (14, _), (74, _), (75, _), (76, _), (81, _), (82, _), (83, _), (84, _)] ⟨rfl, rfl, rfl, rfl, rfl, rfl, rfl, rfl, rfl, rfl, rfl, rfl, rfl, rfl, rfl, trivial⟩ <| WC.cT rfl <| WC.skips <| WC.block <| Rg 5 rfl <| Um rfl rfl <| WO.U (oIxM rfl rfl rfl rfl rfl (by omega) rfl) rfl <| WO.U (oLd rfl rfl rfl) rfl <| Ua rfl rfl <| Ua rfl rfl <| Nw [(4, _), (7, _), (9, _), (10, _), (11, _), (12, _), (13, _), (14, _), (15, _), (16, _), (74, _), (75, _), (76, _), (81, _), (82, _), (83, _)] ⟨rfl, rfl, rfl, rfl, rfl, rfl, rfl, rfl, rfl, rfl, rfl, rfl, rfl, rfl, rfl, rfl, trivial⟩ ?_
  have hp : xs.getD i default < 4294967296 := getD_lt qv (by omega)
  have hqk : ys.getD k default < 4294967296 := getD_lt qw (by omega)
  have ho : us1.getD (i + k) default < 4294967296 := getD_lt hd1 (by omega)
  have hpq := mul_dig hp hqk
  refine Rg 16 rfl <| Um rfl rfl <| Um rfl rfl <| WO.U (cI ((xs.getD i default : Int)) (oCnv rfl rfl rfl) (by rw [IntKind.wrap_u64]; omega)) rfl <| Um rfl rfl <| WO.U (cI ((ys.getD k default : Int)) (oCnv rfl rfl rfl) (by rw [IntKind.wrap_u64]; omega)) rfl <| WO.U (cI (((xs.getD i default * ys.getD k default : Nat) : Int)) (oMulU rfl rfl) (by rw [← Int.natCast_mul]; omega)) rfl <| Um rfl rfl <| Um rfl rfl <| Um rfl rfl <| WO.U (cI (((i + k : Nat) : Int)) (oAdd64 rfl rfl (by omega)) (by omega)) rfl <| WO.U (oIxR rfl rfl rfl rfl rfl (by omega) rfl) rfl <| WO.U (oLdO (f := d32) (us := us1) (j := i + k) rfl rfl g0 (fun _ => rfl) rfl (by decide) (by omega) rfl) rfl <| WO.U (cI ((us1.getD (i + k) default : Int)) (oCnv rfl rfl rfl) (by rw [IntKind.wrap_u64]; omega)) rfl <| WO.U (cI (((xs.getD i default * ys.getD k default + us1.getD (i + k) default : Nat) : Int)) (oAddU rfl rfl) (by omega)) rfl <| WO.U (cI ((((c + (xs.getD i default * ys.getD k default + us1.getD (i + k) default)) : Nat) : Int)) (oAddU rfl rfl) (by omega)) rfl <| Ua rfl rfl <| Nw [(4, _), (7, _), (9, _), (10, _), (11, _), (12, _), (13, _), (14, _), (15, _), (74, _), (75, _), (76, _), (81, _), (82, _), (83, _)] ⟨rfl, rfl, rfl, rfl, rfl, rfl, rfl, rfl, rfl, rfl, rfl, rfl, rfl, rfl, rfl, trivial⟩ <| Rg 8 rfl <| Um rfl rfl <| Um rfl rfl <| Um rfl rfl <| WO.U (cI (((i + k : Nat) : Int)) (oAdd64 rfl rfl (by omega)) (by omega)) rfl ?_
  refine Um rfl rfl <| WO.U (cI ((((c + (xs.getD i default * ys.getD k default + us1.getD (i + k) default)) % 4294967296 : Nat) : Int)) (oCnv rfl rfl rfl) (by rw [IntKind.wrap_u32]; omega)) rfl <| WO.U (oIxR rfl rfl rfl rfl rfl (by omega) rfl) rfl <| WO.S0 (oStO (f := d32) (us := us1) ((c + (xs.getD i default * ys.getD k default + us1.getD (i + k) default)) % 4294967296) rfl rfl rfl g0 (fun _ => rfl) rfl rfl (by omega) rfl) <| Nw [(4, _), (7, _), (9, _), (10, _), (11, _), (12, _), (13, _), (14, _), (74, _), (75, _), (76, _), (81, _), (82, _), (83, _)] ⟨rfl, rfl, rfl, rfl, rfl, rfl, rfl, rfl, rfl, rfl, rfl, rfl, rfl, rfl, trivial⟩ <| WC.reg1z (z := 3) rfl <| Um rfl rfl <| WO.U (cI ((((c + (xs.getD i default * ys.getD k default + us1.getD (i + k) default)) / 4294967296 : Nat) : Int)) (oShrU (s := 32) rfl rfl (by omega)) (by omega)) rfl <| Ua rfl rfl <| Wn <| after_normal <| WC.weak [(4, _), (7, _), (9, _), (10, _), (11, _), (12, _), (13, _), (14, _), (74, _), (75, _), (76, _), (81, _), (82, _), (83, _)] ⟨rfl, rfl, rfl, rfl, rfl, rfl, rfl, rfl, rfl, rfl, rfl, rfl, rfl, rfl, trivial⟩ <| WC.reg1z (z := 2) rfl <| WO.U (cI (((k + 1 : Nat) : Int)) (oAdd64 rfl rfl (by omega)) (by omega)) rfl <| Um rfl rfl <| Wn <| loopR_normal <| ⟨⟨k + 1, (c + (xs.getD i default * ys.getD k default + us1.getD (i + k) default)) / 4294967296, us1.set (i + k) ((c + (xs.getD i default * ys.getD k default + us1.getD (i + k) default)) % 4294967296)⟩, ⟨rfl, rfl, rfl, rfl, congrArg some (by rw [List.length_set]), rfl, rfl, rfl, rfl, rfl, rfl, rfl, rfl, rfl, trivial⟩, ⟨g0, g1 (by omega) (g1 (by omega) rfl), trivial⟩, ⟨by omega, by rw [List.length_set]; exact hl1, hd1.set _ (Nat.mod_lt _ (by decide)), by omega, mul_step hv1 (by omega), ?_⟩, by show ys.length - (k + 1) < ys.length - k; omega⟩
  intro j hj
  rw [lgetD_set (by omega)]; exact hz1 j (by omega)
 refine Rg 3 rfl <| WO.S (oBx rfl rfl) rfl <| WO.S (oBx rfl rfl) rfl <| WO.S (oAl rfl) rfl <| Wn <| WC.assoc <| Rg 8 rfl <| WO.U (oFaP rfl rfl rfl rfl rfl) rfl <| WO.U (oLdP rfl rfl rfl rfl rfl) rfl <| WO.U (oNilE rfl rfl) rfl <| WO.B (fun h19 => ?_) (fun h19 => ?_)
 rotate_left
 ·refine Um rfl rfl <| WO.K rfl rfl <| WO.K rfl rfl <| WO.K rfl rfl <| WO.U (oPkF rfl rfl) rfl <| Wn <| WC.cF rfl <| WC.skips <| WC.weak [(2, _), (3, _), (4, _)] ⟨rfl, rfl, rfl, trivial⟩ ?_
  exact J5 _ (by omega)
 refine Um rfl rfl <| WO.Ug rfl (oFaP rfl rfl rfl rfl rfl) rfl <| WO.Ug rfl (oLdP rfl rfl rfl rfl rfl) rfl <| WO.Ug rfl (oNilE rfl rfl) rfl <| WO.B (fun h23 => ?_) (fun h23 => ?_)
 rotate_left
 ·refine WO.U (oPkT rfl rfl) rfl <| Wn <| WC.cF rfl <| WC.skips <| WC.weak [(2, _), (3, _), (4, _)] ⟨rfl, rfl, rfl, trivial⟩ ?_
  exact J5 _ (by omega)
 refine WO.U (oPkT rfl rfl) rfl <| Wn <| WC.cT rfl <| WC.assoc ?_
 have hia := ia_small (ik_eq.1 h19)
 have hiw := ia_small (ik_eq.1 h23)
 refine Rg 20 rfl <| WO.U (oFaP rfl rfl rfl rfl rfl) rfl <| WO.U (oLdP rfl rfl rfl rfl rfl) rfl <| WO.U (oFaP rfl rfl rfl rfl rfl) rfl <| WO.U (oLdP rfl rfl rfl rfl rfl) rfl <| WO.U (oNeg64 rfl (by omega)) rfl <| WO.U (cI (((v.natAbs : Nat) : Int)) (oMax rfl rfl) (by rw [hia]; split <;> omega)) rfl <| WO.U (cI (((v.natAbs : Nat) : Int)) (oCnv rfl rfl rfl) (by rw [IntKind.wrap_u64]; omega)) rfl <| WO.U (oFaP rfl rfl rfl rfl rfl) rfl <| WO.U (oLdP rfl rfl rfl rfl rfl) rfl <| WO.U (oFaP rfl rfl rfl rfl rfl) rfl <| WO.U (oLdP rfl rfl rfl rfl rfl) rfl <| WO.U (oNeg64 rfl (by omega)) rfl <| WO.U (cI (((w.natAbs : Nat) : Int)) (oMax rfl rfl) (by rw [hiw]; split <;> omega)) rfl <| WO.U (cI (((w.natAbs : Nat) : Int)) (oCnv rfl rfl rfl) (by rw [IntKind.wrap_u64]; omega)) rfl <| WO.U (oCall rfl (mul64_run v.natAbs w.natAbs (by omega) (by omega)) (by simp)) rfl <| Um rfl rfl <| WO.U (oEx rfl rfl) rfl <| WO.U (oEx rfl rfl) rfl <| Ua rfl rfl <| Ua rfl rfl <| Nw [(2, _), (3, _), (4, _), (5, _), (6, _)] ⟨rfl, rfl, rfl, rfl, rfl, trivial⟩ <| WC.assoc ?_
 refine Rg 6 rfl <| Um rfl rfl <| WO.U (oEql rfl rfl) rfl <| WO.D (fun h44 => ?_) (fun h44 => ?_)
 rotate_left
 ·refine Um rfl rfl <| WO.K rfl rfl <| WO.K rfl rfl <| WO.U (oPkF rfl rfl) rfl <| Wn <| WC.cF rfl <| WC.skips <| WC.weak [(2, _), (3, _), (4, _)] ⟨rfl, rfl, rfl, trivial⟩ ?_
  exact J5 _ (by omega)
 refine Um rfl rfl <| WO.Ug rfl (oMv rfl) rfl <| WO.Ug rfl (oLss rfl rfl) rfl <| WO.D (fun h47 => ?_) (fun h47 => ?_)
 rotate_left
 ·refine WO.U (oPkT rfl rfl) rfl <| Wn <| WC.cF rfl <| WC.skips <| WC.weak [(2, _), (3, _), (4, _)] ⟨rfl, rfl, rfl, trivial⟩ ?_
  exact J5 _ (by omega)
 refine WO.U (oPkT rfl rfl) rfl <| Wn <| WC.cT rfl <| WC.assoc <| WC.draw (z := 10) rfl (by kernel_rfl) <| WD.U (oLdP (l := .agg [_, _]) rfl rfl rfl rfl rfl) rfl <| WD.U (oCall rfl (sign_run _) (by simp)) rfl <| WD.U (oLdP (l := .agg [_, _]) rfl rfl rfl rfl rfl) rfl <| WD.U (oCall rfl (sign_run _) (by simp)) rfl <| WD.U (cI σ (oMul64 rfl rfl (by rw [← hσ]; omega)) hσ.symm) rfl <| Dm rfl rfl <| WD.U (cI (((v.natAbs * w.natAbs : Nat) : Int)) (oCnv rfl rfl rfl) (by rw [IntWalk.i64_in _ (by omega)]; omega)) rfl <| WD.U (oMul64 rfl rfl (by rcases hs3 with h | h | ⟨h, _⟩ <;> rw [h] <;> omega)) rfl <| WD.U (oBd (cs := [_, _]) rfl rfl rfl rfl rfl) rfl <| WD.S0 (oSt (cs' := [_, _]) rfl rfl rfl rfl rfl rfl rfl rfl) <| WD.nil (drawOk_of (by kernel_rfl)) rfl <| WC.weak [(4, _)] ⟨rfl, trivial⟩ <| WC.rets <| post (n := 0) (.inr rfl) rfl ?_ (by simp)
 rw [evw, lvI_small (by unfold small; rcases hs3 with h | h | ⟨h, _⟩ <;> rw [h] <;> omega)]; rfl
end Go.Proofs.YtcmieifjephdcaaGreat
set_option linter.unusedVariables false
set_option linter.unusedSimpArgs false
set_option maxRecDepth 100000
namespace Go.Proofs.YtcmieifjephdcaaGreat
open Go.Ab Go.RowKit
theorem div32_run (hi lo y : Nat) (hh : hi < y) (hl : lo < 4294967296) (hy : y < 4294967296) : Run Tryz.prog T E0 (.call 149 [.v (.int .u32 (hi : Int)), .v (.int .u32 (lo : Int)), .v (.int .u32 (y : Int))] (.tup [.v (.int .u32 (((hi * 4294967296 + lo) / y : Nat) : Int)), .v (.int .u32 (((hi * 4294967296 + lo) % y : Nat) : Int))])) := by
 have hq : (hi * 4294967296 + lo) / y < 4294967296 := by
  rw [Nat.div_lt_iff_lt_mul (by omega)]; have := Nat.mul_le_mul_left 4294967296 (show hi + 1 ≤ y from hh); omega
 have hr : (hi * 4294967296 + lo) % y < y := Nat.mod_lt _ (by omega)
 obtain ⟨Q, hQ⟩ : ∃ Q, Q = (hi * 4294967296 + lo) / y := ⟨_, rfl⟩
 obtain ⟨R, hR⟩ : ∃ R, R = (hi * 4294967296 + lo) % y := ⟨_, rfl⟩
 rw [← hQ] at hq
 rw [← hR] at hr
 refine mkcall Tryz.func149 rfl rfl (Nat.le_of_ble_eq_true rfl) <| Rg 2 rfl <| Ua rfl rfl <| Ua rfl rfl <| Wn <| WC.assoc <| Rg 7 rfl <| Um rfl rfl <| WO.U (oNeq rfl rfl) rfl <| WO.D (fun h10 => ?_) (fun h10 => ?_)
 rotate_left
 ·omega
 refine Um rfl rfl <| WO.Ug rfl (oMv rfl) rfl <| WO.Ug rfl (oMv rfl) rfl <| WO.Ug rfl (oLeq rfl rfl) rfl <| WO.D (fun h14 => ?_) (fun h14 => ?_)
 ·omega
 refine WO.U (oPkT rfl rfl) rfl <| Wn <| WC.cF rfl <| WC.skips <| Rg 7 rfl <| Um rfl rfl <| WO.U (cI ((hi : Int)) (oCnv rfl rfl rfl) (by rw [IntKind.wrap_u64]; omega)) rfl <| WO.U (cI (((hi * 4294967296 : Nat) : Int)) (oShlU (s := 32) rfl rfl (by omega)) (by omega)) rfl <| Um rfl rfl <| WO.U (cI ((lo : Int)) (oCnv rfl rfl rfl) (by rw [IntKind.wrap_u64]; omega)) rfl <| WO.U (oBin (v := .int .u64 (((hi * 4294967296 + lo) : Nat) : Int)) rfl rfl (or_hi (by omega) hl)) rfl <| Ua rfl rfl <| Nw [(2, _), (8, _)] ⟨rfl, rfl, trivial⟩ <| WC.draw (z := 12) rfl (by kernel_rfl) <| Dm rfl rfl <| Dm rfl rfl <| WD.U (cI ((y : Int)) (oCnv rfl rfl rfl) (by rw [IntKind.wrap_u64]; omega)) rfl <| WD.U (cI ((Q : Int)) (oQuoU rfl rfl (by omega) (by omega)) (by rw [hQ])) rfl <| WD.U (cI ((Q : Int)) (oCnv rfl rfl rfl) (by rw [IntKind.wrap_u32]; omega)) rfl <| Dm rfl rfl <| Dm rfl rfl <| WD.U (cI ((y : Int)) (oCnv rfl rfl rfl) (by rw [IntKind.wrap_u64]; omega)) rfl <| WD.U (cI ((R : Int)) (oRemU rfl rfl (by omega)) (by rw [hR])) rfl ?_
 refine WD.U (cI ((R : Int)) (oCnv rfl rfl rfl) (by rw [IntKind.wrap_u32]; omega)) rfl <| WD.U (oAs rfl) rfl <| WD.U (oAs rfl) rfl <| WD.nil (drawOk_of (by kernel_rfl)) rfl <| WC.ret ?_
 exact post (n := 0) (.inr rfl) rfl (by rw [← hQ, ← hR]; rfl) (by simp)
theorem short_run (k0 : Nat) (xs : List Nat) (y : Nat) (hx : Dg B32 xs) (hy : 0 < y) (hy2 : y < 4294967296) (lx : xs.length < 1099511627776) : ∃ r, Run Tryz.prog T E0 (.call 143 [.sl k0 (xs.map d32), .v (.int .u32 (y : Int))] r) ∧ ∃ ds rest, r = .tup [.sl 1 (ds.map d32), .v (.int .u32 ((rest : Nat) : Int))] ∧ Dg B32 ds ∧ rest < y ∧ val B32 ds * y + rest = val B32 xs ∧ ds.length = xs.length := by
 refine mkcallE Tryz.func143 rfl rfl (Nat.le_of_ble_eq_true rfl) <| Rg 2 rfl <| Ua rfl rfl <| Ua rfl rfl <| Wn <| Rg 4 rfl <| Um rfl rfl <| WO.U (oLenM rfl rfl) rfl <| WO.S (oMk (a := xs.length) (b := xs.length) rfl rfl rfl rfl (by omega) (by omega) (by decide) (by omega) (by show 4 * xs.length ≤ _; omega) (by omega)) rfl <| Ua rfl rfl <| Wn <| Rg 1 rfl <| Ua rfl rfl <| Wn <| WC.assoc <| Rg 4 rfl <| Um rfl rfl <| WO.U (oLenM rfl rfl) rfl <| WO.U (oSub64 rfl rfl (by omega)) rfl <| Ua rfl rfl <| Wn <| WC.block <| WC.loopV (α := Nat × Nat × (List Nat)) (fun ⟨k, rest, us⟩ => [(0, .sl k0 (xs.map d32)), (1, .v (.int .u32 (y : Int))), (6, .ref (0 + 2 + 2) 1 0 us.length), (7, .v (.int .u32 (rest : Int))), (8, .v (.int .i64 ((k : Int) - 1)))]) (fun ⟨k, rest, us⟩ => [(0 + 2 + 2, { cells := (us.map d32).flatten, sz := 1, elem := 125, st := 0 })]) (fun ⟨k, rest, us⟩ n => k ≤ xs.length ∧ us.length = xs.length ∧ Dg B32 us ∧ rest < y ∧ val B32 (us.drop k) * y + rest = val B32 (xs.drop k)) (fun ⟨k, rest, us⟩ => k) (xs.length, 0, List.replicate xs.length 0) ⟨rfl, rfl, congrArg some (by rw [List.length_replicate]; rfl), rfl, rfl, trivial⟩ ⟨g0.trans (by rw [List.map_replicate]; rfl), trivial⟩ ⟨Nat.le_refl _, by simp, by intro d hd; simp at hd; rw [hd.2]; decide, hy, by simp [val]⟩ ?_
 rintro ⟨k, rest, us⟩ n hF
 change WC _ _ _ _ _ [(0, .sl k0 (xs.map d32)), (1, .v (.int .u32 (y : Int))), (6, .ref (0 + 2 + 2) 1 0 us.length), (7, .v (.int .u32 (rest : Int))), (8, .v (.int .i64 ((k : Int) - 1)))] ([(0 + 2 + 2, { cells := (us.map d32).flatten, sz := 1, elem := 125, st := 0 })]) n _
 obtain ⟨hk, hul, hud, hrest, huv⟩ := hF
 refine WC.assoc <| Rg 2 rfl <| Um rfl rfl <| WO.U (oGeq rfl rfl) rfl <| WO.D (fun h16 => ?_) (fun h16 => ?_)
 rotate_left
 ·refine Wn <| WC.cF rfl <| WC.exits <| loopR_exit <| after_exit rfl <| Rg 4 rfl <| Um rfl rfl <| Um rfl rfl <| Ua rfl rfl <| Ua rfl rfl <| Wn <| WC.ret <| ⟨.tup [.sl 1 (us.map d32), .v (.int .u32 (rest : Int))], ⟨us, rest, rfl, hud, hrest, ?_, hul⟩, postA (n := 0) [(0 + 2 + 2, { cells := (us.map d32).flatten, sz := 1, elem := 125, st := 1 })] (.inr rfl) rfl (.own _ (by simp) rfl (by show (0 : Nat) ≠ 2; decide) rfl (by decide) (by simp [keys]) rfl rows_d32 data_rows_d32 (.data (by simp) .nil)) (by intro p hp; simp at hp; subst hp; exact ⟨_, rfl, by show (0 : Nat) ≠ 2; decide, rfl⟩)⟩
  have h0 : k = 0 := by omega
  subst h0
  simpa using huv
 refine Wn <| WC.cT rfl <| WC.skips <| WC.block ?_
 have hxl : xs.getD (k - 1) default < 4294967296 := getD_lt hx (by omega)
 have hq : (rest * 4294967296 + xs.getD (k - 1) default) / y < 4294967296 := by
  rw [Nat.div_lt_iff_lt_mul hy]; have := Nat.mul_le_mul_left 4294967296 (show rest + 1 ≤ y from hrest); omega
 refine WC.reg1z (z := 15) rfl <| Um rfl rfl <| Um rfl rfl <| Um rfl rfl <| Um rfl rfl <| Um rfl rfl <| WO.U (oIxM (j := k - 1) rfl rfl rfl rfl (by omega) (by omega) rfl) rfl <| WO.U (oLd rfl rfl rfl) rfl <| Um rfl rfl <| WO.U (oCall rfl (div32_run rest (xs.getD (k - 1) default) y hrest hxl hy2) (by simp)) rfl <| Um rfl rfl <| WO.U (oEx rfl rfl) rfl <| WO.U (oEx rfl rfl) rfl <| WO.U (oIxR (j := k - 1) rfl rfl rfl rfl (by omega) (by omega) rfl) rfl <| WO.S0 (oStO (f := d32) (us := us) ((rest * 4294967296 + xs.getD (k - 1) default) / y) rfl rfl rfl g0 (fun _ => rfl) rfl rfl (by omega) rfl) <| Ua rfl rfl <| Wn <| after_normal <| WC.weak [(0, _), (1, _), (6, _), (7, _), (8, _)] ⟨rfl, rfl, rfl, rfl, rfl, trivial⟩ <| WC.reg1z (z := 3) rfl <| Um rfl rfl <| WO.U (cI (((k - 1 : Nat) : Int) - 1) (oSub64 rfl rfl (by omega)) (by omega)) rfl <| Ua rfl rfl <| WO.nil ?_
 refine loopR_normal ?_
 have hj : k - 1 + 1 = k := by omega
 refine ⟨⟨k - 1, (rest * 4294967296 + xs.getD (k - 1) default) % y, us.set (k - 1) ((rest * 4294967296 + xs.getD (k - 1) default) / y)⟩, ⟨rfl, rfl, congrArg some (by rw [List.length_set]), rfl, rfl, trivial⟩, ⟨g0, trivial⟩, ⟨by omega, by rw [List.length_set]; exact hul, hud.set _ hq, Nat.mod_lt _ hy, ?_⟩, by show k - 1 < k; omega⟩
 exact short_step hy (by rw [hj]; exact huv) (by omega) (by omega)
end Go.Proofs.YtcmieifjephdcaaGreat
set_option linter.unusedVariables false
set_option linter.unusedSimpArgs false
set_option maxRecDepth 100000
namespace Go.Proofs.YtcmieifjephdcaaGreat
open Go.Ab Go.RowKit
theorem shifted_run (k0 : Nat) (xs : List Nat) (sh : Nat) (hx : Dg B32 xs) (hn : sh < 32) (lx : xs.length < 1099511627776) : ∃ sz len ob, Run Tryz.prog T E0 (.callO 151 [.sl k0 (xs.map d32), .v (.int .i64 (sh : Int))] (.ref 0 sz 0 len) ob) ∧ ∃ ds, sz = 1 ∧ len = ds.length ∧ ob = { cells := (ds.map d32).flatten, sz := 1, elem := 125, st := 0 } ∧ Dg B32 ds ∧ val B32 ds = val B32 xs * 2 ^ sh ∧ ds.length = xs.length + 1 := by
 have hp : (2 : Nat) ^ sh ≤ 2 ^ 31 := Nat.pow_le_pow_right (by decide) (by omega)
 have hp0 : 0 < (2 : Nat) ^ sh := Nat.pow_pos (by decide)
 refine mkcallO Tryz.func151 rfl rfl (Nat.le_of_ble_eq_true rfl) <| Rg 1 rfl <| Ua rfl rfl <| Wn <| Rg 5 rfl <| Um rfl rfl <| WO.U (oLenM rfl rfl) rfl <| WO.U (oAdd64 rfl rfl (by omega)) rfl <| WO.S (oMk (a := xs.length + 1) (b := xs.length + 1) rfl rfl rfl rfl (by omega) (by omega) (by decide) (by omega) (by show 4 * (xs.length + 1) ≤ _; omega) (by omega)) rfl <| Ua rfl rfl <| Wn <| WC.assoc <| Rg 3 rfl <| Um rfl rfl <| WO.U (oLenM rfl rfl) rfl <| Um rfl rfl <| Wn <| WC.block <| WC.loopV (α := Nat × (List Nat)) (fun ⟨i, us⟩ => [(1, .v (.int .i64 (sh : Int))), (5, .ref (0 + 1 + 3) 1 0 us.length), (13, .sl k0 (xs.map d32)), (14, .v (.int .i64 (xs.length : Int))), (15, .v (.int .i64 (i : Int)))]) (fun ⟨i, us⟩ => [(0 + 1 + 3, { cells := (us.map d32).flatten, sz := 1, elem := 125, st := 0 })]) (fun ⟨i, us⟩ n => i ≤ xs.length ∧ us.length = xs.length + 1 ∧ Dg B32 us ∧ val B32 us = val B32 (xs.take i) * 2 ^ sh ∧ (∀ j, i < j → us.getD j default = 0) ∧ us.getD i default < 2 ^ sh) (fun ⟨i, us⟩ => xs.length - i) (0, List.replicate (xs.length + 1) 0) ⟨rfl, congrArg some (by rw [List.length_replicate]; rfl), rfl, rfl, rfl, trivial⟩ ⟨g0.trans (by rw [List.map_replicate]; rfl), trivial⟩ ⟨Nat.zero_le _, by simp, by intro d hd; simp at hd; rw [hd]; decide, by rw [val_zeros]; simp [val], fun j _ => getD_zeros _ _, by rw [getD_zeros]; exact hp0⟩ ?_
 rintro ⟨i, us⟩ n hF
 change WC _ _ _ _ _ [(1, .v (.int .i64 (sh : Int))), (5, .ref (0 + 1 + 3) 1 0 us.length), (13, .sl k0 (xs.map d32)), (14, .v (.int .i64 (xs.length : Int))), (15, .v (.int .i64 (i : Int)))] ([(0 + 1 + 3, { cells := (us.map d32).flatten, sz := 1, elem := 125, st := 0 })]) n _
 obtain ⟨hi, hul, hud, huv, huz, hlo⟩ := hF
 refine Rg 1 rfl <| WO.U (oLss rfl rfl) rfl <| WO.D (fun h16 => ?_) (fun h16 => ?_)
 rotate_left
 ·refine Wn <| WC.cF rfl <| WC.exits <| loopR_exit <| after_exit rfl <| Rg 2 rfl <| Um rfl rfl <| Ua rfl rfl <| Wn <| WC.ret <| ⟨1, us.length, _, ⟨us, rfl, rfl, rfl, hud, ?_, hul⟩, .inr rfl, _, rfl, rfl, rfl, rfl, by intro c hc; obtain ⟨row, hr, hc⟩ := List.mem_flatten.1 hc; exact data_rows_d32 row hr c hc⟩
  rw [huv, List.take_of_length_le (by omega)]
 refine Wn <| WC.cT rfl <| WC.skips <| WC.block <| Rg 5 rfl <| Um rfl rfl <| WO.U (oIxM rfl rfl rfl rfl rfl (by omega) rfl) rfl <| WO.U (oLd rfl rfl rfl) rfl <| Ua rfl rfl <| Ua rfl rfl <| WO.nil ?_
 have hxl : xs.getD i default < 4294967296 := getD_lt hx (by omega)
 have hw : (xs.getD i default * 2 ^ sh) < 9223372036854775808 := by
  have := Nat.mul_lt_mul_of_lt_of_le hxl hp (by decide); omega
 have hor := shift_or hn hlo hxl
 have hhi := shift_hi (n := sh) hxl
 have hol : us.getD i default < 4294967296 := by omega
 refine Rg 5 rfl <| Um rfl rfl <| WO.U (cI ((xs.getD i default : Int)) (oCnv rfl rfl rfl) (by rw [IntKind.wrap_u64]; omega)) rfl <| Um rfl rfl <| WO.U (cI ((((xs.getD i default * 2 ^ sh) : Nat) : Int)) (oShlU (s := sh) rfl rfl (by omega)) (by rw [show ((xs.getD i default : Nat) : Int) * 2 ^ sh = (((xs.getD i default * 2 ^ sh) : Nat) : Int) by simp]; omega)) rfl <| Ua rfl rfl <| Nw [(1, _), (5, _), (6, _), (8, _), (13, _), (14, _), (15, _)] ⟨rfl, rfl, rfl, rfl, rfl, rfl, rfl, trivial⟩ <| Rg 9 rfl <| Um rfl rfl <| Um rfl rfl <| WO.U (oIxR rfl rfl rfl rfl rfl (by omega) rfl) rfl <| WO.U (oLdO (f := d32) (us := us) (j := i) rfl rfl g0 (fun _ => rfl) rfl (by decide) (by omega) rfl) rfl <| Um rfl rfl <| WO.U (cI ((((xs.getD i default * 2 ^ sh) % 4294967296 : Nat) : Int)) (oCnv rfl rfl rfl) (by rw [IntKind.wrap_u32]; omega)) rfl <| WO.U (oBin (v := .int .u32 (((us.getD i default + (xs.getD i default * 2 ^ sh) % 4294967296) : Nat) : Int)) rfl rfl ((or32 hol (by omega)).trans (by rw [hor.1]))) rfl <| WO.U (oIxR rfl rfl rfl rfl rfl (by omega) rfl) rfl <| WO.S0 (oStO (f := d32) (us := us) (us.getD i default + (xs.getD i default * 2 ^ sh) % 4294967296) rfl rfl rfl g0 (fun _ => rfl) rfl rfl (by omega) rfl) <| Nw [(1, _), (5, _), (6, _), (8, _), (13, _), (14, _), (15, _)] ⟨rfl, rfl, rfl, rfl, rfl, rfl, rfl, trivial⟩ <| WC.reg1z (z := 8) rfl <| Um rfl rfl <| Um rfl rfl <| WO.U (cI (((i + 1 : Nat) : Int)) (oAdd64 rfl rfl (by omega)) (by omega)) rfl ?_
 refine Um rfl rfl <| WO.U (cI ((((xs.getD i default * 2 ^ sh) / 4294967296 : Nat) : Int)) (oShrU (s := 32) rfl rfl (by omega)) (by omega)) rfl <| WO.U (cI ((((xs.getD i default * 2 ^ sh) / 4294967296 : Nat) : Int)) (oCnv rfl rfl rfl) (by rw [IntKind.wrap_u32]; omega)) rfl <| WO.U (oIxR rfl rfl rfl rfl rfl (by omega) rfl) rfl <| WO.S0 (oStO (f := d32) (us := us.set i (us.getD i default + (xs.getD i default * 2 ^ sh) % 4294967296)) ((xs.getD i default * 2 ^ sh) / 4294967296) rfl rfl rfl g0 (fun _ => rfl) rfl rfl (by rw [List.length_set]; omega) rfl) <| Wn <| after_normal <| WC.reg1z (z := 2) rfl <| WO.U (cI (((i + 1 : Nat) : Int)) (oAdd64 rfl rfl (by omega)) (by omega)) rfl <| Um rfl rfl <| Wn <| loopR_normal <| ⟨⟨i + 1, (us.set i (us.getD i default + (xs.getD i default * 2 ^ sh) % 4294967296)).set (i + 1) ((xs.getD i default * 2 ^ sh) / 4294967296)⟩, ⟨rfl, congrArg some (by rw [List.length_set, List.length_set]), rfl, rfl, rfl, trivial⟩, ⟨g0, trivial⟩, ⟨by omega, by rw [List.length_set, List.length_set]; exact hul, (hud.set _ hor.2).set _ (by show _ < 4294967296; omega), shift_step (by decide) huv (by omega) (huz _ (by omega)), ?_, ?_⟩, by show xs.length - (i + 1) < xs.length - i; omega⟩
 ·intro j hj
  rw [lgetD_set (by omega), lgetD_set (by omega)]; exact huz j (by omega)
 ·have : ((us.set i (us.getD i default + (xs.getD i default * 2 ^ sh) % 4294967296)).set (i + 1) ((xs.getD i default * 2 ^ sh) / 4294967296)).getD (i + 1) default = (xs.getD i default * 2 ^ sh) / 4294967296 := by
   rw [List.getD_eq_getElem?_getD, List.getElem?_set_self (by simp; omega)]; rfl
  rw [this]; exact hhi
theorem len32_run (x : Nat) (hx : x < 4294967296) : Run Tryz.prog T E0 (.call 101 [.v (.int .u32 (x : Int))] (.v (.int .i64 ((blen x : Nat) : Int)))) := by
 refine mkcall Tryz.func101 rfl rfl (Nat.le_of_ble_eq_true rfl) ?_
 have J7 : ∀ (y k : Nat) (hy : y < 256) (hk : k ≤ 24) (he : blen x = blen y + k) (n : Nat) , WC Tryz.prog T E0 Tryz.f101.ntmps (codeR (codeR (codeR (codeOf Tryz.f101)))) [(0, .v (.int .u32 (y : Int))), (2, .v (.int .i64 (k : Int)))] [] n (Post T Tryz.f101.results.toList (.v (.int .i64 ((blen x : Nat) : Int)))) := by
  intro y k hy hk he n
  have hyb := blen_le (n := 8) hy
  refine Rg 7 rfl <| Um rfl rfl <| Um rfl rfl <| WO.U (cI ((y : Int)) (oCnv rfl rfl rfl) (by rw [IntKind.wrap_u8]; omega)) rfl <| WO.U (cI (((blen y : Nat) : Int)) (oIxS (bs := tab8) (n := (y : Int)) rfl (by kernel_rfl) rfl (by omega) (tab8_get hy)) (congrArg Int.ofNat (tab8_val hy))) rfl <| WO.U (cI (((blen y : Nat) : Int)) (oCnv rfl rfl rfl) (by rw [IntWalk.i64_in _ (by omega)])) rfl <| WO.U (oAdd64 rfl rfl (by omega)) rfl <| Ua rfl rfl <| Wn <| WC.ret ?_
  exact post (n := 0) (.inr rfl) rfl (congrArg (fun z => LV.v (.int .i64 z)) (by omega)) (by simp)
 refine Rg 1 rfl <| Ua rfl rfl <| Wn <| WC.assoc <| Rg 2 rfl <| Um rfl rfl <| WO.U (oGeq rfl rfl) rfl <| WO.D (fun h4 => ?_) (fun h4 => ?_)
 rotate_left
 ·refine Wn <| WC.cF rfl <| WC.skips <| WC.assoc <| Rg 2 rfl <| Um rfl rfl <| WO.U (oGeq rfl rfl) rfl <| WO.D (fun h8 => ?_) (fun h8 => ?_)
  rotate_left
  ·refine Wn <| WC.cF rfl <| WC.skips <| WC.weak [(0, _), (2, _)] ⟨rfl, rfl, trivial⟩ ?_
   first | exact J7 (x / 65536) 16 (by omega) (by omega) (blen_div (x := x) (k := 16) (by omega)) _ | exact J7 x 0 (by omega) (by omega) rfl _
  refine Wn <| WC.cT rfl <| WC.assoc <| Rg 3 rfl <| Um rfl rfl <| WO.U (cI (((x / 256 : Nat) : Int)) (oShr32 (s := 8) rfl rfl (by omega)) (by omega)) rfl <| Ua rfl rfl <| Wn <| Rg 3 rfl <| Um rfl rfl <| WO.U (oAdd64 rfl rfl (by omega)) rfl <| Ua rfl rfl <| Nw [(0, _), (2, _)] ⟨rfl, rfl, trivial⟩ ?_
  first | exact J7 (x / 65536 / 256) 24 (by omega) (by omega) (by rw [blen_div (x := x) (k := 16) (by omega), blen_div (x := x / 2 ^ 16) (k := 8) (by omega)]) _ | exact J7 (x / 256) 8 (by omega) (by omega) (blen_div (x := x) (k := 8) (by omega)) _
 refine Wn <| WC.cT rfl <| WC.assoc <| Rg 3 rfl <| Um rfl rfl <| WO.U (cI (((x / 65536 : Nat) : Int)) (oShr32 (s := 16) rfl rfl (by omega)) (by omega)) rfl <| Ua rfl rfl <| Wn <| Rg 1 rfl <| Ua rfl rfl <| Wn <| WC.assoc <| Rg 2 rfl <| Um rfl rfl <| WO.U (oGeq rfl rfl) rfl <| WO.D (fun h8 => ?_) (fun h8 => ?_)
 rotate_left
 ·refine Wn <| WC.cF rfl <| WC.skips <| WC.weak [(0, _), (2, _)] ⟨rfl, rfl, trivial⟩ ?_
  first | exact J7 (x / 65536) 16 (by omega) (by omega) (blen_div (x := x) (k := 16) (by omega)) _ | exact J7 x 0 (by omega) (by omega) rfl _
 refine Wn <| WC.cT rfl <| WC.assoc <| Rg 3 rfl <| Um rfl rfl <| WO.U (cI (((x / 65536 / 256 : Nat) : Int)) (oShr32 (s := 8) rfl rfl (by omega)) (by omega)) rfl <| Ua rfl rfl <| Wn <| Rg 3 rfl <| Um rfl rfl <| WO.U (oAdd64 rfl rfl (by omega)) rfl <| Ua rfl rfl <| Nw [(0, _), (2, _)] ⟨rfl, rfl, trivial⟩ ?_
 first | exact J7 (x / 65536 / 256) 24 (by omega) (by omega) (by rw [blen_div (x := x) (k := 16) (by omega), blen_div (x := x / 2 ^ 16) (k := 8) (by omega)]) _ | exact J7 (x / 256) 8 (by omega) (by omega) (blen_div (x := x) (k := 8) (by omega)) _
theorem zeros32_run (x : Nat) (hx : x < 4294967296) : Run Tryz.prog T E0 (.call 150 [.v (.int .u32 (x : Int))] (.v (.int .i64 ((32 - blen x : Nat) : Int)))) := by
 have hb := blen_le (n := 32) hx
 refine mkcall Tryz.func150 rfl rfl (Nat.le_of_ble_eq_true rfl) <| Rg 1 rfl <| Ua rfl rfl <| Wn <| Rg 4 rfl <| Um rfl rfl <| WO.U (oCall rfl (len32_run x hx) (by simp)) rfl <| WO.U (oSub64 rfl rfl (by omega)) rfl <| Ua rfl rfl <| Wn <| WC.ret ?_
 exact post (n := 0) (.inr rfl) rfl (congrArg (fun z => LV.v (.int .i64 z)) (by omega)) (by simp)
end Go.Proofs.YtcmieifjephdcaaGreat
