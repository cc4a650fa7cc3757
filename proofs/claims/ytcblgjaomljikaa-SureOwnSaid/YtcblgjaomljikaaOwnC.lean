/- Part C of the proof of sureOwn_holds: what it rests on. No condition. -/
import Derived.Test.YtcblgjaomljikaaOwnB
import Derived.ChangeKeysEq
import Derived.Test.YtcblgjaomljikaaProg
set_option linter.unusedVariables false
set_option linter.unusedSimpArgs false
namespace Go.Ab
open Go.RowKit
section
variable {P : Program} {T : TT} {E : TypeId → Bool} {e : Env} {h : Hp}
variable {dst : Option Tmp} {ty : TypeId} {pos : String} {af : Array Edge} {g : Option (Nat × Bool)} {id : Nat} {x y : Operand} {bt el : TypeId} {ti te : TI}
theorem oIxA {ki : IntKind} {n : Int} {j k r o : Nat} (hT : dsc T bt = some (.arr k el)) (hE : T el = some te) (hx : evE e x = some (.ptr r o)) (hy : evE e y = some (.v (.int ki n))) (hn : n = j) (hj : j < k) :
  OP P T E ⟨dst, .indexAddr bt x y, ty, pos, af, g⟩ id e h (.ptr r (o + j * te.size)) [] [] := .mk fun s m hs _ => ⟨by
   subst hn; simp [aop, hT, hE, hs x _ hx, hs y _ hy, hj], rfl⟩
theorem oIxAr {ki : IntKind} {n : Int} {j k : Nat} {cs : List LV} (hT : dsc T bt = some (.arr k el)) (hE : T el = some te) (hx : evE e x = some (.ro cs)) (hy : evE e y = some (.v (.int ki n))) (hn : n = j) (hj : j < k) :
  OP P T E ⟨dst, .indexAddr bt x y, ty, pos, af, g⟩ id e h (.ro (cs.drop (j * te.size))) [] [] := .mk fun s m hs _ => ⟨by
   subst hn; simp [aop, hT, hE, hs x _ hx, hs y _ hy, hj], rfl⟩
end
def sb (f : Nat → Bool) : List LV := (List.range 40).map fun i => .v (.bool (f i))
def lvS (f : Nat → Bool) : LV := .agg (sb f)
theorem cO (f : Nat → Bool) : (sb f).length = 40 := by simp [sb]
theorem dG (f : Nat → Bool) : ∀ c, c ∈ sb f → Data c := fun c hc => by
 obtain ⟨i, _, rfl⟩ := List.mem_map.1 hc
 exact .v _
instance {f : Nat → Bool} : DC (lvS f) := ⟨.agg _ (dG f)⟩
theorem sb_drop {f : Nat → Bool} {j : Nat} (hj : j < 40) : (sb f).drop j = .v (.bool (f j)) :: (sb f).drop (j + 1) := by
 have hl := cO f
 rw [List.drop_eq_getElem_cons om]
 congr 1
 simp [sb]
theorem sb_none : List.replicate 40 (LV.v (.bool false)) = sb fun _ => false := rfl
theorem sb_eq {f g : Nat → Bool} (h : ∀ i, i < 40 → f i = g i) : sb f = sb g := List.map_congr_left fun i hi => by rw [h i (List.mem_range.1 hi)]
theorem put_sb {f : Nat → Bool} {j : Nat} (hj : j < 40) (b : Bool) : putCells (sb f) j [.v (.bool b)] = some (sb fun i => if i = j then b else f i) := by
 have hl := cO f
 unfold putCells
 rw [if_pos (by rw [hl]; show j + 1 ≤ 40; omega)]
 congr 1
 refine List.ext_getElem (by simp [cO]; omega) fun i h1 h2 => ?_
 rw [cO] at h2
 simp only [sb, List.getElem_map, List.getElem_range]
 by_cases e1 : i < j
 ·rw [List.getElem_append_left (by simp [cO]; omega), if_neg om]
  simp
 ·rw [List.getElem_append_right (by simp; omega)]
  by_cases e2 : i = j
  ·subst e2
   simp [Nat.min_eq_left (show i ≤ 40 by omega)]
  ·rw [List.getElem_append_right (by simp; omega), if_neg e2]
   simp only [List.getElem_drop, List.getElem_map, List.getElem_range, List.length_take, List.length_map, List.length_range, List.length_cons, List.length_nil]
   congr 3
   omega
theorem mE (f g : Nat → Bool) : ∀ l : List Nat, cellsEqB (l.map fun i => .v (.bool (f i))) (l.map fun i => .v (.bool (g i))) = some (l.all fun i => f i == g i)
 | [] => rfl
 | i :: l => by
  simp only [List.map_cons, cellsEqB, mE f g l, Option.map_some, List.all_cons]
section
variable {P : Program} {T : TT} {E : TypeId → Bool} {e : Env} {h : Hp}
variable {dst : Option Tmp} {ty : TypeId} {pos : String} {af : Array Edge} {g : Option (Nat × Bool)} {id : Nat} {x y : Operand} {bt el : TypeId} {ti te : TI}
theorem oLdB {f : Nat → Bool} {r j : Nat} {el : TypeId} {z st : Nat} (hj : j < 40) (hx : evE e x = some (.ptr r (0 + j * 1))) (hE : T bt = some ti) (hb : ti.desc = .bool) (hr : getH h r = some { cells := sb f, sz := z, elem := el, st := st }) (h2 : Nat.beq st 2 = false) (hl : ∀ c r, loadLV ti (.v (.bool c) :: r) = some (.v (.bool c))) :
  OP P T E ⟨dst, .load bt x, ty, pos, af, g⟩ id e h (.v (.bool (f j))) [] [r] := aL hx hE hr h2 (by
 show loadLV ti ((sb f).drop (0 + j * 1)) = _
 rw [Nat.zero_add, Nat.mul_one, sb_drop hj]; exact hl _ _)
theorem oStB {f : Nat → Bool} {r j z : Nat} {b : Bool} {el : TypeId} (hj : j < 40) (hx : evE e x = some (.ptr r (0 + j * 1))) (hy : evE e y = some (.v (.bool b))) (hE : T bt = some ti) (hr : getH h r = some { cells := sb f, sz := z, elem := el, st := 0 }) (hz : 1 = ti.size) :
  OP P T E ⟨dst, .store bt x y, ty, pos, af, g⟩ id e h (.v undef) [(r, { cells := sb fun i => if i = j then b else f i, sz := z, elem := el, st := 0 })] [r] := dA hx hy hE hr rfl rfl hz (by rw [Nat.zero_add, Nat.mul_one]; exact put_sb hj b)
end
def inl (l : List Int) (i : Nat) (s : Nat) : Bool := (l.take i).any fun t => decide (t = s)
def inL (l : List Int) (s : Nat) : Bool := l.any fun t => decide (t = s)
theorem inl_succ {l : List Int} {i t : Nat} (hi : i < l.length) (ht : l.getD i default = t) : (fun s => if s = t then true else inl l i s) = inl l (i + 1) := by
 funext s
 unfold inl
 rw [List.take_succ_eq_append_getElem hi, List.any_append]
 have e : l[i] = (t : Int) := by rw [← ht, List.getD_eq_getElem?_getD, List.getElem?_eq_getElem hi]; rfl
 simp only [List.any_cons, List.any_nil, Bool.or_false, e]
 by_cases h : s = t
 ·subst h; simp
 ·rw [if_neg h, decide_eq_false om, Bool.or_false]
theorem inl_all (l : List Int) : inl l l.length = inL l := by funext s; unfold inl inL; rw [List.take_length]
theorem mT {n : Nat} {l : List Int} (h : VSet n l = true) {i : Nat} (hi : i < l.length) : 0 ≤ l.getD i default ∧ l.getD i default < n := by
 have h1 : ∀ j, j < l.length → okI n l j = true := fun j hj => List.all_eq_true.1 h j (List.mem_range.2 hj)
 have h2 := okI_lo i (fun j hj => h1 j om)
 have h3 := h1 i hi
 unfold okI at h3
 rw [Bool.and_eq_true] at h3
 have h4 := of_decide_eq_true h3.1
 have h5 := of_decide_eq_true h3.2
 omega
end Go.Ab
namespace Go.Ab
open Go.RowKit
theorem kP {P : Program} {w : World} {e : TypeId} (he : P.underlying e = some .bool) (hp : P.plainKey e = true) (hc : P.cellsOf e = 1) (xs ys : Array Value) : ∀ is : List Nat,
  (∀ i, i ∈ is → ∃ p q, xs[i]? = some (.bool p) ∧ ys[i]? = some (.bool q)) →
  ∃ r : Bool, (Op.eqItems 9999 e 1 xs ys is).run P w = .ok r w ∧ (r = true ↔ ∀ i, i ∈ is → xs[i]? = ys[i]?)
 | [], _ => ⟨true, by simp [Op.eqItems], by simp⟩
 | i :: is, h => by
  obtain ⟨p, q, h1, h2⟩ := h i (by simp)
  obtain ⟨r, h3, h4⟩ := kP he hp hc xs ys is fun j hj => h j (by simp [hj])
  have p1 := run_part_plain (P := P) w hp (xs := xs) (off := i) h1
  have p2 := run_part_plain (P := P) w hp (xs := ys) (off := i) h2
  have p3 : (Op.equalIn 9999 e (.bool p) (.bool q)).run P w = .ok (p == q) w := run_equalIn_bool w 9998 _ _ _ he
  simp only [Op.eqItems, Nat.mul_one, Sem.run_bind, p1, p2, p3, Result.andThen_ok]
  cases hpq : (p == q)
  ·refine ⟨false, by simp, ⟨fun h => (by cases h), fun h => ?_⟩⟩
   have := h i (by simp)
   rw [h1, h2] at this
   simp at this
   rw [this] at hpq; simp at hpq
  ·refine ⟨r, by simpa using h3, ?_⟩
   have : p = q := by simpa using hpq
   subst this
   rw [h4]
   simp [h1, h2]
theorem eqOk_arr {P : Program} {t e : TypeId} {n : Nat} {i : TypeInfo} (hg : P.eqGuardType P.depth t = false) (ht : P.underlying t = some (.array n e)) (hi : P.info? e = some i) (he : P.underlying e = some .bool) (hp : P.plainKey e = true) (hce : P.cellsOf e = 1) (hc : P.cellsOf t = n) : EqOk P t := by
 refine ⟨hg, fun xs ys w h1 h2 h3 => ?_⟩
 unfold EqKind at h3
 rw [ht] at h3
 obtain ⟨r, h4, h5⟩ := kP (w := w) he hp hce xs ys (List.range n) fun i hi => by
  rw [List.mem_range] at hi
  have hx : i < xs.size := by omega
  have hy : i < ys.size := by omega
  obtain ⟨p, q, k1, k2⟩ := h3 i xs[i] ys[i] (Array.getElem?_eq_getElem hx) (Array.getElem?_eq_getElem hy)
  exact ⟨p, q, by rw [Array.getElem?_eq_getElem hx, k1], by rw [Array.getElem?_eq_getElem hy, k2]⟩
 refine ⟨r, ?_, h5.trans ⟨fun h => ?_, fun h => by rw [h]; simp⟩⟩
 ·rw [run_equalIn_array w 9999 xs ys ht hi, hce]; exact h4
 ·refine Array.ext h1 fun i hi hi' => ?_
  have := h i (List.mem_range.2 om)
  rw [Array.getElem?_eq_getElem hi, Array.getElem?_eq_getElem hi'] at this
  exact Option.some.inj this
def tab {α : Type} (n : Nat) (f : Nat → α) : List α := (List.range n).map f
def fset {α : Type} (f : Nat → α) (j : Nat) (a : α) : Nat → α := fun i => if i = j then a else f i
theorem bX {α : Type} (n : Nat) (f : Nat → α) : (tab n f).length = n := by simp [tab]
theorem iQ {α : Type} [Inhabited α] {n j : Nat} (f : Nat → α) (h : j < n) : (tab n f).getD j default = f j := by
 rw [List.getD_eq_getElem?_getD, List.getElem?_eq_getElem (by rw [bX]; exact h)]
 simp [tab]
theorem tab_set {α : Type} {n j : Nat} (f : Nat → α) (a : α) : (tab n f).set j a = tab n (fset f j a) := by
 refine List.ext_getElem (by simp [tab]) fun i h1 h2 => ?_
 rw [List.getElem_set]
 simp only [tab, fset, List.getElem_map, List.getElem_range]
 by_cases h : j = i
 ·subst h; simp
 ·rw [if_neg h, if_neg (Ne.symm h)]
theorem tab_eq {α : Type} {n : Nat} {f g : Nat → α} (h : ∀ i, i < n → f i = g i) : tab n f = tab n g := List.map_congr_left fun i hi => h i (List.mem_range.1 hi)
theorem tab_const {α : Type} (n : Nat) (a : α) : List.replicate n a = tab n fun _ => a := by
 refine List.ext_getElem (by simp [tab]) fun i h1 h2 => by simp [tab]
def bc (b : Bool) : List LV := [.v (.bool b)]
theorem dbc (b : Bool) : ∀ c, c ∈ bc b → Data c := by intro c hc; rw [bc, List.mem_singleton] at hc; subst hc; exact .v _
theorem iZ (b : Int) : ∀ c, c ∈ ic b → Data c := by intro c hc; rw [ic, List.mem_singleton] at hc; subst hc; exact .v _
def fl (n : Nat) (f : Nat → Bool) : List Int := ((List.range n).filter f).map fun (i : Nat) => (i : Int)
theorem iK {n : Nat} {f : Nat → Bool} : fl (n + 1) f = if f n then fl n f ++ [(n : Int)] else fl n f := by
 unfold fl
 rw [List.range_succ, List.filter_append]
 by_cases h : f n = true <;> simp [h]
theorem iJ (n : Nat) (f : Nat → Bool) : (fl n f).length ≤ n := by
 unfold fl; rw [List.length_map]; exact Nat.le_trans (List.length_filter_le _ _) (by simp)
theorem fl_mem {n : Nat} {f : Nat → Bool} {t : Int} : t ∈ fl n f ↔ ∃ s : Nat, t = s ∧ s < n ∧ f s = true := by
 unfold fl
 rw [List.mem_map]
 constructor
 ·rintro ⟨s, h, rfl⟩; rw [List.mem_filter, List.mem_range] at h; exact ⟨s, rfl, h.1, h.2⟩
 ·rintro ⟨s, rfl, h1, h2⟩; exact ⟨s, by rw [List.mem_filter, List.mem_range]; exact ⟨h1, h2⟩, rfl⟩
abbrev lvL (k : Nat) (l : List Int) : LV := .sl k (l.map ic)
abbrev lvF (k n : Nat) (f : Nat → Bool) : LV := .sl k ((tab n f).map bc)
abbrev lvG (k n : Nat) (g : Nat → Int) : LV := .sl k ((tab n g).map ic)
theorem mR (k : Nat) (l : List Int) : Data (lvL k l) := .sl _ _ dic
theorem dlvF (k n : Nat) (f : Nat → Bool) : Data (lvF k n f) := .sl _ _ (cD dbc)
instance {k : Nat} {l : List Int} : DC (lvL k l) := ⟨mR k l⟩
instance {k n : Nat} {f : Nat → Bool} : DC (lvF k n f) := ⟨dlvF k n f⟩
instance {k n : Nat} {f : Nat → Int} : DC (lvG k n f) := ⟨mR k _⟩
section
variable {P : Program} {T : TT} {E : TypeId → Bool} {e : Env} {h : Hp}
variable {dst : Option Tmp} {ty : TypeId} {pos : String} {af : Array Edge} {g : Option (Nat × Bool)} {id : Nat}
def Lent (h : Hp) (S : List Nat) : Prop := ∀ q, q ∈ S → ∃ o, getH h q = some o ∧ o.st ≠ 2
inductive SnapB (h : Hp) (S : List Nat) : List LV → List LV → Prop
 | nil : SnapB h S [] []
 | cons {l l' : LV} {ls ls' : List LV} : (∀ m, FitsM h m → Snap m (· ∈ S) l l') → SnapB h S ls ls' → SnapB h S (l :: ls) (l' :: ls')
theorem SnapB.snap {m : Mem} {S : List Nat} {d : Delta} {ls ls' : List LV} (hm : FitsM h m) (hk : keys d = S) (hw : SnapB h S ls ls') : SnapL m d ls ls' := by
 subst hk
 induction hw with
 | nil => exact ⟨rfl, by simp⟩
 | cons h1 _ ih =>
  refine ⟨by simp [ih.1], fun i l l' hl hl' => ?_⟩
  cases i with
  | zero => simp at hl hl'; subst hl; subst hl'; exact h1 m hm
  | succ i => simp at hl hl'; exact ih.2 i l l' hl hl'
theorem Lent.delta {S : List Nat} : Lent h S → ∃ d : Delta, keys d = S ∧ ∀ p, p ∈ d → ∃ o, getH h p.1 = some o ∧ o.st ≠ 2 ∧ p.2 = { o with st := 1 } := fun hl => by
 induction S with
 | nil => exact ⟨[], rfl, fun p hp => by simp at hp⟩
 | cons q S ih =>
  obtain ⟨d, h1, h2⟩ := ih fun q hq => hl q (by simp [hq])
  obtain ⟨o, k1, k2⟩ := hl q (by simp)
  refine ⟨(q, { o with st := 1 }) :: d, by simp [keys] at h1 ⊢; exact h1, fun p hp => ?_⟩
  rcases List.mem_cons.1 hp with rfl | hp
  ·exact ⟨o, k1, k2, rfl⟩
  ·exact h2 p hp
theorem eR {f : FuncId} {args : Array Operand} {at_ : Array TypeId} {ls : List LV} (S : List Nat) (ls' : List LV) {x : Value} (ha : argsE e args.toList = some ls) (hr : Run P T E (.call f ls' (.v x))) (hd : SnapB h S ls ls') (hf : Lent h S) :
  OP P T E ⟨dst, .call { callee := .value (.func f), args := args, argTypes := at_ }, ty, pos, af, g⟩ id e h (.v x) [] S := fun s m hs hm => by
 obtain ⟨d, h1, h2⟩ := hf.delta
 subst h1
 exact .bcall _ _ _ _ _ d _ (.func f) f [] [] ls' rfl rfl rfl (by
  rw [cQ hs ha]
  simp only [List.nil_append, List.append_nil]
  exact hd.snap hm rfl) (fun p hp => by obtain ⟨o, k1, k2, k3⟩ := h2 p hp; exact ⟨o, hm _ _ k1, k2, k3⟩) hr
theorem oCallVB {t : Tmp} {f : FuncId} {first cap : List LV} {args : Array Operand} {at_ : Array TypeId} {ls : List LV} (S : List Nat) (ls' : List LV) {x : Value} (hv : evE e (.tmp t) = some (.fn (.func f) first cap)) (ha : argsE e args.toList = some ls) (hr : Run P T E (.call f ls' (.v x))) (hd : SnapB h S (first ++ ls ++ cap) ls') (hf : Lent h S) :
  OP P T E ⟨dst, .call { callee := .value (.tmp t), args := args, argTypes := at_ }, ty, pos, af, g⟩ id e h (.v x) [] S := fun s m hs hm => by
 obtain ⟨d, h1, h2⟩ := hf.delta
 subst h1
 exact .bcall _ _ _ _ _ d _ (.tmp t) f first cap ls' rfl rfl (hs _ _ hv) (by
  rw [cQ hs ha]
  exact hd.snap hm rfl) (fun p hp => by obtain ⟨o, k1, k2, k3⟩ := h2 p hp; exact ⟨o, hm _ _ k1, k2, k3⟩) hr
theorem SnapB.data {S : List Nat} {l : LV} {ls ls' : List LV} (hl : Data l) (k : SnapB h S ls ls') : SnapB h S (l :: ls) (l :: ls') := .cons (fun m _ => .data _ hl) k
theorem SnapB.own {S : List Nat} {q sz len : Nat} {ob : Ob} {ls ls' : List LV} (ys : List (List LV)) (hlen : len = ys.length) (hq : getH h q = some ob) (h2 : ob.st ≠ 2) (hz : ob.sz = sz) (h0 : 0 < sz) (hS : q ∈ S) (hc : ob.cells = ys.flatten) (hl : ∀ row, row ∈ ys → row.length = sz) (hd : ∀ row, row ∈ ys → ∀ c, c ∈ row → Data c) (k : SnapB h S ls ls') :
  SnapB h S (.ref q sz 0 len :: ls) (.sl 1 ys :: ls') := .cons (fun m hm => by
   subst hlen
   obtain ⟨d, hk⟩ : ∃ d : Delta, keys d = S := ⟨S.map fun q => (q, ⟨[], 0, 0, 0⟩), by simp [keys, Function.comp_def]⟩
   subst hk
   exact jP hq h2 hz h0 hS hc hl hd m hm) k
theorem snapBox {S : List Nat} {q : Nat} {ob : Ob} {ds : List LV} {m : Mem} (hq : m q = some ob) (h2 : ob.st ≠ 2) (hS : q ∈ S) (hlen : ob.cells.length = ds.length) (ho : ∀ (i : Nat) (c d : LV), ob.cells[i]? = some c → ds[i]? = some d → d.one = c.one) (hd : ∀ (i : Nat) (c d : LV), ob.cells[i]? = some c → ds[i]? = some d → Snap m (· ∈ S) c d) :
  Snap m (· ∈ S) (.ptr q 0) (.ro ds) := .ptr q 0 ob ds hq hS h2 (by simpa using hlen) (by simpa using ho) (by simpa using hd)
theorem snapBoxD {S : List Nat} {q : Nat} {ob : Ob} {m : Mem} (hq : m q = some ob) (h2 : ob.st ≠ 2) (hS : q ∈ S) (hd : ∀ c, c ∈ ob.cells → Data c) : Snap m (· ∈ S) (.ptr q 0) (.ro ob.cells) :=
 snapBox hq h2 hS rfl (fun i c d hc hd => by rw [hc] at hd; cases hd; rfl) fun i c d hc hd' => by rw [hc] at hd'; cases hd'; exact .data _ (hd c (List.mem_of_getElem? hc))
end
end Go.Ab
namespace Go.Ab
open Go.RowKit
section
variable {P : Program} {T : TT} {E : TypeId → Bool} {e : Env} {h : Hp}
variable {dst : Option Tmp} {ty : TypeId} {pos : String} {af : Array Edge} {g : Option (Nat × Bool)} {id : Nat} {x y : Operand} {bt el : TypeId} {ti te : TI}
theorem oStTi {f : Nat → Int} {b : Int} {n j r : Nat} (hx : evE e x = some (.ptr r ((0 + j) * 1))) (hy : evE e y = some (.v (.int .i64 b))) (hE : T bt = some ti) (hr : getH h r = some { cells := ((tab n f).map ic).flatten, sz := 1, elem := el, st := 0 }) (hj : j < n) (hz : 1 = ti.size) :
  OP P T E ⟨dst, .store bt x y, ty, pos, af, g⟩ id e h (.v undef) [(r, { cells := ((tab n (fset f j b)).map ic).flatten, sz := 1, elem := el, st := 0 })] [r] := by
 have := fO (P := P) (T := T) (E := E) (e := e) (h := h) (dst := dst) (ty := ty) (pos := pos) (af := af) (g := g) (id := id) (f := ic) (us := tab n f) b hx hy hE hr (fun _ => rfl) hz rfl (by rw [bX]; exact hj) rfl
 rwa [tab_set] at this
theorem oMf1 {f : Fn} {a : Operand} {l : LV} {args : Array Operand} {ls : List LV} (hx : evE e a = some l) (ha : argsE e args.toList = some ls) : OP P T E ⟨dst, .makeFunc f #[a] args, ty, pos, af, g⟩ id e h (.fn f [l] ls) [] [] := .mk fun s m hs _ => ⟨by
 simp only [aop]
 rw [cQ hs ha]; simp [hs a _ hx], rfl⟩
theorem oNcR {cs : List LV} (hx : evE e x = some (.ro cs)) : OP P T E ⟨dst, .nilCheck x, ty, pos, af, g⟩ id e h (.ro cs) [] [] := .mk fun s m hs _ => ⟨by simp only [aop]; rw [hs x _ hx], rfl⟩
end
theorem rS {n : Nat} {f : Nat → Int} : ∀ row, row ∈ (tab n f).map ic → row.length = 1 := cP (f := ic) fun _ => rfl
def wi (c : CH) (f : Nat → Bool) : Bool := c.2.2.all fun b => f b.1.toNat
def me (c : CH) (f : Nat → Bool) : Bool := c.2.2.any fun b => f b.1.toNat
def okc (f g : Nat → Bool) (c : CH) : Bool := wi c f && me c g
def alw (ss : List ST) (s : Nat) (p : Int) (f g : Nat → Bool) : Bool :=
 if (ss.getD s default).1.1 = p then (ss.getD s default).2.2.any (okc f g) else (ss.getD s default).2.2.all (okc f g)
structure WT (ss : List ST) : Prop where
 to : ∀ s, s ∈ ss → ∀ c, c ∈ s.2.2 → ∀ b, b ∈ c.2.2 → 0 ≤ b.1 ∧ b.1 < ss.length
 len : ss.length ≤ 40
end Go.Ab
namespace Go.Ab
open Go.RowKit
section
variable {P : Program} {T : TT} {E : TypeId → Bool} {e : Env} {h : Hp}
variable {dst : Option Tmp} {ty : TypeId} {pos : String} {af : Array Edge} {g : Option (Nat × Bool)} {id : Nat} {x y : Operand} {bt el : TypeId} {ti te : TI}
theorem kV {f : Nat → Bool} {r sz st : Nat} (hx : evE e x = some (.ptr r 0)) (hE : T bt = some ti) (hr : getH h r = some { cells := sb f, sz := sz, elem := el, st := st }) (h2 : Nat.beq st 2 = false) (ha : ti.agg = true) (hz : ti.size = 40) :
  OP P T E ⟨dst, .load bt x, ty, pos, af, g⟩ id e h (lvS f) [] [r] := aL hx hE hr h2 (by
 unfold loadLV
 rw [ha, hz, List.drop_zero]
 simp only [if_true, cO, Nat.le_refl]
 rw [List.take_of_length_le (by rw [cO]; exact Nat.le_refl _)]; rfl)
theorem jS {f : Nat → Bool} {cs : List LV} {r sz : Nat} (hx : evE e x = some (.ptr r 0)) (hy : evE e y = some (lvS f)) (hE : T bt = some ti) (hr : getH h r = some { cells := cs, sz := sz, elem := el, st := 0 }) (hc : cs.length = 40) (hz : ti.size = 40) :
  OP P T E ⟨dst, .store bt x y, ty, pos, af, g⟩ id e h (.v undef) [(r, { cells := sb f, sz := sz, elem := el, st := 0 })] [r] := dA hx hy hE hr rfl rfl (by show (sb f).length = _; rw [cO, hz]) (by
 show putCells cs 0 (sb f) = some (sb f)
 unfold putCells
 rw [if_pos (by rw [cO, hc]; decide), List.take_zero, List.drop_eq_nil_of_le (by rw [cO, hc]; decide)]
 simp)
theorem jB {et : TypeId} (hE : T et = some te) (hz : te.size = 40) (h0 : te.zero.map lz = List.replicate 40 (LV.v (.bool false))) : OP P T E ⟨dst, .alloc et, ty, pos, af, g⟩ id e h (.ptr id 0) [(id, { cells := sb fun _ => false, sz := 40, elem := et, st := 0 })] [] := by
 have := fN (P := P) (T := T) (E := E) (e := e) (h := h) (dst := dst) (ty := ty) (pos := pos) (af := af) (g := g) (id := id) hE
 rw [h0, hz] at this
 rwa [sb_none] at this
theorem oBxS {et : TypeId} {f : Nat → Bool} (hx : evE e x = some (lvS f)) : OP P T E ⟨dst, .box et x, ty, pos, af, g⟩ id e h (.ptr id 0) [(id, { cells := sb f, sz := 40, elem := et, st := 0 })] [] := by
 have := dY (P := P) (T := T) (E := E) (e := e) (h := h) (dst := dst) (ty := ty) (pos := pos) (af := af) (g := g) (id := id) (et := et) hx rfl
 rwa [show (lvS f).cells.length = 40 from cO f] at this
end
def eqS (f g : Nat → Bool) : Bool := (List.range 40).all fun i => f i == g i
theorem nA {f g : Nat → Bool} : eqS f g = true ↔ ∀ i, i < 40 → f i = g i := by
 unfold eqS
 rw [List.all_eq_true]
 exact ⟨fun h i hi => by simpa using h i (List.mem_range.2 hi), fun h i hi => by simpa using h i (List.mem_range.1 hi)⟩
theorem cellsEq_lvS (f g : Nat → Bool) : cellsEqB (sb f) (sb g) = some (eqS f g) := mE f g _
section
variable {P : Program} {T : TT} {E : TypeId → Bool} {e : Env} {h : Hp}
variable {dst : Option Tmp} {ty : TypeId} {pos : String} {af : Array Edge} {g : Option (Nat × Bool)} {id : Nat} {x y : Operand} {t yt el : TypeId} {ti te : TI}
theorem rJ {f f' : Nat → Bool} {k : Nat} (hE : E t = true) (hx : evE e x = some (lvS f)) (hy : evE e y = some (lvS f')) (hT : T t = some ti) (hd : ti.desc = .arr k el) (hz : ti.size = 40) : OP P T E ⟨dst, .binOp .eql t x y yt, ty, pos, af, g⟩ id e h (.v (.bool (eqS f f'))) [] [] := .mk fun s m hs _ => ⟨by
 have h1 : eqK ti (sb f) (sb f') = some (eqS f f') := by unfold eqK; rw [hd]; exact cellsEq_lvS f f'
 simp only [aop, hs x _ hx, hs y _ hy, lvS, binLV, hT, hE, cO, hz, decide_true, Bool.and_self, if_true, h1, Option.map_some], rfl⟩
end
end Go.Ab
namespace Go.Ab
open Go.RowKit
theorem tab_repi (n : Nat) : (List.replicate n [LV.v (.int .i64 0)]).flatten = ((tab n fun _ => (0 : Int)).map ic).flatten := by rw [← tab_const, List.map_replicate]; rfl
theorem sb_F {el : TypeId} {f : Nat → Bool} (hf : ∀ i, f i = false) : some (Ob.mk (sb fun _ => false) 40 el 0) = some (Ob.mk (sb f) 40 el 0) := by
 rw [sb_eq (f := f) fun i _ => hf i]
theorem dbrc1 (b : BR) : ∀ x, x ∈ brc b → Data x := dbrc (bs := [b]) _ (by simp)
section
variable {P : Program} {T : TT} {E : TypeId → Bool} {e : Env} {h : Hp}
variable {dst : Option Tmp} {ty : TypeId} {pos : String} {af : Array Edge} {g : Option (Nat × Bool)} {id : Nat} {x y : Operand} {bt el : TypeId} {ti te : TI}
theorem oLdSb {f : Nat → Bool} {j : Nat} (hx : evE e x = some (.ro ((sb f).drop (j * 1)))) (hE : T bt = some ti) (hj : j < 40) (hs : ti.size = 1) (ha : ti.agg = false) :
  OP P T E ⟨dst, .load bt x, ty, pos, af, g⟩ id e h (.v (.bool (f j))) [] [] := dX (cs := .v (.bool (f j)) :: (sb f).drop (j + 1)) (by rw [hx, Nat.mul_one, sb_drop hj]) hE (by unfold loadLV; rw [ha]; rfl)
end
theorem nV (i : Nat) : fset (fun s => decide (s < i)) i true = fun s => decide (s < i + 1) := by
 funext s
 unfold fset
 by_cases h : s = i
 ·subst h; rw [if_pos rfl]; exact (decide_eq_true om).symm
 ·rw [if_neg h]; exact decide_eq_decide.2 om
end Go.Ab
namespace Go.Ab
open Go.RowKit
section
variable {P : Program} {T : TT} {E : TypeId → Bool} {e : Env} {h : Hp}
variable {dst : Option Tmp} {ty : TypeId} {pos : String} {af : Array Edge} {g : Option (Nat × Bool)} {id : Nat}
theorem SnapB.datas {S : List Nat} : ∀ {ls : List LV}, (∀ c, c ∈ ls → Data c) → SnapB h S ls ls
 | [], _ => .nil
 | l :: ls, hd => .data (hd l (by simp)) (SnapB.datas fun c hc => hd c (by simp [hc]))
theorem SnapB.get {S : List Nat} {m : Mem} (hm : FitsM h m) {ls ls' : List LV} (hw : SnapB h S ls ls') : ls.length = ls'.length ∧ ∀ (i : Nat) (c d : LV), ls[i]? = some c → ls'[i]? = some d → Snap m (· ∈ S) c d := by
 induction hw with
 | nil => exact ⟨rfl, by simp⟩
 | cons h1 _ ih =>
  refine ⟨by simp [ih.1], fun i l l' hl hl' => ?_⟩
  cases i with
  | zero => simp at hl hl'; subst hl; subst hl'; exact h1 m hm
  | succ i => simp at hl hl'; exact ih.2 i l l' hl hl'
theorem SnapB.fn {S : List Nat} {f : Fn} {as0 as1 bs bs' ls ls' : List LV} (h1 : SnapB h S as0 as1) (h2 : SnapB h S bs bs') (k : SnapB h S ls ls') : SnapB h S (.fn f as0 bs :: ls) (.fn f as1 bs' :: ls') :=
 .cons (fun m hm => .fn f _ _ _ _ (h1.get hm).1 (h2.get hm).1 (h1.get hm).2 (h2.get hm).2) k
theorem SnapB.box {S : List Nat} {q : Nat} {ob : Ob} {ls ls' : List LV} (hq : getH h q = some ob) (hS : q ∈ S) (h2 : ob.st ≠ 2) (hd : ∀ c, c ∈ ob.cells → Data c) (k : SnapB h S ls ls') : SnapB h S (.ptr q 0 :: ls) (.ro ob.cells :: ls') :=
 .cons (fun m hm => snapBoxD (hm _ _ hq) h2 hS hd) k
theorem SnapB.boxF {S : List Nat} {q : Nat} {ob : Ob} {ds : List LV} {ls ls' : List LV} (hq : getH h q = some ob) (hS : q ∈ S) (h2 : ob.st ≠ 2) (ho : ob.cells.map LV.one = ds.map LV.one) (hd : SnapB h S ob.cells ds) (k : SnapB h S ls ls') : SnapB h S (.ptr q 0 :: ls) (.ro ds :: ls') :=
 .cons (fun m hm => snapBox (hm _ _ hq) h2 hS (hd.get hm).1 (fun i c d hc hd => by
  have := congrArg (·[i]?) ho
  simp only [List.getElem?_map, hc, hd, Option.map_some, Option.some.injEq] at this
  exact this.symm) (hd.get hm).2) k
theorem SnapB.app {S : List Nat} {as0 as1 bs bs' : List LV} (h1 : SnapB h S as0 as1) (h2 : SnapB h S bs bs') : SnapB h S (as0 ++ bs) (as1 ++ bs') := by
 induction h1 with
 | nil => exact h2
 | cons k _ ih => exact .cons k ih
theorem SnapB.toA {d : Delta} {ls ls' : List LV} (hw : SnapB h (keys d) ls ls') : SnapA h d ls ls' := by
 induction hw with
 | nil => exact .nil
 | cons k _ ih => exact .cons k ih
theorem fL : Lent h [] := fun q hq => by simp at hq
theorem Lent.cons {q : Nat} {S : List Nat} {o : Ob} (hq : getH h q = some o) (h2 : o.st ≠ 2) (k : Lent h S) : Lent h (q :: S) := fun r hr => by
 rcases List.mem_cons.1 hr with rfl | hr
 ·exact ⟨o, hq, h2⟩
 ·exact k r hr
theorem eP {t : Tmp} {f : FuncId} {first cap : List LV} {args : Array Operand} {at_ : Array TypeId} {ls : List LV} {r : LV} (hv : evE e (.tmp t) = some (.fn (.func f) first cap)) (ha : argsE e args.toList = some ls) (hr : Run P T E (.call f (first ++ ls ++ cap) r)) (hd : ∀ c, c ∈ first ++ ls ++ cap → Data c) :
  OP P T E ⟨dst, .call { callee := .value (.tmp t), args := args, argTypes := at_ }, ty, pos, af, g⟩ id e h r [] [] := fun s m hs hm =>
 .pcall _ _ _ _ _ _ _ (.tmp t) f first cap (first ++ ls ++ cap) rfl rfl (hs _ _ hv) (by
  rw [cQ hs ha]
  exact ⟨rfl, fun i l l' hl hl' => by rw [hl] at hl'; cases hl'; exact .data _ (hd l (List.mem_of_getElem? hl))⟩) (by intro p hp; simp at hp) hr
end
theorem iS {as0 bs cs : List LV} (h1 : ∀ c, c ∈ as0 → Data c) (h2 : ∀ c, c ∈ bs → Data c) (h3 : ∀ c, c ∈ cs → Data c) : ∀ c, c ∈ as0 ++ bs ++ cs → Data c := fun c hc => by
 rcases List.mem_append.1 hc with hc | hc
 ·rcases List.mem_append.1 hc with hc | hc
  ·exact h1 c hc
  ·exact h2 c hc
 ·exact h3 c hc
theorem dII (n : Int) : ∀ c, c ∈ [LV.v (.int .i64 n)] → Data c := by intro c hc; rw [List.mem_singleton] at hc; subst hc; exact .v _
theorem dro (f : Nat → Bool) : ∀ c, c ∈ [LV.ro (sb f)] → Data c := by intro c hc; rw [List.mem_singleton] at hc; subst hc; exact .ro _ (dG f)
theorem nY {f : Fn} {as0 bs : List LV} (h1 : ∀ c, c ∈ as0 → Data c) (h2 : ∀ c, c ∈ bs → Data c) : Data (.fn f as0 bs) := .fn f as0 bs h1 h2
theorem droF {f : Fn} {as0 bs : List LV} (h1 : ∀ c, c ∈ as0 → Data c) (h2 : ∀ c, c ∈ bs → Data c) : ∀ c, c ∈ [LV.ro [.fn f as0 bs]] → Data c := by
 intro c hc; rw [List.mem_singleton] at hc; subst hc
 exact .ro _ fun c hc => by rw [List.mem_singleton] at hc; subst hc; exact nY h1 h2
theorem d0 : ∀ c, c ∈ ([] : List LV) → Data c := by intro c hc; simp at hc
def pk (x : ST) (p : Int) (q : CH → Bool) : Int := if x.1.1 = p then fidx q x.2.2 else if x.2.2.any (fun c => !q c) then -1 else 0
end Go.Ab
namespace Go.Ab
open Go.RowKit
def mixf {α : Type} (f f' : Nat → α) (j : Nat) : Nat → α := fun s => if s < j then f' s else f s
theorem gV {α : Type} {f f' : Nat → α} {j : Nat} : mixf f f' (j + 1) = fset (mixf f f' j) j (f' j) := by
 funext s
 unfold mixf fset
 by_cases h : s = j
 ·subst h; rw [if_pos om, if_pos rfl]
 ·rw [if_neg h]
  show _ = if s < j then f' s else f s
  by_cases h2 : s < j
  ·rw [if_pos h2, if_pos om]
  ·rw [if_neg h2, if_neg om]
theorem dJ {α : Type} {f f' : Nat → α} {j : Nat} (h : f' j = f j) : mixf f f' (j + 1) = mixf f f' j := by
 rw [gV, h]
 funext s
 unfold mixf fset
 by_cases h : s = j
 ·subst h; rw [if_pos rfl, if_neg om]
 ·rw [if_neg h]
theorem pV {α : Type} {f f' : Nat → α} : mixf f f' 0 = f := by funext s; unfold mixf; rw [if_neg om]
theorem mixf_end {α : Type} {f f' : Nat → α} {n : Nat} (h : ∀ s, n ≤ s → f' s = f s) : mixf f f' n = f' := by
 funext s; unfold mixf
 by_cases h2 : s < n
 ·rw [if_pos h2]
 ·rw [if_neg h2, h s om]
def gstep (ss : List ST) (p : Int) (ins old : Nat → Bool) (s : Nat) : Bool := old s || (decide (s < ss.length) && ins s && alw ss s p ins old)
def newc (ss : List ST) (p : Int) (ins old : Nat → Bool) (c : Nat → Int) (s : Nat) : Int :=
 if (!old s && decide (s < ss.length) && ins s && alw ss s p ins old && decide ((ss.getD s default).1.1 = p)) = true then pk (ss.getD s default) p (okc ins old) else c s
def gx (ss : List ST) (p : Int) (ins goal : Nat → Bool) : Nat → Nat → Bool
 | 0 => goal
 | k + 1 => gstep ss p ins (gx ss p ins goal k)
def gc (ss : List ST) (p : Int) (ins goal : Nat → Bool) : Nat → Nat → Int
 | 0 => fun _ => 0
 | k + 1 => newc ss p ins (gx ss p ins goal k) (gc ss p ins goal k)
theorem pk_nonneg {x : ST} {p : Int} {q : CH → Bool} : decide (0 ≤ pk x p q) = if x.1.1 = p then x.2.2.any q else x.2.2.all q := by
 unfold pk
 by_cases h : x.1.1 = p
 ·rw [if_pos h, if_pos h]; exact gJ q _
 ·rw [if_neg h, if_neg h, ← any_not]
  cases h2 : x.2.2.any fun c => !q c
  ·rfl
  ·rfl
theorem pk_alw {ss : List ST} {s : Nat} {p : Int} {ins old : Nat → Bool} : decide (0 ≤ pk (ss.getD s default) p (okc ins old)) = alw ss s p ins old := pk_nonneg
theorem lN {ss : List ST} {p : Int} {ins old : Nat → Bool} {s : Nat} (h : ss.length ≤ s) : gstep ss p ins old s = old s := by
 unfold gstep; rw [decide_eq_false om]; simp
theorem oF {ss : List ST} {p : Int} {ins old : Nat → Bool} {s : Nat} (h : old s = true) : gstep ss p ins old s = true := by unfold gstep; rw [h, Bool.true_or]
theorem newc_out {ss : List ST} {p : Int} {ins old : Nat → Bool} {c : Nat → Int} {s : Nat} (h : ss.length ≤ s) : newc ss p ins old c s = c s := by
 unfold newc; rw [if_neg]; rw [decide_eq_false (by omega : ¬ s < ss.length)]; simp
theorem kU {ss : List ST} {p : Int} {ins old : Nat → Bool} {c : Nat → Int} {s : Nat} (h : gstep ss p ins old s = old s) : newc ss p ins old c s = c s := by
 unfold newc; rw [if_neg]
 intro h2
 simp only [Bool.and_eq_true, Bool.not_eq_true'] at h2
 obtain ⟨⟨⟨⟨h3, h4⟩, h5⟩, h6⟩, _⟩ := h2
 unfold gstep at h
 rw [h3, h4, h5, h6] at h; cases h
theorem gx_stable {ss : List ST} {p : Int} {ins goal : Nat → Bool} {k : Nat} (h : gx ss p ins goal (k + 1) = gx ss p ins goal k) : ∀ m, k ≤ m → gx ss p ins goal m = gx ss p ins goal k ∧ gc ss p ins goal m = gc ss p ins goal k := by
 intro m hm
 induction m with
 | zero =>
  obtain rfl : k = 0 := by omega
  exact ⟨rfl, rfl⟩
 | succ m ih =>
  rcases Nat.lt_or_ge m k with h1 | h1
  ·obtain rfl : k = m + 1 := by omega
   exact ⟨rfl, rfl⟩
  ·obtain ⟨i1, i2⟩ := ih h1
   have e1 : gstep ss p ins (gx ss p ins goal m) = gx ss p ins goal m := by rw [i1]; exact h
   refine ⟨by show gstep ss p ins (gx ss p ins goal m) = _; rw [e1, i1], ?_⟩
   show newc ss p ins (gx ss p ins goal m) (gc ss p ins goal m) = _
   rw [← i2]
   funext s
   exact kU (congrFun e1 s)
theorem fl_lt {f g : Nat → Bool} : ∀ n, (∀ s, s < n → f s = true → g s = true) → ((fl n f).length ≤ (fl n g).length) ∧ ((∃ s, s < n ∧ f s = false ∧ g s = true) → (fl n f).length < (fl n g).length)
 | 0, _ => ⟨Nat.le_refl _, fun ⟨s, h, _⟩ => absurd h om⟩
 | n + 1, h => by
  obtain ⟨i1, i2⟩ := fl_lt n fun s hs => h s om
  rw [iK, iK]
  cases hf : f n
  ·cases hg : g n
   ·simp only [Bool.false_eq_true, if_false]
    refine ⟨i1, fun ⟨s, h1, h2, h3⟩ => i2 ⟨s, ?_, h2, h3⟩⟩
    rcases Nat.lt_or_ge s n with h4 | h4
    ·exact h4
    ·obtain rfl : s = n := by omega
     rw [hg] at h3; cases h3
   ·simp only [Bool.false_eq_true, if_false, if_true, List.length_append, List.length_cons, List.length_nil]
    exact ⟨om, fun _ => by omega⟩
  ·have hg := h n om hf
   rw [hg]
   simp only [if_true, List.length_append, List.length_cons, List.length_nil]
   refine ⟨om, fun ⟨s, h1, h2, h3⟩ => ?_⟩
   have h5 : s < n := by
    rcases Nat.lt_or_ge s n with h4 | h4
    ·exact h4
    ·obtain rfl : s = n := by omega
     rw [hf] at h2; cases h2
   have := i2 ⟨s, h5, h2, h3⟩
   omega
theorem gx_grow {ss : List ST} {p : Int} {ins goal : Nat → Bool} {k : Nat} (hn : ss.length ≤ 40) (hk : k ≤ (fl ss.length (gx ss p ins goal k)).length) (h : eqS (gx ss p ins goal (k + 1)) (gx ss p ins goal k) = false) : k + 1 ≤ (fl ss.length (gx ss p ins goal (k + 1))).length := by
 obtain ⟨_, h2⟩ := fl_lt (f := gx ss p ins goal k) (g := gx ss p ins goal (k + 1)) ss.length fun s _ hs => oF hs
 have h3 : ∃ s, s < ss.length ∧ gx ss p ins goal k s = false ∧ gx ss p ins goal (k + 1) s = true := by
  apply Classical.byContradiction
  intro hc
  have : eqS (gx ss p ins goal (k + 1)) (gx ss p ins goal k) = true := nA.2 fun i hi => by
   rcases Nat.lt_or_ge i ss.length with h4 | h4
   ·cases h5 : gx ss p ins goal k i
    ·cases h6 : gx ss p ins goal (k + 1) i
     ·rfl
     ·exact absurd ⟨i, h4, h5, h6⟩ hc
    ·exact oF h5
   ·exact lN h4
  rw [this] at h; cases h
 have := h2 h3
 omega
theorem gx_same {ss : List ST} {p : Int} {ins goal : Nat → Bool} {k : Nat} (hn : ss.length ≤ 40) (h : eqS (gx ss p ins goal (k + 1)) (gx ss p ins goal k) = true) : gx ss p ins goal (k + 1) = gx ss p ins goal k := by
 funext s
 rcases Nat.lt_or_ge s ss.length with h4 | h4
 ·exact nA.1 h s om
 ·exact lN h4
def gX (ss : List ST) (p : Int) (ins goal : Nat → Bool) : Nat → Bool := gx ss p ins goal ss.length
def gC (ss : List ST) (p : Int) (ins goal : Nat → Bool) : Nat → Int := gc ss p ins goal ss.length
theorem gX_of {ss : List ST} {p : Int} {ins goal : Nat → Bool} {k : Nat} (hn : ss.length ≤ 40) (hk : k ≤ (fl ss.length (gx ss p ins goal k)).length) (h : eqS (gx ss p ins goal (k + 1)) (gx ss p ins goal k) = true) : gx ss p ins goal (k + 1) = gX ss p ins goal ∧ gc ss p ins goal (k + 1) = gC ss p ins goal := by
 have h1 := gx_same hn h
 have h2 := gx_stable h1
 have h3 := iJ ss.length (gx ss p ins goal k)
 have h4 := h2 ss.length om
 have h5 := h2 (k + 1) om
 exact ⟨h5.1.trans h4.1.symm, h5.2.trans h4.2.symm⟩
theorem eH {H h : Hp} (hnd : subsM H H) (hs : ∀ q o, getH H q = some o → getH h q = some o) : subsM H h := by
 suffices ∀ L, subsM L H → subsM L h from this H hnd
 intro L
 induction L with
 | nil => intro _; trivial
 | cons p L ih => exact fun ⟨h1, h2⟩ => ⟨hs _ _ h1, ih h2⟩
section
variable {P : Program} {T : TT} {E : TypeId → Bool} {N : Nat} {oa : Array Oper} {l : List Oper} {i b n : Nat} {e : Env} {h : Hp} {Q : Env → Hp → Nat → Prop}
theorem WN.weakH (a : Hp) (hs : Hp.le a h) (k : WN P T E N oa l i b e a n Q) : WN P T E N oa l i b e h n Q := fun hd s m hf hm => k hd s m hf fun t l hg => hm t l (hs t l hg)
theorem WN.weakM (a : Hp) (hs : subsM a h) (k : WN P T E N oa l i b e a n Q) : WN P T E N oa l i b e h n Q := WN.weakH a hs.get k
end
end Go.Ab
namespace Go.Ab
open Go.RowKit
section
variable {ss : List ST} {p : Int} {ins old : Nat → Bool} {c : Nat → Int} {j : Nat}
theorem gs_a (h : old j = true) : gstep ss p ins old j = old j := by unfold gstep; rw [h, Bool.true_or]
theorem gs_b (h0 : old j = false) (h : alw ss j p ins old = false) : gstep ss p ins old j = old j := by unfold gstep; rw [h0, h, Bool.and_false]; rfl
theorem gs_c (h0 : old j = false) (h : ins j = false) : gstep ss p ins old j = old j := by unfold gstep; rw [h0, h, Bool.and_false]; rfl
theorem gs_d (hj : j < ss.length) (hi : ins j = true) (h : alw ss j p ins old = true) : gstep ss p ins old j = true := by unfold gstep; rw [decide_eq_true hj, hi, h]; simp
theorem nc_d (h : (ss.getD j default).1.1 ≠ p) : newc ss p ins old c j = c j := by unfold newc; rw [if_neg]; rw [decide_eq_false h]; simp
theorem nc_e (h0 : old j = false) (hj : j < ss.length) (hi : ins j = true) (h : alw ss j p ins old = true) (ho : (ss.getD j default).1.1 = p) : newc ss p ins old c j = pk (ss.getD j default) p (okc ins old) := by
 unfold newc; rw [if_pos]; rw [h0, decide_eq_true hj, hi, h, decide_eq_true ho]; rfl
theorem pk_yes (h : 0 ≤ pk (ss.getD j default) p (okc ins old)) : alw ss j p ins old = true := by rw [← pk_alw]; exact decide_eq_true h
theorem pk_no (h : ¬ 0 ≤ pk (ss.getD j default) p (okc ins old)) : alw ss j p ins old = false := by rw [← pk_alw]; exact decide_eq_false h
end
section
variable {T : TT} {e : Env} {h : Hp} {ti : TI}
theorem resE_cellS {f : Nat → Bool} {a : Nat} {t el : TypeId} {r sz st : Nat} {rs : List ResultVar} {ls : List LV} (h1 : e.get a = some (.ptr r 0)) (hT : T t = some ti) (ha : ti.agg = true) (hz : ti.size = 40) (hg : getH h r = some { cells := sb f, sz := sz, elem := el, st := st }) (h2 : Nat.beq st 2 = false) (hr : resE e T h rs = some ls) :
  resE e T h (.cell a t :: rs) = some (lvS f :: ls) := by
 have h2' := Nat.ne_of_beq_eq_false h2
 have hl : loadLV ti (sb f) = some (lvS f) := by
  unfold loadLV
  rw [ha, hz]
  simp only [if_true, cO, Nat.le_refl]
  rw [List.take_of_length_le (by rw [cO]; exact Nat.le_refl _)]; rfl
 simp [resE, h1, hT, cellsH, hg, h2', hl, hr]
end
end Go.Ab
namespace Go.Ab
open Go.RowKit
theorem lZ {n : Nat} {el : TypeId} {f : Nat → Int} (hf : ∀ i, f i = 0) : Ob.mk (List.replicate n [LV.v (.int .i64 0)]).flatten 1 el 0 = Ob.mk ((tab n f).map ic).flatten 1 el 0 := by
 rw [tab_repi, tab_eq (g := f) fun i _ => (hf i).symm]
theorem SnapB.dat {h : Hp} {S : List Nat} {ls ls' : List LV} (hw : SnapB h S ls ls') : ∀ c, c ∈ ls' → Data c := by
 induction hw with
 | nil => intro c hc; simp at hc
 | cons k _ ih =>
  intro c hc
  rcases List.mem_cons.1 hc with rfl | hc
  ·exact (k (fun q => getH h q) (fun _ _ hq => hq)).isData
  ·exact ih c hc
theorem d2ro {g : FuncId} {cap : List LV} {f : Nat → Bool} (h : ∀ c, c ∈ cap → Data c) : ∀ c, c ∈ [LV.ro [.fn (.func g) [] cap], LV.ro (sb f)] → Data c := fun c hc => by
 rcases List.mem_cons.1 hc with rfl | hc
 ·exact droF (f := .func g) (as0 := []) (bs := cap) d0 h _ (by simp)
 ·exact dro f c hc
theorem to40 {ss : List ST} (hw : WT ss) {x : ST} (hx : x ∈ ss) {c : CH} (hc : c ∈ x.2.2) {b : BR} (hb : b ∈ c.2.2) : 0 ≤ b.1 ∧ b.1 < 40 := by
 have h1 := hw.to x hx c hc b hb
 have h2 := hw.len
 omega
end Go.Ab
namespace Go.Ab
open Go.RowKit
theorem WN.S0 {P : Program} {T : TT} {E : TypeId → Bool} {N : Nat} {oa : Array Oper} {i b n : Nat} {e : Env} {h : Hp} {Q : Env → Hp → Nat → Prop} {op : Op} {t : TypeId} {pos : String} {af : Array Edge} {l : List Oper} {r : LV} {d : Delta} {R : List Nat} (ho : OP P T E ⟨none, op, t, pos, af, none⟩ (b + i) e h r d R)
  (k : WN P T E N oa l (i + 1) b e (appH d h) n Q) : WN P T E N oa (⟨none, op, t, pos, af, none⟩ :: l) i b e h n Q := by
 intro hdr s m hs hm
 obtain ⟨hi, hl⟩ := eK hdr
 obtain ⟨rs, s', h1, h3⟩ := k hl _ _ hs (hm.app d)
 refine ⟨⟨i, keys d, R, false⟩ :: rs, s', ?_, h3⟩
 rw [List.length_cons, List.range'_succ]
 exact .did oa i _ b ⟨s, m, n⟩ s' rs _ r d R (by simpa using hi) rfl (ho s m (fun x l hx => cY hs hx) hm) h1
def mi (ss : List ST) (p : Int) (g : Nat → Bool) : Nat → Nat → Bool
 | 0 => fun s => decide (s < ss.length)
 | k + 1 => gX ss p (fun s => mi ss p g k s || g s) g
theorem gx_le {ss : List ST} {p : Int} {ins goal : Nat → Bool} {k s : Nat} (h : goal s = true) : gx ss p ins goal k s = true := by
 induction k with
 | zero => exact h
 | succ k ih => exact oF ih
theorem gx_in {ss : List ST} {p : Int} {ins goal : Nat → Bool} {k s : Nat} (h : gx ss p ins goal k s = true) : goal s = true ∨ (s < ss.length ∧ ins s = true) := by
 induction k with
 | zero => exact .inl h
 | succ k ih =>
  have h' : gstep ss p ins (gx ss p ins goal k) s = true := h
  unfold gstep at h'
  rw [Bool.or_eq_true, Bool.and_eq_true, Bool.and_eq_true] at h'
  rcases h' with h' | ⟨⟨h1, h2⟩, _⟩
  ·exact ih h'
  ·exact .inr ⟨of_decide_eq_true h1, h2⟩
section
variable {ss : List ST} {p : Int} {g : Nat → Bool} (hg : ∀ s, g s = true → s < ss.length)
include hg
theorem mi_g {s : Nat} (h : g s = true) : ∀ k, mi ss p g k s = true
 | 0 => decide_eq_true (hg s h)
 | k + 1 => gx_le h
theorem mi_n {s : Nat} : ∀ k, mi ss p g k s = true → s < ss.length
 | 0, h => of_decide_eq_true h
 | k + 1, h => by
  rcases gx_in h with h | ⟨h, _⟩
  ·exact hg s h
  ·exact h
theorem mi_or (k : Nat) : (fun s => mi ss p g k s || g s) = mi ss p g k := by
 funext s
 cases h : g s
 ·rw [Bool.or_false]
 ·rw [mi_g hg h]; rfl
theorem nF (k : Nat) : mi ss p g (k + 1) = gX ss p (mi ss p g k) g := by
 show gX ss p (fun s => mi ss p g k s || g s) g = _
 rw [mi_or hg]
theorem mi_sub {k s : Nat} (h : mi ss p g (k + 1) s = true) : mi ss p g k s = true := by
 rw [nF hg] at h
 rcases gx_in h with h | ⟨_, h⟩
 ·exact mi_g hg h k
 ·exact h
theorem mi_dec (hn : ss.length ≤ 40) {k : Nat} (h : eqS (mi ss p g (k + 1)) (mi ss p g k) = false) : (fl ss.length (mi ss p g (k + 1))).length < (fl ss.length (mi ss p g k)).length := by
 refine (fl_lt (f := mi ss p g (k + 1)) (g := mi ss p g k) ss.length fun s _ hs => mi_sub hg hs).2 ?_
 apply Classical.byContradiction
 intro hc
 have : eqS (mi ss p g (k + 1)) (mi ss p g k) = true := nA.2 fun i hi => by
  cases h5 : mi ss p g (k + 1) i
  ·cases h6 : mi ss p g k i
   ·rfl
   ·exact absurd ⟨i, mi_n hg k h6, h5, h6⟩ hc
  ·exact (mi_sub hg h5).symm
 rw [this] at h; cases h
theorem mi_same (hn : ss.length ≤ 40) {k : Nat} (h : eqS (mi ss p g (k + 1)) (mi ss p g k) = true) : mi ss p g (k + 1) = mi ss p g k := by
 funext s
 rcases Nat.lt_or_ge s ss.length with h4 | h4
 ·exact nA.1 h s om
 ·cases h5 : mi ss p g (k + 1) s
  ·cases h6 : mi ss p g k s
   ·rfl
   ·have := mi_n hg k h6; omega
  ·have := mi_n hg _ h5; omega
theorem mi_stable {k : Nat} (h : mi ss p g (k + 1) = mi ss p g k) : ∀ m, k ≤ m → mi ss p g m = mi ss p g k := by
 intro m hm
 induction m with
 | zero =>
  obtain rfl : k = 0 := by omega
  rfl
 | succ m ih =>
  rcases Nat.lt_or_ge m k with h1 | h1
  ·obtain rfl : k = m + 1 := by omega
   rfl
  ·rw [nF hg, ih h1, ← nF hg, h]
end
def mX (ss : List ST) (p : Int) (g : Nat → Bool) : Nat → Bool := mi ss p g ss.length
def mC (ss : List ST) (p : Int) (g : Nat → Bool) : Nat → Int := gC ss p (mX ss p g) g
theorem mX_of {ss : List ST} {p : Int} {g : Nat → Bool} (hg : ∀ s, g s = true → s < ss.length) (hn : ss.length ≤ 40) {k : Nat} (hk : k + (fl ss.length (mi ss p g k)).length ≤ ss.length) (h : eqS (mi ss p g (k + 1)) (mi ss p g k) = true) :
  gX ss p (fun s => mi ss p g k s || g s) g = mX ss p g ∧ gC ss p (fun s => mi ss p g k s || g s) g = mC ss p g := by
 have h1 := mi_same hg hn h
 have h2 := mi_stable hg h1 ss.length om
 unfold mC mX
 rw [mi_or hg, h2]
 exact ⟨by rw [← nF hg, h1], rfl⟩
theorem fl_all (n : Nat) : (fl n fun s => decide (s < n)).length = n := by
 unfold fl
 rw [List.length_map, List.filter_eq_self.2 (fun a ha => decide_eq_true (List.mem_range.1 ha)), List.length_range]
def sX (ss : List ST) (p : Int) (g : Nat → Bool) : Nat → Bool := gX ss (1 - p) (fun _ => true) g
def sC (ss : List ST) (p : Int) (g : Nat → Bool) (s : Nat) : Int :=
 if sX ss p g s = false ∧ (ss.getD s default).1.1 = p then fidx (fun c => !me c (sX ss p g)) (ss.getD s default).2.2 else 0
structure VM1 (ss : List ST) : Prop where
 wt : WT ss
 own : ∀ x, x ∈ ss → 0 ≤ x.1.1 ∧ x.1.1 ≤ 1
 cs : ∀ x, x ∈ ss → 1 ≤ x.2.2.length ∧ x.2.2.length ≤ 8
 bs : ∀ x, x ∈ ss → ∀ c, c ∈ x.2.2 → 1 ≤ c.2.2.length ∧ c.2.2.length ≤ 8
 pos : 1 ≤ ss.length
theorem kA {ss : List ST} (h : VMo ss = true) : VM1 ss := by
 unfold VMo at h
 rw [Bool.and_eq_true, Bool.and_eq_true] at h
 obtain ⟨⟨h1, h2⟩, h3⟩ := h
 have h1 := of_decide_eq_true h1
 have h2 := of_decide_eq_true h2
 have hs : ∀ x, x ∈ ss → VS ss.length x = true := List.all_eq_true.1 h3
 have hc : ∀ x, x ∈ ss → ∀ c, c ∈ x.2.2 → VC ss.length c = true := fun x hx => by
  have := hs x hx
  unfold VS at this
  rw [Bool.and_eq_true] at this
  exact List.all_eq_true.1 this.2
 refine ⟨⟨fun x hx c hcx b hb => ?_, h2⟩, fun x hx => ?_, fun x hx => ?_, fun x hx c hcx => ?_, h1⟩
 ·have := hc x hx c hcx
  unfold VC at this
  rw [Bool.and_eq_true, Bool.and_eq_true] at this
  have hok := List.all_eq_true.1 this.1.2
  obtain ⟨i, hi, rfl⟩ := List.getElem_of_mem hb
  have hlo := okB_lo (n := ss.length) (bs := c.2.2) i fun j hj => hok j (List.mem_range.2 om)
  have hi2 := hok i (List.mem_range.2 hi)
  unfold okB at hi2
  rw [Bool.and_eq_true, Bool.and_eq_true, Bool.and_eq_true] at hi2
  have e1 := of_decide_eq_true hi2.1.1.1
  have e2 := of_decide_eq_true hi2.1.1.2
  rw [show c.2.2.getD i default = c.2.2[i] by rw [List.getD_eq_getElem?_getD, List.getElem?_eq_getElem hi]; rfl] at e1 e2
  omega
 ·have := hs x hx
  unfold VS at this
  simp only [Bool.and_eq_true, decide_eq_true_eq] at this
  omega
 ·have := hs x hx
  unfold VS at this
  simp only [Bool.and_eq_true, decide_eq_true_eq] at this
  omega
 ·have := hc x hx c hcx
  unfold VC at this
  simp only [Bool.and_eq_true, decide_eq_true_eq] at this
  omega
theorem lP {n : Nat} {l : List Int} (h : VSet n l = true) {s : Nat} (hs : inL l s = true) : s < n := by
 unfold inL at hs
 rw [List.any_eq_true] at hs
 obtain ⟨t, ht, he⟩ := hs
 obtain ⟨i, hi, rfl⟩ := List.getElem_of_mem ht
 have := mT h hi
 have he := of_decide_eq_true he
 rw [show l.getD i default = l[i] by rw [List.getD_eq_getElem?_getD, List.getElem?_eq_getElem hi]; rfl] at this
 omega
def eA (ss : List ST) (l : List Int) (p : Int) : Int := if VMo ss = true ∧ VSet ss.length l = true then if p = 0 ∨ p = 1 then 0 else 6 else 1
end Go.Ab
namespace Go.Ab
open Go.RowKit
section
variable {ss : List ST} {p : Int} {l : List Int} (hg : ∀ s, inL l s = true → s < ss.length)
include hg
end
theorem eqL_take {l l' : List Int} {i : Nat} (h : l.take i = l'.take i) (h1 : i < l.length) (h2 : i < l'.length) (he : l.getD i default = l'.getD i default) : l.take (i + 1) = l'.take (i + 1) := by
 rw [List.take_succ_eq_append_getElem h1, List.take_succ_eq_append_getElem h2, h]
 rw [List.getD_eq_getElem?_getD, List.getD_eq_getElem?_getD, List.getElem?_eq_getElem h1, List.getElem?_eq_getElem h2] at he
 simp only [Option.getD_some] at he
 rw [he]
theorem eqL_no {l l' : List Int} {i : Nat} (h1 : i < l.length) (h2 : i < l'.length) (he : l.getD i default ≠ l'.getD i default) : l ≠ l' := fun h => he (by rw [h])
end Go.Ab
namespace Go.Ab
open Go.RowKit
section
variable {P : Program} {T : TT} {E : TypeId → Bool} {e : Env} {h : Hp}
variable {dst : Option Tmp} {ty : TypeId} {pos : String} {af : Array Edge} {g : Option (Nat × Bool)} {id : Nat} {x y lo hi : Operand} {bt el : TypeId} {ti te : TI} {k : Nat}
def slk (k n j : Nat) : Nat := if k = 2 ∧ j + 1 < n then 1 else k
theorem oStV {q sz s r off : Nat} {us : List (List LV)} {c : LV} (hx : evE e x = some (.ptr r off)) (ho : off = 0) (hy : evE e y = some (outV q sz us)) (hE : T bt = some ti) (hz : ti.size = 1) (hr : getH h r = some { cells := [c], sz := s, elem := el, st := 0 }) :
  OP P T E ⟨dst, .store bt x y, ty, pos, af, g⟩ id e h (.v undef) [(r, { cells := [outV q sz us], sz := s, elem := el, st := 0 })] [r] := by
 subst ho
 cases us with
 | nil => exact dA hx hy hE hr rfl rfl (by rw [hz]; rfl) rfl
 | cons u us => exact dA hx hy hE hr rfl rfl (by rw [hz]; rfl) rfl
theorem postRefA {rs : List ResultVar} {n : Nat} {z : Ex} {q sz len : Nat} {ob : Ob} (ys : List (List LV)) (hx : z = .normal ∨ z = .ret) (hr : resE e T h rs = some [.agg [.ref q sz 0 len]]) (hlen : len = ys.length) (hq : getH h q = some ob) (h2 : ob.st ≠ 2) (hz : ob.sz = sz) (h0 : 0 < sz) (hc : ob.cells = ys.flatten) (hl : ∀ row, row ∈ ys → row.length = sz) (hd : ∀ row, row ∈ ys → ∀ c, c ∈ row → Data c) :
  Post T rs (.agg [.sl 1 ys]) z e h n := by
 subst hlen
 refine ⟨hx, _, hr, [(q, { ob with st := 1 })], fun m hm => .agg _ _ rfl (fun i c d hc he => ?_) (fun i c d hc' he => ?_), by intro p hp; simp at hp; subst hp; exact ⟨ob, hq, h2, rfl⟩⟩
 ·match i with
  | 0 => simp at hc he; subst hc; subst he; rfl
  | i + 1 => simp at hc
 ·match i with
  | 0 => simp at hc' he; subst hc'; subst he; exact jP hq h2 hz h0 (by simp [keys]) hc hl hd m hm
  | i + 1 => simp at hc'
end
def fxc (x : ST) (c : Int) : ST := (x.1, (slk x.2.1 x.2.2.length c.toNat, [x.2.2.getD c.toNat default]))
def fxo (p : Int) (x : ST) (c : Int) : ST := if x.1.1 = p then fxc x c else x
def fxs (ss : List ST) (st : List Int) (p : Int) : List ST := tab ss.length fun i => fxo p (ss.getD i default) (st.getD i default)
theorem lF {α : Type} {n : Nat} (f : Nat → α) : tab (n + 1) f = tab n f ++ [f n] := by simp [tab, List.range_succ]
def hit (bs : List BR) (t : Nat) : Bool := bs.any fun b => decide (b.1.toNat = t)
def nxt (ss : List ST) (s t : Nat) : Bool := (ss.getD s default).2.2.any fun c => hit c.2.2 t
def wst (k s : Nat) (g : Nat → Int) (t : Int) : Nat → Int := if g s < 0 ∧ g t.toNat = k then fset g s (k + 1) else g
def w3 (k s : Nat) (g : Nat → Int) (l : List Int) (i : Nat) : Nat → Int := (l.take i).foldl (wst k s) g
def w2 (ss : List ST) (k : Nat) (g : Nat → Int) : Nat → Nat → Int
 | 0 => g
 | j + 1 => w3 k j (w2 ss k g j) (fl ss.length (nxt ss j)) (fl ss.length (nxt ss j)).length
def winit (l : List Int) (s : Nat) : Int := if inL l s = true then 0 else -1
def w1 (ss : List ST) (l : List Int) : Nat → Nat → Int
 | 0 => winit l
 | k + 1 => w2 ss k (w1 ss l k) ss.length
def vSt (ss : List ST) (st : List Int) : Bool := decide (st.length = ss.length) && (List.range st.length).all fun i => decide (0 ≤ st.getD i default) && decide (st.getD i default < ((ss.getD i default).2.2.length : Int))
def aln (ss : List ST) (p : Int) (st : List Int) : Bool := vSt ss st && (List.range st.length).all fun i => decide ((ss.getD i default).1.1 = p) || decide (st.getD i default = 0)
theorem oQ {n i : Nat} {p : Nat → Bool} (h : ∀ j, j < i → p j = true) (hi : n ≤ i) : (List.range n).all p = true := fG fun j hj => h j om
theorem fxs_len {ss : List ST} {st : List Int} {p : Int} : (fxs ss st p).length = ss.length := bX _ _
theorem rW {α : Type} {n : Nat} {f : Nat → α} {x : α} : x ∈ tab n f ↔ ∃ i, i < n ∧ f i = x := by
 unfold tab
 rw [List.mem_map]
 exact ⟨fun ⟨i, h1, h2⟩ => ⟨i, List.mem_range.1 h1, h2⟩, fun ⟨i, h1, h2⟩ => ⟨i, List.mem_range.2 h1, h2⟩⟩
theorem vSt_at {ss : List ST} {st : List Int} (h : vSt ss st = true) {i : Nat} (hi : i < ss.length) : 0 ≤ st.getD i default ∧ st.getD i default < ((ss.getD i default).2.2.length : Int) := by
 unfold vSt at h
 rw [Bool.and_eq_true] at h
 have h1 := of_decide_eq_true h.1
 have h2 := List.all_eq_true.1 h.2 i (List.mem_range.2 om)
 rw [Bool.and_eq_true] at h2
 exact ⟨of_decide_eq_true h2.1, of_decide_eq_true h2.2⟩
theorem vSt_len {ss : List ST} {st : List Int} (h : vSt ss st = true) : st.length = ss.length := by
 unfold vSt at h
 rw [Bool.and_eq_true] at h
 exact of_decide_eq_true h.1
end Go.Ab
namespace Go.Ab
open Go.RowKit
theorem fl_lt2 {n : Nat} {f : Nat → Bool} {i : Nat} (hi : i < (fl n f).length) : 0 ≤ (fl n f).getD i default ∧ (fl n f).getD i default < n := by
 obtain ⟨s, h1, h2, _⟩ := fl_mem.1 (bO hi)
 omega
section
variable {P : Program} {T : TT} {E : TypeId → Bool} {e : Env} {h : Hp}
variable {dst : Option Tmp} {ty : TypeId} {pos : String} {af : Array Edge} {g : Option (Nat × Bool)} {id : Nat} {x y : Operand} {bt el : TypeId} {te : TI}
end
end Go.Ab
namespace Go.Ab
open Go.RowKit
theorem lL {f : Nat → Bool} : ∀ n, (∀ i, i < (fl n f).length → lastI (fl n f) i < (fl n f).getD i default ∧ (fl n f).getD i default < n)
 | 0, i, hi => by simp [fl] at hi
 | n + 1, i, hi => by
  have ih := lL (f := f) n
  rw [iK] at hi ⊢
  cases h : f n
  ·rw [h] at hi
   simp only [Bool.false_eq_true, if_false] at hi ⊢
   have := ih i hi
   omega
  ·rw [h] at hi
   simp only [if_true] at hi ⊢
   rw [List.length_append] at hi
   simp only [List.length_cons, List.length_nil] at hi
   have e1 : ∀ j, j < (fl n f).length → (fl n f ++ [(n : Int)]).getD j default = (fl n f).getD j default := fun j hj => by
    rw [List.getD_eq_getElem?_getD, List.getElem?_append_left hj, ← List.getD_eq_getElem?_getD]
   have e2 : (fl n f ++ [(n : Int)]).getD (fl n f).length default = n := by
    rw [List.getD_eq_getElem?_getD, List.getElem?_append_right (Nat.le_refl _)]; simp
   rcases Nat.lt_or_ge i (fl n f).length with h1 | h1
   ·obtain ⟨k1, k2⟩ := ih i h1
    rw [e1 i h1]
    refine ⟨?_, om⟩
    rcases Nat.eq_zero_or_pos i with h0 | h0
    ·subst h0; exact k1
    ·rw [pR h0] at k1 ⊢; rw [e1 _ om]; exact k1
   ·obtain rfl : i = (fl n f).length := by omega
    rw [e2]
    refine ⟨?_, om⟩
    rcases Nat.eq_zero_or_pos (fl n f).length with h0 | h0
    ·rw [h0]; show (-1 : Int) < _; omega
    ·rw [pR h0, e1 _ om]
     have := (ih ((fl n f).length - 1) om).2
     exact this
theorem VSet_fl (n : Nat) (f : Nat → Bool) : VSet n (fl n f) = true := fG fun i hi => okI_yes (lL n i hi).1 (lL n i hi).2
def fewC (c : CH) : Bool := decide (c.2.2.length ≤ 10)
def fewS (s : ST) : Bool := decide (s.2.2.length ≤ 10) && s.2.2.all fewC
def fewM (ss : List ST) : Bool := decide (ss.length ≤ 45) && ss.all fewS
def fewG (gs : List (Nat × List Int)) (ss : List ST) : Bool := gs.all (fun r => decide (r.2.length ≤ 60)) && fewM ss
def gL (r : Nat × List Int) : List LV := [.sl r.1 (r.2.map ic)]
theorem dgL (r : Nat × List Int) : ∀ c, c ∈ gL r → Data c := by intro c hc; rw [gL, List.mem_singleton] at hc; subst hc; exact mR _ _
theorem fewS_no1 {s : ST} (h : 10 < s.2.2.length) : fewS s = false := by unfold fewS; rw [decide_eq_false om]; rfl
theorem fewS_no2 {s : ST} {j : Nat} (hj : j < s.2.2.length) (h : 10 < (s.2.2.getD j default).2.2.length) : fewS s = false := by
 unfold fewS; rw [nS (i := j) hj (decide_eq_false om), Bool.and_false]
theorem nB {ss : List ST} {i : Nat} (hi : i < ss.length) (h : fewS (ss.getD i default) = false) : fewM ss = false := by unfold fewM; rw [nS (i := i) hi h, Bool.and_false]
def dice : List ST := [((0, 0), (2, [((0, 1), (2, [(1, (2, 3)), (2, (1, 3))])), ((0, 1), (2, [(0, (1, 2)), (1, (1, 4)), (2, (1, 4))]))])), ((0, 0), (2, [((0, 1), (2, [(1, (1, 1))]))])), ((0, 1), (2, [((0, 1), (2, [(2, (1, 1))]))]))]
theorem dice_is : ∀ s, s ∈ dice → IS s := by
 intro s hs
 simp only [dice, List.mem_cons, List.not_mem_nil, or_false] at hs
 rcases hs with rfl | rfl | rfl <;> refine ⟨by unfold I64; decide, by unfold I64; decide, fun c hc => ?_⟩ <;> simp only [List.mem_cons, List.not_mem_nil, or_false] at hc
 ·rcases hc with rfl | rfl <;> refine ⟨by unfold I64; decide, by unfold I64; decide, fun b hb => ?_⟩ <;> simp only [List.mem_cons, List.not_mem_nil, or_false] at hb
  ·rcases hb with rfl | rfl <;> exact ⟨by unfold I64; decide, by unfold I64; decide, by unfold I64; decide⟩
  ·rcases hb with rfl | rfl | rfl <;> exact ⟨by unfold I64; decide, by unfold I64; decide, by unfold I64; decide⟩
 ·subst hc
  refine ⟨by unfold I64; decide, by unfold I64; decide, fun b hb => ?_⟩
  simp only [List.mem_cons, List.not_mem_nil, or_false] at hb
  subst hb; exact ⟨by unfold I64; decide, by unfold I64; decide, by unfold I64; decide⟩
 ·subst hc
  refine ⟨by unfold I64; decide, by unfold I64; decide, fun b hb => ?_⟩
  simp only [List.mem_cons, List.not_mem_nil, or_false] at hb
  subst hb; exact ⟨by unfold I64; decide, by unfold I64; decide, by unfold I64; decide⟩
theorem dice_e : eA dice [2] 0 = 0 := by decide +kernel
theorem dice_p : fl 3 (gX dice 0 (fun _ => true) (inL [2])) = [0, 2] := by decide +kernel
theorem dice_s : fl 3 (mX dice 0 (inL [2])) = [2] := by decide +kernel
open Go.RowKit
theorem any_cong {α : Type} {p q : α → Bool} : ∀ {l : List α}, (∀ a, a ∈ l → p a = q a) → l.any p = l.any q
 | [], _ => rfl
 | a :: l, h => by rw [List.any_cons, List.any_cons, h a (by simp), any_cong fun b hb => h b (by simp [hb])]
open Go.RowKit
section
variable {ss : List ST} {p : Int} {ins g : Nat → Bool}
end
theorem fxs_get {ss : List ST} {st : List Int} {p : Int} {s : Nat} (hs : s < ss.length) : (fxs ss st p).getD s default = fxo p (ss.getD s default) (st.getD s default) := iQ _ hs
theorem fxs_own {ss : List ST} {st : List Int} {p : Int} {s : Nat} (hs : s < ss.length) : ((fxs ss st p).getD s default).1 = (ss.getD s default).1 := by
 rw [fxs_get hs]; unfold fxo; split <;> rfl
theorem inL_fl {n s : Nat} {f : Nat → Bool} (hs : s < n) : inL (fl n f) s = f s := by
 cases h : f s
 ·cases h2 : inL (fl n f) s
  ·rfl
  ·unfold inL at h2
   rw [List.any_eq_true] at h2
   obtain ⟨t, h3, h4⟩ := h2
   obtain ⟨r, rfl, h5, h6⟩ := fl_mem.1 h3
   have := of_decide_eq_true h4
   obtain rfl : r = s := by omega
   rw [h] at h6; cases h6
 ·unfold inL
  exact List.any_eq_true.2 ⟨(s : Int), fl_mem.2 ⟨s, rfl, hs, h⟩, decide_eq_true rfl⟩
end Go.Ab
namespace Go.Ab
open Go.RowKit
theorem eA_ok {ss : List ST} {l : List Int} {p : Int} (h : eA ss l p = 0) : VMo ss = true ∧ VSet ss.length l = true ∧ (p = 0 ∨ p = 1) := by
 unfold eA at h
 by_cases h1 : VMo ss = true ∧ VSet ss.length l = true
 ·rw [if_pos h1] at h
  by_cases h2 : p = 0 ∨ p = 1
  ·exact ⟨h1.1, h1.2, h2⟩
  ·rw [if_neg h2] at h; cases h
 ·rw [if_neg h1] at h; cases h
theorem fewG_len {gs : List (Nat × List Int)} {ss : List ST} (h : fewG gs ss = true) : ∀ r, r ∈ gs → r.2.length ≤ 60 := by
 unfold fewG at h
 rw [Bool.and_eq_true] at h
 exact fun r hr => of_decide_eq_true (List.all_eq_true.1 h.1 r hr)
end Go.Ab
namespace Go.Ab
open Go.RowKit
theorem HasC.fields {T : TT} {t : TypeId} {ti : TI} {fs : List (Nat × TypeId)} {cs : List LV} (h : HasC T t cs) (ht : T t = some ti) (hd : ti.desc = .st fs) : cs.length = ti.size ∧ ∀ f tf, f ∈ fs → T f.2 = some tf → HasC T f.2 ((cs.drop f.1).take tf.size) := by
 have hdsc : dsc T t = some (.st fs) := by unfold dsc; rw [ht]; exact congrArg some hd
 cases h with
 | int _ k n h1 => rw [h1] at hdsc; cases hdsc
 | bool _ b h1 => rw [h1] at hdsc; cases hdsc
 | nil _ e h1 => rw [h1] at hdsc; cases hdsc
 | sl _ e xs h1 => rw [h1] at hdsc; cases hdsc
 | st _ ti' fs' _ h1 h2 h3 h4 =>
  rw [ht] at h1; cases h1
  rw [hd] at h2; cases h2
  exact ⟨h3, h4⟩
theorem HasC.i64 {T : TT} {t : TypeId} {cs : List LV} (h : HasC T t cs) (ht : dsc T t = some (.int .i64)) : ∃ z, cs = [.v (.int .i64 z)] ∧ I64 z := by
 cases h with
 | int _ k n h1 h2 h3 => rw [ht] at h1; cases h1; exact ⟨n, rfl, h2, h3⟩
 | bool _ b h1 => rw [ht] at h1; cases h1
 | nil _ e h1 => rw [ht] at h1; cases h1
 | sl _ e xs h1 => rw [ht] at h1; cases h1
 | st _ ti fs cs h1 h2 => unfold dsc at ht; rw [h1] at ht; simp only [Option.some.injEq] at ht; rw [h2] at ht; cases ht
theorem len1 {cs : List LV} (h : cs.length = 1) : ∃ a, cs = [a] := by
 match cs, h with
 | [a], _ => exact ⟨a, rfl⟩
theorem len3 {cs : List LV} (h : cs.length = 3) : ∃ a b c, cs = [a, b, c] := by
 match cs, h with
 | [a, b, c], _ => exact ⟨a, b, c, rfl⟩
open Go.RowKit
def Rk (k : Nat) (g g' : Nat → Int) : Prop := ∀ r, (0 ≤ g r → g' r = g r) ∧ (g r < 0 → g' r = g r ∨ g' r = k + 1)
theorem Rk.refl (k : Nat) (g : Nat → Int) : Rk k g g := fun r => ⟨fun _ => rfl, fun _ => .inl rfl⟩
theorem Rk.wst {k s : Nat} {g g' : Nat → Int} (h : Rk k g g') (t : Int) : Rk k g (wst k s g' t) := by
 unfold Go.Ab.wst
 by_cases hc : g' s < 0 ∧ g' t.toNat = k
 ·rw [if_pos hc]
  intro r
  unfold fset
  by_cases e : r = s
  ·subst e
   rw [if_pos rfl]
   refine ⟨fun h0 => ?_, fun _ => .inr rfl⟩
   have := (h r).1 h0
   omega
  ·rw [if_neg e]; exact h r
 ·rw [if_neg hc]; exact h
theorem Rk.fold {k s : Nat} {g : Nat → Int} : ∀ (L : List Int) {g' : Nat → Int}, Rk k g g' → Rk k g (L.foldl (Go.Ab.wst k s) g')
 | [], _, h => h
 | t :: L, _, h => Rk.fold L (h.wst t)
theorem Rk.w2 {ss : List ST} {k : Nat} {g : Nat → Int} : ∀ j, Rk k g (Go.Ab.w2 ss k g j)
 | 0 => .refl _ _
 | j + 1 => Rk.fold _ (Rk.w2 j)
section
variable {ss : List ST} {l : List Int}
end
end Go.Ab
namespace Go.Ab
open Go.RowKit
section
variable {ss : List ST} {p : Int} {g : Nat → Bool} (hn : ss.length ≤ 40) (hg : ∀ s, g s = true → s < ss.length)
include hn hg
end
def tos (c : CH) : List Int := c.2.2.map (·.1)
structure Alk (ss ss' : List ST) : Prop where
 len : ss.length = ss'.length
 own : ∀ s, s < ss.length → (ss.getD s default).1.1 = (ss'.getD s default).1.1
 cs : ∀ s, s < ss.length → (ss.getD s default).2.2.map tos = (ss'.getD s default).2.2.map tos
theorem wi_tos {c : CH} {f : Nat → Bool} : wi c f = (tos c).all fun t => f t.toNat := by unfold wi tos; rw [List.all_map]; rfl
theorem me_tos {c : CH} {f : Nat → Bool} : me c f = (tos c).any fun t => f t.toNat := by unfold me tos; rw [List.any_map]; rfl
theorem okc_tos {f g : Nat → Bool} : okc f g = (fun l : List Int => (l.all fun t => f t.toNat) && (l.any fun t => g t.toNat)) ∘ tos := by
 funext c; unfold okc; rw [wi_tos, me_tos]; rfl
theorem Alk.alw {ss ss' : List ST} (h : Alk ss ss') {s : Nat} (hs : s < ss.length) {p : Int} {f g : Nat → Bool} : Go.Ab.alw ss s p f g = Go.Ab.alw ss' s p f g := by
 unfold Go.Ab.alw
 rw [h.own s hs, okc_tos, ← List.any_map, ← List.all_map, h.cs s hs, List.any_map, List.all_map]
theorem Alk.gstep {ss ss' : List ST} (h : Alk ss ss') {p : Int} {ins old : Nat → Bool} : Go.Ab.gstep ss p ins old = Go.Ab.gstep ss' p ins old := by
 funext s
 unfold Go.Ab.gstep
 rw [← h.len]
 by_cases hs : s < ss.length
 ·rw [h.alw hs]
 ·rw [decide_eq_false hs]; rfl
theorem Alk.gx {ss ss' : List ST} (h : Alk ss ss') {p : Int} {ins g : Nat → Bool} : ∀ k, Go.Ab.gx ss p ins g k = Go.Ab.gx ss' p ins g k
 | 0 => rfl
 | k + 1 => by
  show Go.Ab.gstep ss p ins (Go.Ab.gx ss p ins g k) = Go.Ab.gstep ss' p ins (Go.Ab.gx ss' p ins g k)
  rw [h.gx k, h.gstep]
theorem Alk.gX {ss ss' : List ST} (h : Alk ss ss') {p : Int} {ins g : Nat → Bool} : Go.Ab.gX ss p ins g = Go.Ab.gX ss' p ins g := by unfold Go.Ab.gX; rw [h.gx, h.len]
theorem Alk.mi {ss ss' : List ST} (h : Alk ss ss') {p : Int} {g : Nat → Bool} : ∀ k, Go.Ab.mi ss p g k = Go.Ab.mi ss' p g k
 | 0 => by show (fun s => decide (s < ss.length)) = fun s => decide (s < ss'.length); rw [h.len]
 | k + 1 => by
  show Go.Ab.gX ss p (fun s => Go.Ab.mi ss p g k s || g s) g = Go.Ab.gX ss' p (fun s => Go.Ab.mi ss' p g k s || g s) g
  rw [h.mi k, h.gX]
theorem Alk.mX {ss ss' : List ST} (h : Alk ss ss') {p : Int} {g : Nat → Bool} : Go.Ab.mX ss p g = Go.Ab.mX ss' p g := by unfold Go.Ab.mX; rw [h.mi, h.len]
def att1 (ss : List ST) (p : Int) (b : Bool) (g : Nat → Bool) : Nat → Bool := if b = true then mX ss p g else gX ss p (fun _ => true) g
def atn (ss : List ST) (l : List Int) (p : Int) (L st : List Int) (b : Bool) : Bool := L.all fun t => att1 (fxs ss st p) p b (inL l) t.toNat
end Go.Ab
namespace Go.Ab
open Go.RowKit
section
variable {P : Program} {T : TT} {E : TypeId → Bool} {N : Nat} {e : Env} {h : Hp} {K : Env → Hp → Prop}
theorem Fz.cellR {q sz C z : Nat} {el el2 : TypeId} {us : List (List LV)} {A : List LV} {H : Hp} (a : Env) (hs : subs a e) (hqC : q ≠ C) (h0 : 0 < sz) (hl : ∀ row, row ∈ us → row.length = sz) (hd : ∀ row, row ∈ us → ∀ c, c ∈ row → Data c) (hH : getH H q = none)
  (k : K a ((C, { cells := A ++ [outR us], sz := z, elem := el2, st := 0 }) :: H)) : Fz N e (outH q sz el us ((C, { cells := A ++ [outV q sz us], sz := z, elem := el2, st := 0 }) :: H)) K := by
 cases us with
 | nil => exact Fz.same a _ hs (fun _ _ h => h) k
 | cons u us =>
  refine Fz.one (u :: us) a ((C, { cells := A ++ [outR (u :: us)], sz := z, elem := el2, st := 0 }) :: H) (ob := { cells := (u :: us).flatten, sz := sz, elem := el, st := 0 }) g0 (by show (0 : Nat) ≠ 2; decide) rfl h0 rfl hl hd (fun t l2 h2 => ⟨l2, hs.get t l2 h2, .inl rfl⟩) (fun r o2 hr => ?_) k
  by_cases e1 : C = r
  ·subst e1
   rw [g0] at hr; cases hr
   refine ⟨fun hc => hqC hc.symm, _, g1 hqC g0, rfl, by simp, fun i c c2 hc hc2 => ?_⟩
   rcases Nat.lt_or_ge i A.length with hi | hi
   ·rw [List.getElem?_append_left hi] at hc hc2
    rw [hc] at hc2; exact .inl (Option.some.inj hc2).symm
   ·rw [List.getElem?_append_right hi] at hc hc2
    rcases Nat.eq_zero_or_pos (i - A.length) with h1 | h1
    ·rw [h1] at hc hc2
     simp only [List.getElem?_cons_zero, Option.some.injEq] at hc hc2
     exact .inr ⟨hc.symm, hc2.symm⟩
    ·rw [List.getElem?_eq_none (by simp; omega)] at hc; cases hc
  ·rw [g1 e1 rfl] at hr
   refine ⟨fun hc => ?_, o2, g1 (fun hc => ?_) (g1 e1 hr), rfl, rfl, fun i c c2 hc hc2 => .inl (by rw [hc] at hc2; exact (Option.some.inj hc2).symm)⟩
   ·rw [hc, hH] at hr; cases hr
   ·rw [← hc, hH] at hr; cases hr
end
def kch (c : CH) : CH := (c.1, (1, c.2.2))
def kpl (q : Nat → Bool) (cs : List CH) : Nat → List CH
 | 0 => []
 | j + 1 => if q j = true then kpl q cs j ++ [kch (cs.getD j default)] else kpl q cs j
def kst (q : Nat → Bool) (x : ST) : ST := (x.1, (kd (kpl q x.2.2 x.2.2.length).length, kpl q x.2.2 x.2.2.length))
def kpt (q : Nat → Nat → Bool) (ss : List ST) : List ST := tab ss.length fun i => kst (q i) (ss.getD i default)
theorem nD {q : Nat → Bool} {cs : List CH} {j : Nat} (h : q j = true) : kpl q cs (j + 1) = kpl q cs j ++ [kch (cs.getD j default)] := if_pos h
theorem rH {q : Nat → Bool} {cs : List CH} {j : Nat} (h : q j = false) : kpl q cs (j + 1) = kpl q cs j := if_neg (by rw [h]; decide)
theorem nC (q : Nat → Bool) (cs : List CH) : ∀ j, (kpl q cs j).length ≤ j
 | 0 => Nat.le_refl _
 | j + 1 => by
  have := nC q cs j
  unfold kpl
  split
  ·rw [List.length_append]; simp; omega
  ·omega
theorem rG {q : Nat → Bool} {cs : List CH} {d : CH} : ∀ {j}, d ∈ kpl q cs j → ∃ i, i < j ∧ q i = true ∧ d = kch (cs.getD i default)
 | 0, h => by simp [kpl] at h
 | j + 1, h => by
  cases hq : q j
  ·rw [rH hq] at h
   obtain ⟨i, h1, h2⟩ := rG h
   exact ⟨i, om, h2⟩
  ·rw [nD hq, List.mem_append, List.mem_singleton] at h
   rcases h with h | h
   ·obtain ⟨i, h1, h2⟩ := rG h
    exact ⟨i, om, h2⟩
   ·exact ⟨j, om, hq, h⟩
theorem kpl_all {q : Nat → Bool} {cs : List CH} : ∀ {j}, j ≤ cs.length → (∀ i, i < j → q i = true) → kpl q cs j = (cs.take j).map kch
 | 0, _, _ => rfl
 | j + 1, hj, h => by
  rw [nD (h j om), kpl_all om (fun i hi => h i om), List.take_add_one, List.getElem?_eq_getElem om]
  rw [show cs.getD j default = cs[j] by rw [List.getD_eq_getElem?_getD, List.getElem?_eq_getElem om]; rfl]
  rw [List.map_append]; rfl
theorem kpl_none {q : Nat → Bool} {cs : List CH} : ∀ {j}, (∀ i, i < j → q i = false) → kpl q cs j = []
 | 0, _ => rfl
 | j + 1, h => by rw [rH (h j om), kpl_none fun i hi => h i om]
theorem kpl_one {q : Nat → Bool} {cs : List CH} {a : Nat} : ∀ {j}, a < j → (∀ i, i < j → q i = decide (i = a)) → kpl q cs j = [kch (cs.getD a default)]
 | 0, h, _ => absurd h om
 | j + 1, ha, h => by
  by_cases e : a = j
  ·subst e
   rw [nD (by rw [h a om]; exact decide_eq_true rfl), kpl_none fun i hi => by rw [h i om]; exact decide_eq_false om]
   rfl
  ·rw [rH (by rw [h j om]; exact decide_eq_false om), kpl_one om fun i hi => h i om]
def qf (ss : List ST) (st : List Int) (p : Int) (i k : Nat) : Bool := decide ((ss.getD i default).1.1 ≠ p) || decide (st.getD i default = (k : Int))
theorem gM (q : Nat → Nat → Bool) (ss : List ST) : (kpt q ss).length = ss.length := bX _ _
theorem kpt_get {q : Nat → Nat → Bool} {ss : List ST} {s : Nat} (hs : s < ss.length) : (kpt q ss).getD s default = kst (q s) (ss.getD s default) := iQ _ hs
theorem qf_cs {ss : List ST} {st : List Int} {p : Int} (hst : vSt ss st = true) {s : Nat} (hs : s < ss.length) : kpl (qf ss st p s) (ss.getD s default).2.2 (ss.getD s default).2.2.length = (fxo p (ss.getD s default) (st.getD s default)).2.2.map kch := by
 have hat := vSt_at hst hs
 unfold fxo
 by_cases ho : (ss.getD s default).1.1 = p
 ·rw [if_pos ho]
  refine kpl_one (a := (st.getD s default).toNat) om fun i hi => ?_
  unfold qf
  rw [decide_eq_false (fun h => h ho), Bool.false_or]
  by_cases e : i = (st.getD s default).toNat
  ·rw [decide_eq_true e, decide_eq_true om]
  ·rw [decide_eq_false e, decide_eq_false om]
 ·rw [if_neg ho, kpl_all (Nat.le_refl _) fun i hi => by unfold qf; rw [decide_eq_true ho, Bool.true_or], List.take_length]
theorem kpt_alk {ss : List ST} {st : List Int} {p : Int} (hst : vSt ss st = true) : Alk (kpt (qf ss st p) ss) (fxs ss st p) := by
 refine ⟨by rw [gM, fxs_len], fun s hs => ?_, fun s hs => ?_⟩
 ·rw [gM] at hs
  rw [kpt_get hs, fxs_own hs]; rfl
 ·rw [gM] at hs
  rw [kpt_get hs, fxs_get hs]
  show (kpl _ _ _).map tos = _
  rw [qf_cs hst hs, List.map_map]; rfl
theorem kpt_vm {ss : List ST} {st : List Int} {p : Int} (hV : VM1 ss) (hst : vSt ss st = true) : VM1 (kpt (qf ss st p) ss) := by
 have key : ∀ x, x ∈ kpt (qf ss st p) ss → ∃ y, y ∈ ss ∧ x.1 = y.1 ∧ 1 ≤ x.2.2.length ∧ x.2.2.length ≤ 8 ∧ ∀ c, c ∈ x.2.2 → ∃ d, d ∈ y.2.2 ∧ c.2.2 = d.2.2 := by
  intro x hx
  obtain ⟨s, hs, rfl⟩ := rW.1 hx
  have hm := bO (us := ss) hs
  refine ⟨_, hm, rfl, ?_, ?_, fun c hc => ?_⟩
  ·show 1 ≤ (kpl _ _ _).length
   rw [qf_cs hst hs, List.length_map]
   unfold fxo
   split
   ·exact Nat.le_refl _
   ·exact (hV.cs _ hm).1
  ·have := nC (qf ss st p s) (ss.getD s default).2.2 (ss.getD s default).2.2.length
   have := (hV.cs _ hm).2
   show (kpl _ _ _).length ≤ 8
   omega
  ·obtain ⟨i, hi, _, rfl⟩ := rG hc
   exact ⟨_, bO hi, rfl⟩
 refine ⟨⟨fun x hx c hc b hb => ?_, by rw [gM]; exact hV.wt.len⟩, fun x hx => ?_, fun x hx => ?_, fun x hx c hc => ?_, by rw [gM]; exact hV.pos⟩
 ·obtain ⟨y, hy, _, _, _, h⟩ := key x hx
  obtain ⟨d, hd, e⟩ := h c hc
  rw [gM]
  exact hV.wt.to y hy d hd b (by rw [← e]; exact hb)
 ·obtain ⟨y, hy, e, _⟩ := key x hx
  rw [e]; exact hV.own y hy
 ·obtain ⟨_, _, _, h1, h2, _⟩ := key x hx
  exact ⟨h1, h2⟩
 ·obtain ⟨y, hy, _, _, _, h⟩ := key x hx
  obtain ⟨d, hd, e⟩ := h c hc
  rw [e]; exact hV.bs y hy d hd
theorem kpt_att {ss : List ST} {st : List Int} {p : Int} (hst : vSt ss st = true) {b : Bool} {g : Nat → Bool} : att1 (kpt (qf ss st p) ss) p b g = att1 (fxs ss st p) p b g := by
 unfold att1; rw [(kpt_alk hst).mX, (kpt_alk hst).gX]
theorem con_att {n : Nat} {L : List Int} {f : Nat → Bool} (hL : VSet n L = true) : (L.any fun t => !(inL (fl n f) t.toNat)) = !(L.all fun t => f t.toNat) := by
 rw [List.not_all_eq_any_not]
 refine any_cong fun t ht => ?_
 obtain ⟨i, hi, rfl⟩ := List.getElem_of_mem ht
 have h1 := mT hL hi
 rw [show L.getD i default = L[i] by rw [List.getD_eq_getElem?_getD, List.getElem?_eq_getElem hi]; rfl] at h1
 rw [inL_fl om]
def KC (c : CH) : Prop := c.2.1 = 0 → c.2.2 = []
def KN (ss : List ST) : Prop := ∀ x, x ∈ ss → ∀ c, c ∈ x.2.2 → KC c
end Go.Ab
namespace Go.Ab
open Go.RowKit
theorem kB {n : Nat} {l : List Int} (h : VSet n l = true) {t : Int} (ht : t ∈ l) : 0 ≤ t ∧ t < n := by
 obtain ⟨i, hi, rfl⟩ := List.getElem_of_mem ht
 have h1 := mT h hi
 rw [show l.getD i default = l[i] by rw [List.getD_eq_getElem?_getD, List.getElem?_eq_getElem hi]; rfl] at h1
 exact h1
def eT (ss : List ST) (l : List Int) (p : Int) (L st : List Int) : Int :=
 if VMo ss = true ∧ VSet ss.length l = true ∧ VSet ss.length L = true ∧ vSt ss st = true then if p = 0 ∨ p = 1 then if aln ss p st = true then 0 else 7 else 6 else 1
def aT (ss : List ST) (l : List Int) (p : Int) (L st : List Int) (b : Bool) : Bool := decide (eT ss l p L st = 0) && atn ss l p L st b
section
variable {ss : List ST} {l : List Int} {p : Int} {L st : List Int} {b : Bool}
theorem nR (h : eT ss l p L st ≠ 0) : aT ss l p L st b = false := by unfold aT; rw [decide_eq_false h]; rfl
theorem aT_yes (h : eT ss l p L st = 0) : aT ss l p L st b = atn ss l p L st b := by unfold aT; rw [decide_eq_true h]; rfl
theorem eT_1 (h : ¬ (VMo ss = true ∧ VSet ss.length l = true ∧ VSet ss.length L = true ∧ vSt ss st = true)) : eT ss l p L st = 1 := if_neg h
theorem eT_6 (h : VMo ss = true ∧ VSet ss.length l = true ∧ VSet ss.length L = true ∧ vSt ss st = true) (hp : ¬ (p = 0 ∨ p = 1)) : eT ss l p L st = 6 := by unfold eT; rw [if_pos h, if_neg hp]
theorem eT_7 (h : VMo ss = true ∧ VSet ss.length l = true ∧ VSet ss.length L = true ∧ vSt ss st = true) (hp : p = 0 ∨ p = 1) (ha : aln ss p st = false) : eT ss l p L st = 7 := by unfold eT; rw [if_pos h, if_pos hp, if_neg (by rw [ha]; decide)]
theorem eT_0 (h : VMo ss = true ∧ VSet ss.length l = true ∧ VSet ss.length L = true ∧ vSt ss st = true) (hp : p = 0 ∨ p = 1) (ha : aln ss p st = true) : eT ss l p L st = 0 := by unfold eT; rw [if_pos h, if_pos hp, if_pos ha]
theorem eT_ok (h : eT ss l p L st = 0) : (VMo ss = true ∧ VSet ss.length l = true ∧ VSet ss.length L = true ∧ vSt ss st = true) ∧ (p = 0 ∨ p = 1) ∧ aln ss p st = true := by
 unfold eT at h
 by_cases h1 : VMo ss = true ∧ VSet ss.length l = true ∧ VSet ss.length L = true ∧ vSt ss st = true
 ·rw [if_pos h1] at h
  by_cases h2 : p = 0 ∨ p = 1
  ·rw [if_pos h2] at h
   by_cases h3 : aln ss p st = true
   ·exact ⟨h1, h2, h3⟩
   ·rw [if_neg h3] at h; cases h
  ·rw [if_neg h2] at h; cases h
 ·rw [if_neg h1] at h; cases h
theorem aT_prog (he : eT ss l p L st = 0) : (!(L.any fun t => !(inL (fl (kpt (qf ss st p) ss).length (att1 (kpt (qf ss st p) ss) p b (inL l))) t.toNat))) = aT ss l p L st b := by
 obtain ⟨⟨_, _, h3, h4⟩, _, _⟩ := eT_ok he
 rw [con_att (by rw [gM]; exact h3), Bool.not_not, aT_yes he, kpt_att h4]; rfl
end
theorem KN.ne {ss : List ST} (h : KN ss) (hV : VM1 ss) : ∀ x, x ∈ ss → ∀ c, c ∈ x.2.2 → c.2.1 ≠ 0 := fun x hx c hc h0 => by
 have h1 := (hV.bs x hx c hc).1
 rw [h x hx c hc h0] at h1
 exact absurd h1 (by decide)
theorem HasC.nil0 {T : TT} {t e : TypeId} {k : Nat} {xs : List (List LV)} (h : HasC T t [.sl k xs]) (ht : dsc T t = some (.sl e)) : k = 0 → xs = [] := by
 intro hk
 subst hk
 cases h with
 | nil => rfl
 | st _ ti fs cs h1 h2 => unfold dsc at ht; rw [h1] at ht; simp only [Option.some.injEq] at ht; rw [h2] at ht; cases ht
end Go.Ab
namespace Go.Ab
theorem rU {f : Nat → Rat} : ∀ n, (∀ i, 0 < i → i < n + 1 → f i = 0) → sm f (n + 1) = f 0
 | 0, _ => by show 0 + f 0 = f 0; rw [Rat.zero_add]
 | n + 1, h => by
  show sm f (n + 1) + f (n + 1) = f 0
  rw [rU n fun i h0 hi => h i h0 om, h (n + 1) om om, Rat.add_zero]
theorem det_zcol : ∀ n {M : Nat → Nat → Rat}, (∀ i, i ≤ n → M i n = 0) → det (n + 1) M = 0
 | 0, M, h => by
  show 0 + sg 0 * M 0 0 * 1 = 0
  rw [h 0 (Nat.le_refl _)]; grind
 | n + 1, M, h => by
  rw [det]
  refine (dB (g := fun _ => 0) _ fun i hi => ?_).trans (lB _)
  rw [det_zcol n fun a ha => h _ (by unfold skp; split <;> omega)]; grind
theorem det_last : ∀ n {M : Nat → Nat → Rat}, (∀ i, i < n → M i n = 0) → M n n = 1 → det (n + 1) M = det n M
 | 0, M, _, h => by
  show 0 + 1 * M 0 0 * 1 = 1
  rw [h]; grind
 | n + 1, M, h, h1 => by
  rw [det, sm, det_zcol n (M := fun a b => M (skp (n + 1) a) (b + 1)) fun a ha => h _ (by unfold skp; split <;> omega), det]
  rw [show sg (n + 1) * M (n + 1) 0 * (0 : Rat) = 0 by grind, Rat.add_zero]
  refine dB _ fun i hi => ?_
  rw [det_last n (M := fun a b => M (skp i a) (b + 1)) (fun a ha => h _ (by unfold skp; split <;> omega)) (by rw [show skp i n = n + 1 by unfold skp; split <;> omega]; exact h1)]
def colF (k : Nat) (x : Nat → Rat) : Nat → Nat → Rat := fun i b => if b = k then x i else if i = b then 1 else 0
theorem det_col : ∀ n {k : Nat} {x : Nat → Rat}, k < n → det n (colF k x) = x k
 | 0, _, _, h => absurd h om
 | n + 1, 0, x, _ => by
  rw [det, rU n fun i h0 hi => ?_]
  ·have e : det n (fun a b => colF 0 x (skp 0 a) (b + 1)) = det n oneF := dS n fun a b _ _ => by
    show (if b + 1 = 0 then x (skp 0 a) else if skp 0 a = b + 1 then 1 else 0) = if a = b then 1 else 0
    rw [show skp 0 a = a + 1 by unfold skp; rw [if_neg om], if_neg om]
    by_cases h : a = b
    ·rw [if_pos h, if_pos om]
    ·rw [if_neg h, if_neg om]
   rw [e, qV]
   show 1 * (if 0 = 0 then x 0 else _) * 1 = x 0
   rw [if_pos rfl]; grind
  ·have e : det n (fun a b => colF 0 x (skp i a) (b + 1)) = 0 := (iX n).zero _ (r := 0) om fun b hb => by
    unfold colF skp
    rw [if_pos h0, if_neg om, if_neg om]
   rw [e]; grind
 | n + 1, k + 1, x, h => by
  rw [det, rU n fun i h0 hi => by rw [show colF (k + 1) x i 0 = 0 by unfold colF; rw [if_neg om, if_neg om]]; grind]
  have e : det n (fun a b => colF (k + 1) x (skp 0 a) (b + 1)) = det n (colF k fun a => x (a + 1)) := dS n fun a b _ _ => by
   unfold colF skp
   rw [if_neg (show ¬ a < 0 by omega)]
   by_cases h1 : b = k
   ·rw [if_pos h1, if_pos om]
   ·rw [if_neg h1, if_neg om]
    by_cases h2 : a = b
    ·rw [if_pos h2, if_pos om]
    ·rw [if_neg h2, if_neg om]
  rw [e, det_col n om, show colF (k + 1) x 0 0 = 1 by unfold colF; rw [if_neg om, if_pos rfl]]
  show 1 * 1 * x (k + 1) = _
  grind
def toL (n : Nat) (M : Nat → Nat → Rat) : List (List Rat) := (List.range n).map fun i => (List.range n).map fun j => M i j
theorem toL_ent {n : Nat} {M : Nat → Nat → Rat} {i j : Nat} (hi : i < n) (hj : j < n) : ent (toL n M) i j = M i j := by unfold ent toL; rw [jZ hi, jZ hj]
theorem toL_len (n : Nat) (M : Nat → Nat → Rat) : (toL n M).length = n := by simp [toL]
theorem toL_wid (n : Nat) (M : Nat → Nat → Rat) : Wid n (toL n M) := fun r hr => by
 obtain ⟨i, _, rfl⟩ := List.mem_map.1 hr
 simp
theorem det_mulFF (n : Nat) (M B : Nat → Nat → Rat) : det n (mulF n M B) = det n M * det n B := by
 have h1 : det n M = det n (fm (toL n M)) := dS n fun a b ha hb => (toL_ent ha hb).symm
 rw [h1, det_dtv (toL_len n M) (toL_wid n M), ← det_mulF (toL_len n M) (toL_wid n M)]
 refine dS n fun a b ha hb => ?_
 unfold mulF
 exact dB _ fun t ht => by rw [show fm (toL n M) a t = M a t from toL_ent ha ht]
structure PV (R S : List (List Rat)) (L : List Nat) (w : Nat) (g : Rat) (π : Nat → Nat) : Prop where
 rng : ∀ i, i < R.length → π i < R.length
 eq : ∀ i j, i < R.length → j < w → ent R (π i) j = sm (fun k => ent R (π i) (L.getD k default) * ent S k j) L.length + (if i < L.length then 0 else ent S i j)
 dt : g = det L.length (fun a b => ent R (π a) (L.getD b default)) ∨ g = -det L.length (fun a b => ent R (π a) (L.getD b default))
theorem swp_r (a r : Nat) : swp a r r = a := by
 unfold swp
 by_cases h : r = a
 ·rw [if_pos h, h]
 ·rw [if_neg h, if_pos rfl]
theorem PV.step {R S B : List (List Rat)} {L : List Nat} {w a c : Nat} {g : Rat} {π : Nat → Nat} (hSl : S.length = R.length) (hc : c < w) (ha : L.length ≤ a) (h : PV R S L w g π) (hs : Stp S B w a L.length c) :
  PV R B (L ++ [c]) w ((if a ≠ L.length then -g else g) * ent S a c) (fun i => π (swp a L.length i)) := by
 have haR : a < R.length := by have := hs.ha; omega
 have hrR : L.length < R.length := by have := hs.hr; omega
 have hsw : ∀ i, i < R.length → swp a L.length i < R.length := fun i hi => swp_len hi haR hrR
 have hLk : ∀ k, k < L.length → (L ++ [c]).getD k default = L.getD k default := fun k hk => jQ hk
 have hLr : (L ++ [c]).getD L.length default = c := lC
 have hlen : (L ++ [c]).length = L.length + 1 := by simp
 refine ⟨fun i hi => h.rng _ (hsw i hi), fun i j hi hj => ?_, ?_⟩
 ·have e1 := h.eq (swp a L.length i) j (hsw i hi) hj
  have e2 := h.eq (swp a L.length i) c (hsw i hi) hc
  rw [hlen, sm, hLr]
  have e3 : sm (fun k => ent R (π (swp a L.length i)) ((L ++ [c]).getD k default) * ent B k j) L.length = sm (fun k => ent R (π (swp a L.length i)) (L.getD k default) * ent S k j) L.length + -(1 / ent S a c * ent S a j) * sm (fun k => ent R (π (swp a L.length i)) (L.getD k default) * ent S k c) L.length := by
   rw [jN, ← rT]
   refine dB _ fun k hk => ?_
   rw [hLk k hk, hs.oth k j om om hj, lY hk ha]; grind
  have hBr := hs.row j hj
  have hne := hs.ne
  rw [e3, hBr]
  by_cases h1 : i < L.length
  ·rw [if_pos om]
   rw [lY h1 ha, if_pos h1] at e1 e2
   rw [lY h1 ha]
   rw [e1, e2]; grind
  ·rw [if_neg (show ¬ swp a L.length i < L.length by have := swp_ge (a := a) (r := L.length) (i := i) om ha; omega)] at e1 e2
   by_cases h2 : i = L.length
   ·rw [if_pos om]
    rw [h2, swp_r] at e1 e2 ⊢
    rw [e1, e2]
    grind
   ·rw [if_neg om, hs.oth i j om h2 hj, e1, e2]; grind
 ·have hdet : det (L.length + 1) (fun x b => ent R (π (swp a L.length x)) ((L ++ [c]).getD b default)) = det L.length (fun x b => ent R (π x) (L.getD b default)) * ent S a c := by
   have h1 : det (L.length + 1) (fun x b => if b = L.length then (if x = L.length then 1 else 0) else ent R (π (swp a L.length x)) (L.getD b default)) = det L.length (fun x b => ent R (π x) (L.getD b default)) := by
    rw [det_last L.length (fun i hi => by rw [if_pos rfl, if_neg om]) (by rw [if_pos rfl, if_pos rfl])]
    refine dS _ fun x b hx hb => ?_
    rw [if_neg om, lY hx ha]
   rw [← h1]
   have hcol := det_col (L.length + 1) (k := L.length) (x := fun k => if k = L.length then ent S a c else ent S k c) om
   rw [if_pos rfl] at hcol
   rw [← hcol, ← det_mulFF]
   refine dS _ fun x b hx hb => ?_
   unfold mulF colF
   by_cases e : b = L.length
   ·have e2 := h.eq (swp a L.length x) c (hsw x om) hc
    rw [e, hLr, sm, e2]
    have e4 : sm (fun t => (if t = L.length then (if x = L.length then (1 : Rat) else 0) else ent R (π (swp a L.length x)) (L.getD t default)) * (if L.length = L.length then (if t = L.length then ent S a c else ent S t c) else if t = L.length then 1 else 0)) L.length = sm (fun k => ent R (π (swp a L.length x)) (L.getD k default) * ent S k c) L.length := dB _ fun t ht => by
     rw [if_neg om, if_pos rfl, if_neg om]
    rw [e4, if_pos rfl]
    congr 1
    show _ = (if L.length = L.length then (if x = L.length then (1 : Rat) else 0) else _) * (if L.length = L.length then ent S a c else _)
    rw [if_pos rfl, if_pos rfl]
    by_cases hx2 : x = L.length
    ·rw [if_pos hx2, hx2, swp_r, if_neg om]; grind
    ·rw [if_neg hx2, lY om ha, if_pos om]; grind
   ·rw [hLk b om, lA (L.length + 1) hb fun i hi hne => by rw [if_neg e, if_neg hne]; grind]
    show _ = (if b = L.length then _ else ent R (π (swp a L.length x)) (L.getD b default)) * (if b = L.length then _ else if b = b then 1 else 0)
    rw [if_neg e, if_neg e, if_pos rfl]; grind
  rw [hlen, hdet]
  rcases h.dt with h2 | h2 <;> (rw [h2]; by_cases h3 : a = L.length)
  ·rw [if_neg (by simp [h3])]; exact .inl rfl
  ·rw [if_pos h3]; exact .inr (by grind)
  ·rw [if_neg (by simp [h3])]; exact .inr (by grind)
  ·rw [if_pos h3]; exact .inl (by grind)
theorem PV.all {R : List (List Rat)} {w : Nat} (hw : Wid w R) (c : Nat) (hc : c ≤ w) : ∃ π, PV R (gjn R c).1 (gjn R c).2 w (gjd R c) π := by
 refine rA (P := fun c S L => ∃ π, PV R S L w (gjd R c) π) hw ⟨id, fun i hi => hi, fun i j hi hj => by simp [sm, Rat.zero_add], .inl rfl⟩ (fun c S L hcw he hSl hwS hL ⟨π, h⟩ hz => ?_) (fun c S L B a hcw he hSl hwS ha ⟨π, h⟩ hs hn hp => ?_) c hc
 ·refine ⟨π, ?_⟩
  rw [gjd_no (by rw [he]; exact pivot_eq (by show L.length ≤ S.length; omega) (Nat.le_refl _) (fun k h1 h2 => hz k h1 (by have h2' : k < S.length := h2; omega)) (.inl rfl))]
  exact h
 ·refine ⟨fun i => π (swp a L.length i), ?_⟩
  rw [gjd_yes (a := a) (by rw [he]; exact hp) (by rw [he]; exact hs.ha), he]
  exact h.step hSl hcw ha hs
def IsI (C : Nat) (x : Rat) : Prop := ∃ z : Int, x = (z : Rat) ∧ z.natAbs ≤ C
theorem IsI.mul {C D : Nat} {x y : Rat} (hx : IsI C x) (hy : IsI D y) : IsI (C * D) (x * y) := by
 obtain ⟨a, rfl, h1⟩ := hx
 obtain ⟨b, rfl, h2⟩ := hy
 exact ⟨a * b, by rw [Rat.intCast_mul], by rw [Int.natAbs_mul]; exact Nat.mul_le_mul h1 h2⟩
theorem IsI.mono {C D : Nat} {x : Rat} (hx : IsI C x) (h : C ≤ D) : IsI D x := let ⟨a, h1, h2⟩ := hx; ⟨a, h1, Nat.le_trans h2 h⟩
theorem IsI.sm {C : Nat} {f : Nat → Rat} : ∀ n, (∀ i, i < n → IsI C (f i)) → IsI (n * C) (Go.Ab.sm f n)
 | 0, _ => ⟨0, rfl, by simp⟩
 | n + 1, h => by
  obtain ⟨a, h1, h2⟩ := IsI.sm n fun i hi => h i om
  obtain ⟨b, h3, h4⟩ := h n om
  refine ⟨a + b, by rw [Go.Ab.sm, h1, h3, Rat.intCast_add], ?_⟩
  have := Int.natAbs_add_le a b
  rw [Nat.succ_mul]; omega
open Go.RowKit
def mnF (bs : List BR) (v : Nat → Rat) : Nat → Rat
 | 0 => 0
 | i + 1 => mnF bs v i + nq (bs.getD i default).2 * v (bs.getD i default).1.toNat
def mn (c : CH) (v : Nat → Rat) : Rat := mnF c.2.2 v c.2.2.length
def yl (d : Rat) (c : CH) (v : Nat → Rat) : Rat := nq c.1 + d * mn c v
structure WB (n : Nat) (bs : List BR) : Prop where
 pos : ∀ i, i < bs.length → 0 < nq (bs.getD i default).2
 sum : psum bs bs.length = 1
 to : ∀ i, i < bs.length → (bs.getD i default).1.toNat < n
theorem mnF_sub (bs : List BR) (u v : Nat → Rat) : ∀ i, mnF bs v i - mnF bs u i = mnF bs (fun s => v s - u s) i
 | 0 => by unfold mnF; grind
 | i + 1 => by
  have ih := mnF_sub bs u v i
  unfold mnF
  rw [← ih]; grind
theorem mnF_le {n : Nat} {bs : List BR} (h : WB n bs) {v : Nat → Rat} {M : Rat} (hv : ∀ j, j < n → v j ≤ M) : ∀ i, i ≤ bs.length → mnF bs v i ≤ M * psum bs i
 | 0, _ => by unfold mnF psum; grind
 | i + 1, hi => by
  have ih := mnF_le h hv i om
  have hp := h.pos i om
  have hj := hv _ (h.to i om)
  have h2 : nq (bs.getD i default).2 * v (bs.getD i default).1.toNat ≤ nq (bs.getD i default).2 * M := Rat.mul_le_mul_of_nonneg_left hj (Rat.le_of_lt hp)
  unfold mnF psum
  grind
theorem argmax (f : Nat → Rat) : ∀ n, 0 < n → ∃ m, m < n ∧ ∀ i, i < n → f i ≤ f m
 | 0, h => absurd h om
 | 1, _ => ⟨0, om, fun i hi => (show i = 0 by omega) ▸ Rat.le_refl⟩
 | n + 2, _ => by
  obtain ⟨m, h1, h2⟩ := argmax f (n + 1) om
  by_cases h : f m ≤ f (n + 1)
  ·refine ⟨n + 1, om, fun i hi => ?_⟩
   by_cases e : i = n + 1
   ·rw [e]; exact Rat.le_refl
   ·exact Rat.le_trans (h2 i om) h
  ·refine ⟨m, om, fun i hi => ?_⟩
   by_cases e : i = n + 1
   ·rw [e]; grind
   ·exact h2 i om
theorem comp {n : Nat} {d : Rat} (hd0 : 0 ≤ d) (hd1 : d < 1) {u v : Nat → Rat} (h : ∀ i, i < n → ∃ bs, WB n bs ∧ v i - u i ≤ d * (mnF bs v bs.length - mnF bs u bs.length)) : ∀ i, i < n → v i ≤ u i := by
 intro i hi
 obtain ⟨m, hm, hmax⟩ := argmax (fun s => v s - u s) n om
 obtain ⟨bs, hb, hle⟩ := h m hm
 have h1 := mnF_le hb (v := fun s => v s - u s) hmax bs.length (Nat.le_refl _)
 rw [hb.sum, ← mnF_sub] at h1
 have h2 := hmax i hi
 by_cases hD : v m - u m ≤ 0
 ·grind
 ·exfalso
  have h3 := Rat.mul_le_mul_of_nonneg_left h1 hd0
  have h4 : 0 < (1 - d) * (v m - u m) := Rat.mul_pos (by grind) (by grind)
  grind
structure DM (ss : List ST) (d : Rat) : Prop where
 d0 : 0 < d
 d1 : d < 1
 pos : 1 ≤ ss.length
 cs : ∀ x, x ∈ ss → 1 ≤ x.2.2.length
 wb : ∀ x, x ∈ ss → ∀ c, c ∈ x.2.2 → WB ss.length c.2.2
abbrev ch (ss : List ST) (i k : Nat) : CH := (ss.getD i default).2.2.getD k default
def WV (ss : List ST) (d : Rat) (st : List Int) (v : Nat → Rat) : Prop := ∀ i, i < ss.length → v i = yl d (ch ss i (st.getD i default).toNat) v
section
variable {ss : List ST} {d : Rat} (h : DM ss d)
include h
theorem ch_wb {i k : Nat} (hi : i < ss.length) (hk : k < (ss.getD i default).2.2.length) : WB ss.length (ch ss i k).2.2 := h.wb _ (bO hi) _ (bO hk)
theorem st_wb {st : List Int} (hst : vSt ss st = true) {i : Nat} (hi : i < ss.length) : WB ss.length (ch ss i (st.getD i default).toNat).2.2 := by
 have := vSt_at hst hi
 exact ch_wb h hi om
theorem WV.le {st : List Int} (hst : vSt ss st = true) {u v : Nat → Rat} (hv : WV ss d st v) (hu : ∀ i, i < ss.length → yl d (ch ss i (st.getD i default).toNat) u ≤ u i) : ∀ i, i < ss.length → v i ≤ u i :=
 comp (Rat.le_of_lt h.d0) h.d1 fun i hi => ⟨_, st_wb h hst hi, by
  have h1 := hv i hi
  have h2 := hu i hi
  unfold yl mn at h1 h2
  grind⟩
theorem WV.ge {st : List Int} (hst : vSt ss st = true) {u v : Nat → Rat} (hv : WV ss d st v) (hu : ∀ i, i < ss.length → u i ≤ yl d (ch ss i (st.getD i default).toNat) u) : ∀ i, i < ss.length → u i ≤ v i :=
 comp (Rat.le_of_lt h.d0) h.d1 fun i hi => ⟨_, st_wb h hst hi, by
  have h1 := hv i hi
  have h2 := hu i hi
  unfold yl mn at h1 h2
  grind⟩
end
def Val (ss : List ST) (d : Rat) (v : Nat → Rat) : Prop := ∀ i, i < ss.length → (∃ k, k < (ss.getD i default).2.2.length ∧ v i = yl d (ch ss i k) v) ∧ ∀ k, k < (ss.getD i default).2.2.length → if (ss.getD i default).1.1 = 1 then v i ≤ yl d (ch ss i k) v else yl d (ch ss i k) v ≤ v i
section
variable {ss : List ST} {d : Rat} (h : DM ss d)
include h
end
section
variable {ss : List ST} {d : Rat} (h : DM ss d)
include h
end
end Go.Ab
namespace Go.Ab
open Go.RowKit
theorem sm_upd {f g : Nat → Rat} {t : Nat} : ∀ n, t < n → (∀ i, i < n → i ≠ t → f i = g i) → sm f n = sm g n + (f t - g t)
 | 0, h, _ => absurd h om
 | n + 1, h, he => by
  show sm f n + f n = sm g n + g n + (f t - g t)
  by_cases e : t = n
  ·subst e
   rw [dB t fun i hi => he i om om]; grind
  ·rw [sm_upd n om fun i hi hne => he i om hne, he n om (Ne.symm e)]; grind
theorem kO {a : List Rat} {t : Nat} {x : Rat} (ht : t < a.length) (v : List Rat) : dotR (a.set t x) v = dotR a v + (x - a.getD t default) * v.getD t default := by
 rw [qX, qX, List.length_set, sm_upd (t := t) a.length ht fun i hi hne => by rw [cJ hi, if_neg (Ne.symm hne)]]
 rw [cJ ht, if_pos rfl]; grind
theorem pN (n : Nat) (v : List Rat) : dotR (List.replicate n 0) v = 0 := by
 rw [qX]
 refine (dB _ fun i hi => ?_).trans (lB _)
 rw [List.length_replicate] at hi
 rw [List.getD_eq_getElem?_getD, List.getElem?_replicate, if_pos hi]
 exact Rat.zero_mul _
open Go.RowKit
structure VB (n : Nat) (bs : List BR) : Prop where
 len : 1 ≤ bs.length ∧ bs.length ≤ 8
 to : ∀ i, i < bs.length → 0 ≤ (bs.getD i default).1 ∧ (bs.getD i default).1 < n
 inc : ∀ i j, i < j → j < bs.length → (bs.getD i default).1 < (bs.getD j default).1
 vn : ∀ i, i < bs.length → VN (bs.getD i default).2
 pos : ∀ i, i < bs.length → 0 < (bs.getD i default).2.1
 sum : psum bs bs.length = 1
theorem nq_pos {a : NM} (h : VN a) (h0 : 0 < a.1) : 0 < nq a := by
 have h2 : 0 < a.2 := by have := h.1; omega
 unfold nq
 rw [Rat.divInt_eq_div]
 have e1 : (0 : Rat) < (a.1 : Rat) := by exact_mod_cast h0
 have e2 : (0 : Rat) < (a.2 : Rat) := by exact_mod_cast h2
 generalize (a.1 : Rat) = p at *
 generalize (a.2 : Rat) = q at *
 apply Classical.byContradiction
 intro hn
 have h3 : 0 ≤ -(p / q) * q := Rat.mul_nonneg (by grind) (Rat.le_of_lt e2)
 have h4 : p / q * q = p := by grind
 grind
theorem VB.wb {n : Nat} {bs : List BR} (h : VB n bs) : WB n bs := ⟨fun i hi => nq_pos (h.vn i hi) (h.pos i hi), h.sum, fun i hi => by have := h.to i hi; omega⟩
def fn_ (v : List Rat) : Nat → Rat := fun s => v.getD s default
def RowOk (n : Nat) (d : Rat) (bs : List BR) (i : Nat) (row : List Rat) : Prop := row.length = n ∧ ∀ v : List Rat, dotR row v = v.getD i default - d * mnF bs (fn_ v) bs.length
def RowP (n : Nat) (d : Rat) (bs : List BR) (j : Nat) (row : List Rat) : Prop := row.length = n ∧ (∀ v : List Rat, dotR row v = -(d * mnF bs (fn_ v) j)) ∧ (∀ t, t < n → (∀ i, i < j → (bs.getD i default).1 ≠ t) → row.getD t default = 0) ∧ ∀ x, x ∈ row → Bd 4 x
theorem RowP.init (n : Nat) (d : Rat) (bs : List BR) : RowP n d bs 0 (List.replicate n 0) := by
 refine ⟨by simp, fun v => by rw [pN]; unfold mnF; grind, fun t ht _ => by rw [List.getD_eq_getElem?_getD, List.getElem?_replicate, if_pos ht]; rfl, fun x hx => by rw [(List.mem_replicate.1 hx).2]; exact Bd0 (by decide)⟩
theorem RowP.step {n : Nat} {d : Rat} {bs : List BR} {j : Nat} {row : List Rat} (h : RowP n d bs j row) (hb : VB n bs) (hj : j < bs.length) (hd : Bd 2 d) : RowP n d bs (j + 1) (row.set (bs.getD j default).1.toNat (-(d * nq (bs.getD j default).2))) := by
 obtain ⟨h1, h2, h3, h4⟩ := h
 have ht := hb.to j hj
 have hz := h3 (bs.getD j default).1.toNat om fun i hi => by have := hb.inc i j hi hj; omega
 refine ⟨by rw [List.length_set]; exact h1, fun v => ?_, fun t htn hne => ?_, fun x hx => ?_⟩
 ·rw [kO om, h2, hz]
  show _ = -(d * (mnF bs (fn_ v) j + nq (bs.getD j default).2 * v.getD (bs.getD j default).1.toNat default))
  grind
 ·rw [cJ om, if_neg (fun e => hne j om om)]
  exact h3 t htn fun i hi => hne i om
 ·rcases List.mem_or_eq_of_mem_set hx with h | h
  ·exact h4 x h
  ·rw [h]; exact (hd.mul (hb.vn j hj).bd).neg
theorem RowP.done {n : Nat} {d : Rat} {bs : List BR} {i : Nat} {row : List Rat} (h : RowP n d bs bs.length row) (hi : i < n) : RowOk n d bs i (row.set i (row.getD i default + 1)) ∧ ∀ x, x ∈ row.set i (row.getD i default + 1) → Bd 8 x := by
 obtain ⟨h1, h2, h3, h4⟩ := h
 refine ⟨⟨by rw [List.length_set]; exact h1, fun v => ?_⟩, fun x hx => ?_⟩
 ·rw [kO om, h2]; grind
 ·rcases List.mem_or_eq_of_mem_set hx with h | h
  ·exact (h4 x h).mono (by decide)
  ·rw [h]; exact ((kY (b := 4) (by decide) h4 i).add Bd1).mono (by decide)
def RowR (n : Nat) (d : Rat) (bs : List BR) (a j : Nat) (row : List Rat) : Prop := row.length = n ∧ (∀ v : List Rat, dotR row v = v.getD a default - d * mnF bs (fn_ v) j) ∧ (∀ t, t < n → (∀ i, i < j → (bs.getD i default).1 ≠ t) → Bd 1 (row.getD t default)) ∧ ∀ x, x ∈ row → Bd 8 x
theorem RowR.init {n : Nat} (d : Rat) (bs : List BR) {a : Nat} (ha : a < n) : RowR n d bs a 0 ((List.replicate n 0).set a 1) := by
 have hb : ∀ x, x ∈ (List.replicate n (0 : Rat)).set a 1 → Bd 1 x := fun x hx => by
  rcases List.mem_or_eq_of_mem_set hx with h | h
  ·rw [(List.mem_replicate.1 h).2]; exact Bd0 (by decide)
  ·rw [h]; exact Bd1
 refine ⟨by simp, fun v => ?_, fun t ht _ => kY (by decide) hb t, fun x hx => (hb x hx).mono (by decide)⟩
 rw [kO (by simpa using ha), pN, List.getD_eq_getElem?_getD (l := List.replicate n 0), List.getElem?_replicate, if_pos ha]
 unfold mnF
 show 0 + (1 - (0 : Rat)) * _ = _
 grind
theorem RowR.step {n : Nat} {d : Rat} {bs : List BR} {a j : Nat} {row : List Rat} (h : RowR n d bs a j row) (hb : VB n bs) (hj : j < bs.length) (hd : Bd 2 d) : RowR n d bs a (j + 1) (row.set (bs.getD j default).1.toNat (row.getD (bs.getD j default).1.toNat default - d * nq (bs.getD j default).2)) := by
 obtain ⟨h1, h2, h3, h4⟩ := h
 have ht := hb.to j hj
 have hz := h3 (bs.getD j default).1.toNat om fun i hi => by have := hb.inc i j hi hj; omega
 refine ⟨by rw [List.length_set]; exact h1, fun v => ?_, fun t htn hne => ?_, fun x hx => ?_⟩
 ·rw [kO om, h2]
  show _ = v.getD a default - d * (mnF bs (fn_ v) j + nq (bs.getD j default).2 * v.getD (bs.getD j default).1.toNat default)
  grind
 ·rw [cJ om, if_neg (fun e => hne j om om)]
  exact h3 t htn fun i hi => hne i om
 ·rcases List.mem_or_eq_of_mem_set hx with h | h
  ·exact h4 x h
  ·rw [h, Rat.sub_eq_add_neg]; exact (hz.add (hd.mul (hb.vn j hj).bd).neg).mono (by decide)
open Go.RowKit
section
variable {P : Program} {T : TT} {E : TypeId → Bool} {N : Nat} {oa : Array Oper} {i b : Nat} {e : Env} {h : Hp} {Q : Env → Hp → Nat → Prop}
theorem Fz.weakH {K : Env → Hp → Prop} (a : Hp) (hs : Hp.le a h) (k : Fz N e a K) : Fz N e h K := fun s m hf hm => k s m hf fun t l hg => hm t l (hs t l hg)
end
def rq (q n x : Nat) : Nat := if x = q then 0 else rn n x + 1
theorem rq_self (q n : Nat) : rq q n q = 0 := if_pos rfl
theorem rq_lt {q n x : Nat} (h : x < n) (h2 : x ≠ q) : rq q n x = 1 := by unfold rq; rw [if_neg h2, rn_lt h]
theorem rq_add {q n : Nat} (h : q < n) (k : Nat) : rq q n (n + k) = k + 2 := by unfold rq; rw [if_neg om, oS]
end Go.Ab
namespace Go.Ab
end Go.Ab
namespace Go.Ab
open Go.RowKit
theorem WN.B {P : Program} {T : TT} {E : TypeId → Bool} {N : Nat} {oa : Array Oper} {i b n : Nat} {e : Env} {h : Hp} {Q : Env → Hp → Nat → Prop} {l : List Oper} {dst : Tmp} {p : Bool} (h1 : p = true → WN P T E N oa l i b ((dst, .v (.bool true)) :: e) h n Q) (h2 : p = false → WN P T E N oa l i b ((dst, .v (.bool false)) :: e) h n Q) : WN P T E N oa l i b ((dst, .v (.bool p)) :: e) h n Q := by
 cases p
 ·exact h2 rfl
 ·exact h1 rfl
end Go.Ab
namespace Go.Ab
open Go.RowKit
def fewN (m : Nat) (ss : List ST) : Bool := !(decide (m < ss.length) && decide (ss.length ≤ 40)) && fewM ss
end Go.Ab
namespace Go.Ab
open Go.RowKit
end Go.Ab
namespace Go.Ab
open Go.RowKit
open Go.RowKit
def CO (D C : Nat) (x : Rat) : Prop := ∃ a : Int, x * (D : Rat) = (a : Rat) ∧ a.natAbs * 16 ≤ C
theorem CO.mean {D C t : Nat} {d : Rat} {bs : List BR} {v : Nat → Rat} (hc : ∀ b, b ∈ bs → CO D C (d * nq b.2)) (hv : ∀ j, QB D C 8 t (v j)) : ∀ i, i ≤ bs.length → ∃ z : Int, (d * mnF bs v i) * (D : Rat) ^ (t + 1) = (z : Rat) ∧ z.natAbs * 16 ≤ i * C ^ (t + 1)
 | 0, _ => ⟨0, by unfold mnF; rw [Rat.mul_zero, Rat.zero_mul]; rfl, by simp⟩
 | i + 1, hi => by
  obtain ⟨z, h1, h2⟩ := CO.mean hc hv i om
  obtain ⟨a, h3, h4⟩ := hc _ (bO (us := bs) (i := i) om)
  obtain ⟨q, h5, h6⟩ := hv (bs.getD i default).1.toNat
  refine ⟨z + a * q, ?_, ?_⟩
  ·have e : (d * mnF bs v (i + 1)) * (D : Rat) ^ (t + 1) = (d * mnF bs v i) * (D : Rat) ^ (t + 1) + (d * nq (bs.getD i default).2 * (D : Rat)) * (v (bs.getD i default).1.toNat * (D : Rat) ^ t) := by
    rw [show mnF bs v (i + 1) = mnF bs v i + nq (bs.getD i default).2 * v (bs.getD i default).1.toNat from rfl, Rat.pow_succ]
    generalize (D : Rat) ^ t = p
    grind
   rw [e, h1, h3, h5, Rat.intCast_add, Rat.intCast_mul]
  ·have h7 := Int.natAbs_add_le z (a * q)
   rw [Int.natAbs_mul] at h7
   have h8 : (a.natAbs * 16) * q.natAbs ≤ C * C ^ t := Nat.mul_le_mul h4 om
   rw [← Nat.pow_succ'] at h8
   replace h8 : _ ≤ C ^ (t + 1) := h8
   have h9 : (a.natAbs * 16) * q.natAbs = a.natAbs * q.natAbs * 16 := by rw [Nat.mul_right_comm]
   rw [h9] at h8
   rw [Nat.succ_mul]
   omega
theorem CO.step {D C t : Nat} {d : Rat} {c : CH} {v : Nat → Rat} (hr : CO D C (nq c.1)) (hc : ∀ b, b ∈ c.2.2 → CO D C (d * nq b.2)) (hv : ∀ j, QB D C 8 t (v j)) (hl : c.2.2.length ≤ 8) (hDC : D ≤ C) : QB D C 8 (t + 1) (yl d c v) := by
 obtain ⟨z, h1, h2⟩ := CO.mean hc hv c.2.2.length (Nat.le_refl _)
 obtain ⟨a, h3, h4⟩ := hr
 refine ⟨z + a * ((D ^ t : Nat) : Int), ?_, ?_⟩
 ·have e : yl d c v * (D : Rat) ^ (t + 1) = (d * mnF c.2.2 v c.2.2.length) * (D : Rat) ^ (t + 1) + (nq c.1 * (D : Rat)) * (D : Rat) ^ t := by
   unfold yl mn
   rw [Rat.pow_succ]
   generalize (D : Rat) ^ t = p
   grind
  rw [e, h1, h3, Rat.intCast_add, Rat.intCast_mul, Rat.intCast_natCast, Rat.natCast_pow]
 ·have h7 := Int.natAbs_add_le z (a * ((D ^ t : Nat) : Int))
  rw [Int.natAbs_mul, Int.natAbs_natCast] at h7
  have h8 : (a.natAbs * 16) * D ^ t ≤ C * C ^ t := Nat.mul_le_mul h4 (Nat.pow_le_pow_left hDC t)
  rw [← Nat.pow_succ'] at h8
  replace h8 : _ ≤ C ^ (t + 1) := h8
  have h9 : (a.natAbs * 16) * D ^ t = a.natAbs * D ^ t * 16 := by rw [Nat.mul_right_comm]
  rw [h9] at h8
  have h10 : c.2.2.length * C ^ (t + 1) ≤ 8 * C ^ (t + 1) := Nat.mul_le_mul_right _ hl
  omega
theorem CO.base {W : List Rat} (h : ∀ x, x ∈ W → Bd 4 x) (hl : W.length ≤ 2880) : ∃ D C e : Nat, e = 11525 ∧ 0 < D ∧ D ≤ C ∧ D ≤ 4294967296 ^ e ∧ C ≤ 4294967296 ^ e ∧ ∀ x, x ∈ W → CO D C x := by
 obtain ⟨a, ha⟩ : ∃ a : Nat, a = 11520 := ⟨_, rfl⟩
 have hD : dd W ≤ 4294967296 ^ a := by
  refine Nat.le_trans (dd_le (b := 4294967296 ^ 4) fun x hx => Nat.le_of_lt (h x hx).abs.2) ?_
  rw [← Nat.pow_mul]
  exact Nat.pow_le_pow_right (by decide) om
 refine ⟨dd W, 16 * (4294967296 ^ 4 * dd W), a + 5, om, qU _, ?_, Nat.le_trans hD (Nat.pow_le_pow_right (by decide) om), ?_, fun x hx => ?_⟩
 ·have := qU W
  have h2 : dd W ≤ 4294967296 ^ 4 * dd W := Nat.le_mul_of_pos_left _ (by decide)
  omega
 ·rw [Nat.add_comm, Nat.pow_add, show (4294967296 : Nat) ^ 5 = 4294967296 * 4294967296 ^ 4 by decide +kernel, Nat.mul_assoc]
  exact Nat.mul_le_mul (by decide) (Nat.mul_le_mul_left _ hD)
 ·obtain ⟨q, hq⟩ := dd_dvd hx
  have hb := (h x hx).abs.1
  have hdq : q ≤ dd W := by
   have := x.den_pos
   rw [hq]; exact Nat.le_mul_of_pos_left q this
  have hxd : x * (x.den : Rat) = (x.num : Rat) := by
   have h1 : x = (x.num : Rat) / ((x.den : Int) : Rat) := by rw [← Rat.divInt_eq_div, Rat.num_divInt_den]
   have h2 : ((x.den : Int) : Rat) ≠ 0 := by
    intro h0
    have : (x.den : Int) = 0 := by exact_mod_cast h0
    have := x.den_pos
    omega
   rw [← Rat.intCast_natCast]
   conv => lhs; lhs; rw [h1]
   exact Rat.div_mul_cancel h2
  refine ⟨x.num * (q : Int), ?_, ?_⟩
  ·rw [hq, Rat.natCast_mul, ← Rat.mul_assoc, hxd, Rat.intCast_mul, Rat.intCast_natCast]
  ·rw [Int.natAbs_mul, Int.natAbs_natCast, Nat.mul_comm _ 16]
   exact Nat.mul_le_mul_left 16 (Nat.mul_le_mul (Nat.le_of_lt hb) hdq)
end Go.Ab
namespace Go.Ab
end Go.Ab
namespace Go.Ab
theorem fewN_len {m : Nat} {ss : List ST} (h : fewN m ss = true) : ss.length ≤ 45 ∧ ∀ x, x ∈ ss → x.2.2.length ≤ 10 ∧ ∀ c, c ∈ x.2.2 → c.2.2.length ≤ 10 := by
 unfold fewN fewM at h
 rw [Bool.and_eq_true, Bool.and_eq_true] at h
 refine ⟨of_decide_eq_true h.2.1, fun x hx => ?_⟩
 have h1 := List.all_eq_true.1 h.2.2 x hx
 unfold fewS at h1
 rw [Bool.and_eq_true] at h1
 exact ⟨of_decide_eq_true h1.1, fun c hc => of_decide_eq_true (List.all_eq_true.1 h1.2 c hc)⟩
end Go.Ab
namespace Go.Ab
open Go.RowKit
open Go.RowKit
section
variable {n : Nat} {r : Int} {f : NM} (hd : 0 < nq f ∧ nq f < 1)
include hd
end
theorem wrap_u8 {b : Int} (h : 0 ≤ b ∧ b ≤ 255) : IntKind.i64.wrap b = b := by
 have h1 : -9223372036854775808 ≤ b ∧ b ≤ 9223372036854775807 := by omega
 unfold IntKind.wrap
 simp [IntKind.bits, IntKind.signed]
 omega
end Go.Ab
namespace Go.Ab
open Go.RowKit
section
variable {P : Program} {T : TT} {E : TypeId → Bool} {N : Nat} {oa : Array Oper} {i b : Nat} {e : Env} {h : Hp} {Q : Env → Hp → Nat → Prop}
def Both (n : Nat) (h h' hh : Hp) : Prop := ∀ q o, getH hh q = some o → (q < n ∧ getH h q = some o) ∨ (n ≤ q ∧ getH h' q = some o)
theorem Both.cons {n : Nat} {h h' hh : Hp} {q : Nat} {o : Ob} (k : (q < n ∧ getH h q = some o) ∨ (n ≤ q ∧ getH h' q = some o)) (hb : Both n h h' hh) : Both n h h' ((q, o) :: hh) := fun r x hr => by
 simp only [getH] at hr
 split at hr
 ·rename_i hq; have := Nat.eq_of_beq_eq_true hq; subst this; cases hr; exact k
 ·exact hb r x hr
theorem Both.old {n : Nat} {h h' : Hp} (hl : ∀ q o, getH h q = some o → q < n) : Both n h h' h := fun q o hq => .inl ⟨hl q o hq, hq⟩
theorem Both.nil {n : Nat} {h h' : Hp} : Both n h h' [] := fun q o hq => by simp [getH] at hq
theorem nQ {cal : Operand} {fn : Func} {f : FuncId} {c : Code} {args : Array Operand} {at_ : Array TypeId} {t : TypeId} {pos : String} {af : Array Edge} {l : List Oper} {dst : Tmp} {first cap ls as_ : List LV} {n : Nat} {Φ : LV → Hp → Nat → Prop} (d : Delta) (hv : evE e cal = some (.fn (.func f) first cap)) (ha : argsE e args.toList = some ls)
  (hs : SnapA h d (first ++ ls ++ cap) as_) (hz : ∀ p, p ∈ d → ∃ o, getH h p.1 = some o ∧ o.st ≠ 2 ∧ p.2 = { o with st := 1 }) (hf : P.funcs[f]? = some fn) (hb : fn.body = some c) (hn : (fn.name == "runtime.NumGoroutine") = false) (hl : as_.length ≤ fn.ntmps) (hd : Nat.blt dst N = true)
  (k : WC P T E fn.ntmps c (argsEnv 0 as_) [] n (fun x e' h' n' => (x = .normal ∨ x = .ret) ∧ ∃ ls', resE e' T h' fn.results.toList = some ls' ∧ Φ (resultLV ls') h' n'))
  (kk : ∀ r h' n', Φ r h' n' → ∃ hh, Both n (appH d h) h' hh ∧ WN P T E N oa l (i + 1) b ((dst, r) :: e) hh n' Q) :
  WN P T E N oa (⟨some dst, .call { callee := .value cal, args := args, argTypes := at_ }, t, pos, af, none⟩ :: l) i b e h n Q := by
 intro hdr s m hs' hm
 obtain ⟨hi, hl'⟩ := eK hdr
 obtain ⟨x, s', h1, e', h', h2, h3, hx, ls', hr, hΦ⟩ := k (frame fn as_) (fun _ => none) ⟨by simp [frame]; omega, fun t l ht => by
  obtain ⟨_, k⟩ := eB as_ 0 t l ht
  simp only [Nat.sub_zero] at k
  unfold frame
  rw [List.getElem?_append_left (List.getElem?_eq_some_iff.1 k).1]; exact k⟩ (fun k o hk => by simp [getH] at hk)
 have hg : Run P T E (.gcall f as_ (fun _ => none) n (resultLV ls') s'.m s'.n) := .gcall f fn c as_ _ n x s' ls' hf hb hn hl h1 hx (eF h2 h3 hr)
 obtain ⟨hh, hbo, hk⟩ := kk _ h' s'.n hΦ
 have hm2 := hm.app d
 obtain ⟨rs, s2, k1, k2⟩ := hk hl' _ (mix n (app d m) s'.m) (hs'.put hd (resultLV ls')) (fun q o hq => by
  rcases hbo q o hq with ⟨q1, q2⟩ | ⟨q1, q2⟩
  ·rw [fT q1]; exact hm2 q o q2
  ·rw [fS om]; exact h3 q o q2)
 refine ⟨⟨i, [], [], true⟩ :: rs, s2, ?_, k2⟩
 rw [List.length_cons, List.range'_succ]
 refine .gdid oa i _ b ⟨s, m, n⟩ s2 rs _ _ cal f first cap (resultLV ls') (mix n (app d m) s'.m) s'.n (by simpa using hi) rfl rfl rfl (cY hs' hv) ?_ k1
 rw [cQ (fun x l hx => cY hs' hx) ha]
 exact .frame f _ as_ m s'.m n s'.n _ d (hs.snap hm) (fun p hp => by obtain ⟨o, k1, k2, k3⟩ := hz p hp; exact ⟨o, hm _ _ k1, k2, k3⟩) hg
end
def famH (a : Nat → Nat) (o : Nat → Option Ob) (h : Hp) : Nat → Hp
 | 0 => h
 | n + 1 => match o n with
  | some x => (a n, x) :: famH a o h n
  | none => famH a o h n
theorem bM {a : Nat → Nat} {o : Nat → Option Ob} {h : Hp} {q : Nat} : ∀ n, (∀ i, i < n → a i ≠ q) → getH (famH a o h n) q = getH h q
 | 0, _ => rfl
 | n + 1, hq => by
  have ih := bM (a := a) (o := o) (h := h) (q := q) n fun i hi => hq i om
  unfold famH
  split
  ·have : Nat.beq (a n) q = false := by
    cases hb : Nat.beq (a n) q with
    | false => rfl
    | true => exact absurd (Nat.eq_of_beq_eq_true hb) (hq n om)
   simp only [getH, this]; exact ih
  ·exact ih
theorem eY {a : Nat → Nat} {o : Nat → Option Ob} {h : Hp} {x : Ob} : ∀ n {i}, i < n → o i = some x → (∀ j, j < n → a j = a i → j = i) → getH (famH a o h n) (a i) = some x
 | 0, i, hi, _, _ => absurd hi om
 | n + 1, i, hi, hx, ha => by
  by_cases e : i = n
  ·subst e
   unfold famH
   rw [hx]
   exact g0
  ·have ih := eY (a := a) (o := o) (h := h) (x := x) n (i := i) om hx fun j hj => ha j om
   unfold famH
   split
   ·exact g1 (fun h => e (ha n om h).symm) ih
   ·exact ih
theorem eG {a : Nat → Nat} {o : Nat → Option Ob} {h H : Hp} : ∀ n, (∀ i, i < n → ∀ x, o i = some x → getH H (a i) = some x) → subsM h H → subsM (famH a o h n) H
 | 0, _, hs => hs
 | n + 1, hg, hs => by
  have ih := eG (a := a) (o := o) (h := h) (H := H) n (fun i hi => hg i om) hs
  unfold famH
  split
  ·rename_i x hx; exact ⟨hg n om x hx, ih⟩
  ·exact ih
end Go.Ab
namespace Go.Ab
open Go.RowKit
section
variable {P : Program} {T : TT} {E : TypeId → Bool} {N : Nat} {e : Env} {h : Hp}
variable {dst : Option Tmp} {ty : TypeId} {pos : String} {af : Array Edge} {g : Option (Nat × Bool)} {id : Nat} {x y : Operand} {bt : TypeId} {ti : TI}
theorem resE_cell {r : Nat} {ob : Ob} {l : LV} {u v : Nat} (he : e.get u = some (.ptr r 0)) (hT : T v = some ti) (hr : getH h r = some ob) (h2 : Nat.beq ob.st 2 = false) (hl : loadLV ti ob.cells = some l) : resE e T h [.cell u v] = some [l] := by
 have h3 := Nat.ne_of_beq_eq_false h2
 simp [resE, he, hT, cellsH, hr, h3, hl]
end
end Go.Ab
namespace Go.Ab
open Go.RowKit
def obN (e : TypeId) (us : List NM) : Ob := { cells := (us.map mc).flatten, sz := 2, elem := e, st := 0 }
def rwC (a : Nat → Nat) (R : List (List NM)) : List (List LV) := tab R.length fun t => [outV (a t) 2 ((R.getD t []).map mc)]
structure OwnM (h : Hp) (e1 e2 : TypeId) (lo hi q : Nat) (a : Nat → Nat) (R : List (List NM)) : Prop where
 ql : lo ≤ q
 qh : q < hi
 at_ : ∀ t, t < R.length → lo ≤ a t ∧ a t < hi ∧ a t ≠ q
 inj : ∀ s t, s < R.length → t < R.length → a s = a t → s = t
 top : R ≠ [] → getH h q = some { cells := (rwC a R).flatten, sz := 1, elem := e1, st := 0 }
 row : ∀ t, t < R.length → R.getD t [] ≠ [] → getH h (a t) = some (obN e2 (R.getD t []))
theorem OwnM.mono {h h' : Hp} {e1 e2 : TypeId} {lo hi lo' hi' q : Nat} {a : Nat → Nat} {R : List (List NM)} (k : OwnM h e1 e2 lo hi q a R) (hl : lo' ≤ lo) (hh : hi ≤ hi') (hg : ∀ r o, lo ≤ r → r < hi → getH h r = some o → getH h' r = some o) : OwnM h' e1 e2 lo' hi' q a R :=
 ⟨by have := k.ql; omega, by have := k.qh; omega, fun t ht => by have := k.at_ t ht; omega, k.inj, fun hr => hg _ _ k.ql k.qh (k.top hr), fun t ht hr => hg _ _ (k.at_ t ht).1 (k.at_ t ht).2.1 (k.row t ht hr)⟩
theorem OwnM.nil {h : Hp} {e1 e2 : TypeId} {lo hi q : Nat} {a : Nat → Nat} (h1 : lo ≤ q) (h2 : q < hi) : OwnM h e1 e2 lo hi q a [] :=
 ⟨h1, h2, fun t ht => absurd ht (by simp), fun s t hs => absurd hs (by simp), fun h => absurd rfl h, fun t ht => absurd ht (by simp)⟩
open Go.RowKit
def kd2 (n : Nat) : Nat := if n = 0 then 2 else 1
section
variable {P : Program} {T : TT} {E : TypeId → Bool} {N : Nat} {oa : Array Oper} {i b d : Nat} {e : Env} {h : Hp}
variable {ty : TypeId} {pos : String} {af : Array Edge} {x y : Operand} {bt xt el el2 el3 : TypeId} {te : TI} {l : List Oper}
theorem oApNil {dst : Option Tmp} {g : Option (Nat × Bool)} {id k : Nat} (hT : dsc T bt = some (.sl el)) (hT2 : dsc T xt = some (.sl el2)) (hE : T el = some te) (hx : evE e x = some (.sl 2 [])) (hy : evE e y = some (.sl k [])) (h0 : 0 < te.size) :
  OP P T E ⟨dst, .call { callee := .builtin .append, args := #[x, y], argTypes := #[bt, xt] }, ty, pos, af, g⟩ id e h (.sl 2 []) [] [] := .mk fun s m hs hm => ⟨by
 have e6 : flat m te.size (.sl k []) = some ([], 0) := jI h0 (by simp)
 have e7 : appendLV T bt xt (.sl 2 []) (.sl k []) m id = some (.sl 2 [], []) := by
  unfold appendLV
  simp only [hT, hT2, hE, e6]
  rfl
 simp only [aop, builtinLV, List.map_cons, List.map_nil, hs x _ hx, hs y _ hy, Array.getD_eq_getD_getElem?]
 exact e7, by simp [rds, hs x _ hx, hs y _ hy, idsOf]⟩
theorem oApSR {dst : Option Tmp} {g : Option (Nat × Bool)} {id q : Nat} {rows : List (List LV)} (hT : dsc T bt = some (.sl el)) (hT2 : dsc T xt = some (.sl el2)) (hE : T el = some te) (hx : evE e x = some (.sl 2 [])) (hy : evE e y = some (.ref q te.size 0 rows.length)) (h0 : 0 < te.size) (hrow : ∀ row, row ∈ rows → row.length = te.size) (hne : 0 < rows.length)
  (hq : getH h q = some { cells := rows.flatten, sz := te.size, elem := el3, st := 0 }) (hb : (2 * (0 + rows.length) + 256) * te.bytes ≤ 2 ^ 48) (hb2 : 0 + rows.length < 2 ^ 62) :
  OP P T E ⟨dst, .call { callee := .builtin .append, args := #[x, y], argTypes := #[bt, xt] }, ty, pos, af, g⟩ id e h (.ref id te.size 0 (0 + rows.length)) [(id, { cells := rows.flatten, sz := te.size, elem := el, st := 0 })] [q] := .mk fun s m hs hm => ⟨by
 have hne' : rows.length ≠ 0 := by omega
 have hl : rows.flatten.length = rows.length * te.size := eW hrow
 have e6 : flat m te.size (.ref q te.size 0 rows.length) = some (rows.flatten, rows.length) := by
  simp only [flat, hm _ _ hq]
  rw [if_pos ⟨h0, by decide, trivial, trivial, by rw [Nat.zero_add, hl]; exact Nat.le_refl _⟩, Nat.zero_mul, List.drop_zero, List.take_of_length_le (by rw [hl]; exact Nat.le_refl _)]
 have e7 : appendLV T bt xt (.sl 2 []) (.ref q te.size 0 rows.length) m id = some (.ref id te.size 0 (0 + rows.length), [(id, { cells := rows.flatten, sz := te.size, elem := el, st := 0 })]) := by
  unfold appendLV
  simp only [hT, hT2, hE, e6]
  rw [if_neg hne', if_pos ⟨.inr trivial, rfl, hb, hb2⟩]
  rfl
 simp only [aop, builtinLV, List.map_cons, List.map_nil, hs x _ hx, hs y _ hy, Array.getD_eq_getD_getElem?]
 exact e7, by simp [rds, hs x _ hx, hs y _ hy, idsOf]⟩
theorem WO.apC {q : Nat} {rows : List (List LV)} {Q : Env → Hp → Prop} (hT : dsc T bt = some (.sl el)) (hT2 : dsc T xt = some (.sl el2)) (hE : T el = some te) (hx : evE e x = some (.sl 2 [])) (hy : evE e y = some (outV q te.size rows)) (h0 : 0 < te.size) (hrow : ∀ row, row ∈ rows → row.length = te.size)
  (hg : rows ≠ [] → getH h q = some { cells := rows.flatten, sz := te.size, elem := el3, st := 0 }) (hb : (2 * (0 + rows.length) + 256) * te.bytes ≤ 2 ^ 48) (hb2 : 0 + rows.length < 2 ^ 62) (hd : Nat.blt d N = true)
  (kk : WO P T E N oa l (i + 1) b ((d, outK 2 (b + i) te.size rows) :: e) (outH (b + i) te.size el rows h) Q) :
  WO P T E N oa (⟨some d, .call { callee := .builtin .append, args := #[x, y], argTypes := #[bt, xt] }, ty, pos, af, none⟩ :: l) i b e h Q := by
 cases rows with
 | nil => exact aA (oApNil hT hT2 hE hx hy h0) hd kk
 | cons u us => exact bB (oApSR hT hT2 hE hx hy h0 hrow (by simp) (hg (by simp)) hb hb2) hd (by rw [Nat.zero_add]; exact kk)
theorem WO.apD {k : Nat} {rows : List (List LV)} {Q : Env → Hp → Prop} (hT : dsc T bt = some (.sl el)) (hT2 : dsc T xt = some (.sl el2)) (hE : T el = some te) (hx : evE e x = some (.sl 2 [])) (hy : evE e y = some (.sl k rows)) (h0 : 0 < te.size) (hrow : ∀ row, row ∈ rows → row.length = te.size)
  (hb : (2 * (0 + rows.length) + 256) * te.bytes ≤ 2 ^ 48) (hb2 : 0 + rows.length < 2 ^ 62) (hd : Nat.blt d N = true)
  (kk : WO P T E N oa l (i + 1) b ((d, outK 2 (b + i) te.size rows) :: e) (outH (b + i) te.size el rows h) Q) :
  WO P T E N oa (⟨some d, .call { callee := .builtin .append, args := #[x, y], argTypes := #[bt, xt] }, ty, pos, af, none⟩ :: l) i b e h Q := by
 cases rows with
 | nil => exact aA (oApNil hT hT2 hE hx hy h0) hd kk
 | cons u us => exact bB (oApS (xs := []) hT hT2 hE hx hy h0 (by simp) hrow (by simp) (by simpa using hb) (by simpa using hb2)) hd (by rw [List.length_nil, Nat.zero_add]; exact kk)
theorem Fz.env2 {K : Env → Hp → Prop} {q sz t : Nat} {us : List (List LV)} (a : Env) (hs : subs a e) (ht : e.get t = some (outK 2 q sz us)) (hq : us ≠ [] → ∀ r o, getH h r = some o → r ≠ q) (h0 : 0 < sz) (hl : ∀ row, row ∈ us → row.length = sz) (hd : ∀ row, row ∈ us → ∀ c, c ∈ row → Data c)
  (k : K ((t, .sl (kd2 us.length) us) :: a) h) : Fz N e (outH q sz el us h) K := by
 cases us with
 | nil => exact Fz.same ((t, .sl 2 []) :: a) h ⟨ht, hs⟩ (fun _ _ h => h) k
 | cons u us => exact Fz.env (t := t) (us := u :: us) a hs ht hq h0 hl hd k
theorem Fz.copyC {K : Env → Hp → Prop} {q sz C z : Nat} {us : List (List LV)} {A : List LV} {H : Hp} (a : Env) (hs : subs a e) (hqC : q ≠ C) (h0 : 0 < sz) (hl : ∀ row, row ∈ us → row.length = sz) (hd : ∀ row, row ∈ us → ∀ c, c ∈ row → Data c) (hH : getH H q = none)
  (k : K a ((C, { cells := A ++ [.sl (kd2 us.length) us], sz := z, elem := el2, st := 0 }) :: H)) : Fz N e (outH q sz el us ((C, { cells := A ++ [outK 2 q sz us], sz := z, elem := el2, st := 0 }) :: H)) K := by
 cases us with
 | nil => exact Fz.same a _ hs (fun _ _ h => h) k
 | cons u us => exact Fz.cellR (us := u :: us) a hs hqC h0 hl hd hH k
end
end Go.Ab
namespace Go.Ab
open Go.RowKit
def cpC (c : CH) : CH := (c.1, (kd2 c.2.2.length, c.2.2))
def cpS (x : ST) : ST := (x.1, (kd x.2.2.length, x.2.2.map cpC))
def cpM (ss : List ST) : List ST := ss.map cpS
section
variable {P : Program} {T : TT} {E : TypeId → Bool} {N : Nat} {oa : Array Oper} {i b : Nat} {e : Env} {h : Hp}
theorem postOutA {rs : List ResultVar} {n : Nat} {z : Ex} {q sz : Nat} {el : TypeId} {us : List (List LV)} (hz : z = .normal ∨ z = .ret) (hr : resE e T h rs = some [.agg [outV q sz us]]) (hg : us ≠ [] → getH h q = some { cells := us.flatten, sz := sz, elem := el, st := 0 }) (h0 : 0 < sz) (hl : ∀ row, row ∈ us → row.length = sz) (hd : ∀ row, row ∈ us → ∀ c, c ∈ row → Data c) :
  Post T rs (.agg [outR us]) z e h n := by
 cases us with
 | nil => exact post hz hr rfl (.agg _ (by intro c hc; rw [List.mem_singleton] at hc; subst hc; exact .sl _ _ (by simp)))
 | cons u us => exact postRefA (u :: us) hz hr rfl (hg (by simp)) (by show (0 : Nat) ≠ 2; decide) rfl h0 rfl hl hd
theorem mkcallOu {f : FuncId} {fn : Func} {c : Code} {args : List LV} {y : LV} {sz len : Nat} {ob : Ob} (hf : P.funcs[f]? = some fn) (hb : fn.body = some c) (hn : (fn.name == "runtime.NumGoroutine") = false) (hl : args.length ≤ fn.ntmps) (hy : Data y) (hst : ob.st = 0) (hsz : ob.sz = sz) (hd : ∀ c, c ∈ ob.cells → Data c)
  (k : WC P T E fn.ntmps c (argsEnv 0 args) [] 0 (fun x e h n => (x = .normal ∨ x = .ret) ∧ ∃ q, resE e T h fn.results.toList = some [y, .ref q sz 0 len] ∧ getH h q = some ob)) : Run P T E (.callO f args (.tup [y, .ref 0 sz 0 len]) ob) := by
 obtain ⟨x, s', h1, e', h', h2, hm, hx, q, hr, hq⟩ := k (frame fn args) (fun _ => none) ⟨by simp [frame]; omega, fun t l ht => by
  obtain ⟨_, k⟩ := eB args 0 t l ht
  simp only [Nat.sub_zero] at k
  unfold frame
  rw [List.getElem?_append_left (List.getElem?_eq_some_iff.1 k).1]; exact k⟩ (by intro k o hk; simp [getH] at hk)
 have hg : Run P T E (.gcall f args (fun _ => none) 0 (resultLV [y, .ref q sz 0 len]) s'.m s'.n) := .gcall f fn c args _ 0 x s' _ hf hb hn hl h1 hx (eF h2 hm hr)
 have hs : ∀ {cs : List LV}, (∀ c, c ∈ cs → Data c) → SnapL s'.m [] cs cs := fun hc => ⟨rfl, fun i l l' h1 h2 => by rw [h1] at h2; cases h2; exact .data _ (hc _ (List.mem_of_getElem? h1))⟩
 have := Run.callOu f args q sz len ob ob.cells [] [] y y s'.m s'.n [] hg (hm _ _ hq) hst hsz (by simp [keys]) (hs hd) (fun i c e hc he => by rw [hc] at he; cases he; rfl) (hs (by intro c hc; rw [List.mem_singleton] at hc; subst hc; exact hy)) (by intro p hp; simp at hp)
 exact this
theorem oCallOu {dst : Option Tmp} {ty : TypeId} {pos : String} {af : Array Edge} {g : Option (Nat × Bool)} {id : Nat} {f : FuncId} {args : Array Operand} {at_ : Array TypeId} {ls : List LV} {y : LV} {sz len : Nat} {ob : Ob} (ha : argsE e args.toList = some ls) (hr : Run P T E (.callO f ls (.tup [y, .ref 0 sz 0 len]) ob)) (hy : Data y) (hd : AllData ls) :
  OP P T E ⟨dst, .call { callee := .value (.func f), args := args, argTypes := at_ }, ty, pos, af, g⟩ id e h (.tup [y, .ref id sz 0 len]) [(id, ob)] [] := fun s m hs hm => by
 rw [← oP hy]
 exact .ocall (P := P) (T := T) (E := E) _ _ _ _ _ _ [] _ (.func f) f [] [] ls rfl rfl rfl (by
  rw [cQ hs ha]
  simp only [List.nil_append, List.append_nil]
  exact ⟨rfl, fun i l l' hl hl' => by rw [hl] at hl'; cases hl'; exact .data _ (hd.get l (List.mem_of_getElem? hl))⟩) (by intro p hp; simp at hp) hr
end
def obI (e : TypeId) (us : List Int) : Ob := { cells := (us.map ic).flatten, sz := 1, elem := e, st := 0 }
structure OwnII (h : Hp) (e : TypeId) (lo hi q1 q2 : Nat) (L1 L2 : List Int) : Prop where
 b1 : lo ≤ q1 ∧ q1 < hi
 b2 : lo ≤ q2 ∧ q2 < hi
 ne : q1 ≠ q2
 o1 : L1 ≠ [] → getH h q1 = some (obI e L1)
 o2 : L2 ≠ [] → getH h q2 = some (obI e L2)
abbrev Post2 (T : TT) (e : TypeId) (n0 : Nat) (rs : List ResultVar) (L1 L2 : List Int) (tl : List LV) : Ex → Env → Hp → Nat → Prop := fun x e' h' n' => (x = .normal ∨ x = .ret) ∧ n0 ≤ n' ∧ ∃ q1 q2, resE e' T h' rs = some ([outV q1 1 (L1.map ic), outV q2 1 (L2.map ic)] ++ tl) ∧ OwnII h' e n0 n' q1 q2 L1 L2
theorem WL_cp {ss : List ST} : (cpM ss).length = ss.length := by unfold cpM; rw [List.length_map]
theorem cpM_get {ss : List ST} {i : Nat} (hi : i < ss.length) : (cpM ss).getD i default = cpS (ss.getD i default) := mapD (f := cpS) hi
theorem eqOk_nest {P : Program} {t : TypeId} {k1 k2 k3 : IntKind} {f1 f2 g1 g2 : Field} {i : TypeInfo} (hg : P.eqGuardType P.depth t = false) (ht : P.underlying t = some (.struct #[f1, f2])) (hs : P.stoodInHeld t = false) (hn1 : f1.name ≠ "_") (hn2 : f2.name ≠ "_") (he1 : P.underlying f1.type = some (.int k1)) (hp1 : P.plainKey f1.type = true)
  (ht2 : P.underlying f2.type = some (.struct #[g1, g2])) (hs2 : P.stoodInHeld f2.type = false) (hm1 : g1.name ≠ "_") (hm2 : g2.name ≠ "_") (he2 : P.underlying g1.type = some (.int k2)) (he3 : P.underlying g2.type = some (.int k3)) (hq1 : P.plainKey g1.type = true) (hq2 : P.plainKey g2.type = true)
  (hi : P.info? f2.type = some i) (hc2 : P.cellsOf f2.type = 2) (ho1 : f1.offset = 0) (ho2 : f2.offset = 1) (go1 : g1.offset = 0) (go2 : g2.offset = 1) (hc : P.cellsOf t = 3) : EqOk P t := by
 refine ⟨hg, fun xs ys w h1 h2 h3 => ?_⟩
 unfold EqKind at h3
 rw [ht] at h3
 have hf : P.fieldsOf t = #[f1, f2] := by simp [Program.fieldsOf, ht]
 have hf2 : P.fieldsOf f2.type = #[g1, g2] := by simp [Program.fieldsOf, ht2]
 obtain ⟨xs⟩ := xs
 obtain ⟨ys⟩ := ys
 rw [hc] at h2
 simp only [List.size_toArray] at h1 h2
 match xs, ys, h1, h2 with
 | [x1, x2, x3], [y1, y2, y3], _, _ =>
  obtain ⟨k, a, b, rfl, rfl⟩ := h3 0 x1 y1 rfl rfl
  obtain ⟨k', a', b', rfl, rfl⟩ := h3 1 x2 y2 rfl rfl
  obtain ⟨k'', a'', b'', rfl, rfl⟩ := h3 2 x3 y3 rfl rfl
  refine ⟨a == b && (a' == b' && a'' == b''), ?_, by simp⟩
  rw [run_equalIn_struct w 9999 t _ _ (by rw [hf]; exact ht) hs, hf]
  have p1 := run_part_plain (P := P) w hp1 (xs := ⟨[.int k a, .int k' a', .int k'' a'']⟩) (off := 0) (v := .int k a) rfl
  have p2 := run_part_plain (P := P) w hp1 (xs := ⟨[.int k b, .int k' b', .int k'' b'']⟩) (off := 0) (v := .int k b) rfl
  have p3 : ∀ c c' c'' : Value, (part f2.type ⟨[c, c', c'']⟩ 1).run P w = .ok (.agg #[c', c'']) w := fun c c' c'' => by
   simp [part, isAgg, run_underlying ht2, run_sizeOf w hi, hc2]
  have q1 : (Op.equalIn 9999 f1.type (.int k a) (.int k b)).run P w = .ok (a == b) w := run_equalIn_int w 9998 _ _ _ _ _ he1
  have q2 : (Op.equalIn 9999 f2.type (.agg #[.int k' a', .int k'' a'']) (.agg #[.int k' b', .int k'' b''])).run P w = .ok (a' == b' && a'' == b'') w := by
   rw [run_equalIn_struct w 9998 f2.type _ _ (by rw [hf2]; exact ht2) hs2, hf2]
   have r1 := run_part_plain (P := P) w hq1 (xs := ⟨[.int k' a', .int k'' a'']⟩) (off := 0) (v := .int k' a') rfl
   have r2 := run_part_plain (P := P) w hq1 (xs := ⟨[.int k' b', .int k'' b'']⟩) (off := 0) (v := .int k' b') rfl
   have r3 := run_part_plain (P := P) w hq2 (xs := ⟨[.int k' a', .int k'' a'']⟩) (off := 1) (v := .int k'' a'') rfl
   have r4 := run_part_plain (P := P) w hq2 (xs := ⟨[.int k' b', .int k'' b'']⟩) (off := 1) (v := .int k'' b'') rfl
   have s1 : (Op.equalIn 9998 g1.type (.int k' a') (.int k' b')).run P w = .ok (a' == b') w := run_equalIn_int w 9997 _ _ _ _ _ he2
   have s2 : (Op.equalIn 9998 g2.type (.int k'' a'') (.int k'' b'')).run P w = .ok (a'' == b'') w := run_equalIn_int w 9997 _ _ _ _ _ he3
   simp only [Op.eqFields, hm1, hm2, go1, go2, ne_eq, not_false_eq_true, if_true, Sem.run_bind, r1, r2, r3, r4, Result.andThen_ok, s1, s2]
   cases (a' == b')
   ·simp
   ·cases hb : (a'' == b'')
    ·simp [r3, r4, s2, s1, hb]
    ·simp [r3, r4, s2, s1, hb]
  simp only [Op.eqFields, hn1, hn2, ho1, ho2, ne_eq, not_false_eq_true, if_true, Sem.run_bind, p1, p2, p3, Result.andThen_ok, q1, q2]
  cases (a == b)
  ·simp
  ·cases hb : (a' == b' && a'' == b'')
   ·simp [p3, q2, q1, hb]
   ·simp [p3, q2, q1, hb]
theorem rn_self (n : Nat) : rn n n = 1 := by unfold rn; rw [if_neg om]; omega
theorem nW {n : Nat} {h h' hh : Hp} {e : TypeId} {lo hi q1 q2 : Nat} {L1 L2 : List Int} (k : OwnII h' e lo hi q1 q2 L1 L2) (hn : n ≤ lo) (hb : Both n h h' hh) : Both n h h' (outH q1 1 e (L1.map ic) (outH q2 1 e (L2.map ic) hh)) := by
 have h2 : Both n h h' (outH q2 1 e (L2.map ic) hh) := by
  cases hl : L2 with
  | nil => exact hb
  | cons u us => exact .cons (.inr ⟨by have := k.b2; omega, by have := k.o2 (by rw [hl]; simp); rw [hl] at this; exact this⟩) hb
 cases hl : L1 with
 | nil => exact h2
 | cons u us => exact .cons (.inr ⟨by have := k.b1; omega, by have := k.o1 (by rw [hl]; simp); rw [hl] at this; exact this⟩) h2
theorem jM {e : TypeId} {lo hi q1 q2 : Nat} {L1 L2 : List Int} {H : Hp} (b1 : lo ≤ q1 ∧ q1 < hi) (b2 : lo ≤ q2 ∧ q2 < hi) (ne : q1 ≠ q2) : OwnII (outH q1 1 e (L1.map ic) (outH q2 1 e (L2.map ic) H)) e lo hi q1 q2 L1 L2 :=
 ⟨b1, b2, ne, fun h => by rw [bI (fun h2 => h (List.map_eq_nil_iff.1 h2))]; exact g0, fun h => aD om (by rw [bI (fun h2 => h (List.map_eq_nil_iff.1 h2))]; exact g0)⟩
end Go.Ab
namespace Go.Ab
open Go.RowKit
theorem fewM_len {ss : List ST} (h : fewM ss = true) : ss.length ≤ 45 ∧ ∀ x, x ∈ ss → x.2.2.length ≤ 10 ∧ ∀ c, c ∈ x.2.2 → c.2.2.length ≤ 10 := fewN_len (m := 45) (by
 unfold fewN; rw [h]
 by_cases h1 : 45 < ss.length
 ·rw [decide_eq_true h1, decide_eq_false (show ¬ ss.length ≤ 40 by omega)]; rfl
 ·rw [decide_eq_false h1]; rfl)
theorem fewG_len2 {gs : List (Nat × List Int)} {ss : List ST} (h : fewG gs ss = true) : ss.length ≤ 1000 ∧ ∀ x, x ∈ ss → x.2.2.length ≤ 1000 ∧ ∀ c, c ∈ x.2.2 → c.2.2.length ≤ 1000 := by
 unfold fewG at h
 rw [Bool.and_eq_true] at h
 obtain ⟨h1, h2⟩ := fewM_len h.2
 exact ⟨om, fun x hx => ⟨by have := (h2 x hx).1; omega, fun c hc => by have := (h2 x hx).2 c hc; omega⟩⟩
def Sml (l : List Int) : Prop := l.length ≤ 1000 ∧ ∀ a, a ∈ l → -1 ≤ a ∧ a ≤ 1000
theorem Sml.nil : Sml [] := ⟨by simp, by simp⟩
theorem fidx_b {α : Type} {p : α → Bool} {us : List α} (h : us.length ≤ 1000) : -1 ≤ fidx p us ∧ fidx p us ≤ 1000 := by
 unfold fidx
 split
 ·have := List.findIdx_le_length (p := p) (xs := us); omega
 ·omega
theorem pk_b {x : ST} {p : Int} {q : CH → Bool} (h : x.2.2.length ≤ 1000) : -1 ≤ pk x p q ∧ pk x p q ≤ 1000 := by
 unfold pk
 split
 ·exact fidx_b h
 ·split <;> omega
theorem gc_b {ss : List ST} {p : Int} {ins goal : Nat → Bool} (h : ∀ x, x ∈ ss → x.2.2.length ≤ 1000) : ∀ k s, -1 ≤ gc ss p ins goal k s ∧ gc ss p ins goal k s ≤ 1000
 | 0, s => ⟨by show (-1 : Int) ≤ 0; omega, by show (0 : Int) ≤ 1000; omega⟩
 | k + 1, s => by
  have ih := gc_b (p := p) (ins := ins) (goal := goal) h k s
  show -1 ≤ newc ss p ins (gx ss p ins goal k) (gc ss p ins goal k) s ∧ newc ss p ins (gx ss p ins goal k) (gc ss p ins goal k) s ≤ 1000
  unfold newc
  split
  ·rename_i hc
   simp only [Bool.and_eq_true, decide_eq_true_eq] at hc
   exact pk_b (h _ (bO hc.1.1.1.2))
  ·exact ih
theorem tab_sml {n : Nat} {f : Nat → Int} (hn : n ≤ 40) (h : ∀ s, s < n → -1 ≤ f s ∧ f s ≤ 1000) : Sml (tab n f) := ⟨by rw [bX]; omega, fun a ha => by obtain ⟨s, hs, rfl⟩ := rW.1 ha; exact h s hs⟩
theorem sC_b {ss : List ST} {p : Int} {g : Nat → Bool} (h : ∀ x, x ∈ ss → x.2.2.length ≤ 1000) {s : Nat} (hs : s < ss.length) : -1 ≤ sC ss p g s ∧ sC ss p g s ≤ 1000 := by
 unfold sC
 split
 ·exact fidx_b (h _ (bO hs))
 ·omega
theorem fl_sml {n : Nat} {f : Nat → Bool} (hn : n ≤ 40) : Sml (fl n f) := ⟨by have := iJ n f; omega, fun a ha => by
 obtain ⟨i, hi, rfl⟩ := List.getElem_of_mem ha
 have := fl_lt2 (n := n) (f := f) (i := i) hi
 rw [List.getD_eq_getElem?_getD, List.getElem?_eq_getElem hi] at this
 have h2 : (some (fl n f)[i]).getD default = (fl n f)[i] := rfl
 rw [h2] at this
 omega⟩
def opI (e : TypeId) (us : List Int) : Option Ob := match us with
 | [] => none
 | u :: us => some (obI e (u :: us))
theorem opI_some {e : TypeId} {us : List Int} {x : Ob} (h : opI e us = some x) : us ≠ [] ∧ x = obI e us := by
 cases us with
 | nil => cases h
 | cons u us => cases h; exact ⟨by simp, rfl⟩
theorem opI_ne {e : TypeId} {us : List Int} (h : us ≠ []) : opI e us = some (obI e us) := by
 cases us with
 | nil => exact absurd rfl h
 | cons u us => rfl
def LX (L : Nat → List Int) (i j t : Nat) : List Int := if t < i then (L t).map (· + 1) else if t = i then ((L t).take j).map (· + 1) ++ (L t).drop j else L t
theorem qN {L : Nat → List Int} {i j t : Nat} : (LX L i j t).length = (L t).length := by
 unfold LX
 split
 ·rw [List.length_map]
 ·split
  ·rw [List.length_append, List.length_map, List.length_take, List.length_drop]; omega
  ·rfl
theorem LX_nil {L : Nat → List Int} {i j t : Nat} : LX L i j t = [] ↔ L t = [] := by
 constructor <;> intro h
 ·exact List.eq_nil_of_length_eq_zero (by rw [← qN (i := i) (j := j), h]; rfl)
 ·exact List.eq_nil_of_length_eq_zero (by rw [qN, h]; rfl)
theorem LX_ne {L : Nat → List Int} {i j j' t : Nat} (h : t ≠ i) : LX L i j t = LX L i j' t := by unfold LX; rw [if_neg h, if_neg h]
theorem LX_zero {L : Nat → List Int} {t : Nat} : LX L 0 0 t = L t := by
 unfold LX
 rw [if_neg om]
 split <;> rfl
theorem LX_self {L : Nat → List Int} {i : Nat} : LX L i 0 i = L i := by unfold LX; rw [if_neg om, if_pos rfl]; rfl
theorem LX_end {L : Nat → List Int} {i t : Nat} : LX L i (L i).length t = LX L (i + 1) 0 t := by
 unfold LX
 by_cases h1 : t < i
 ·rw [if_pos h1, if_pos om]
 ·rw [if_neg h1]
  by_cases h2 : t = i
  ·subst h2
   rw [if_pos rfl, if_pos om, List.take_of_length_le (Nat.le_refl _), List.drop_eq_nil_of_le (Nat.le_refl _), List.append_nil]
  ·rw [if_neg h2, if_neg om]
   by_cases h3 : t = i + 1
   ·rw [if_pos h3]; rfl
   ·rw [if_neg h3]
theorem LX_get {L : Nat → List Int} {i j : Nat} (hj : j < (L i).length) : (LX L i j i).getD j default = (L i).getD j default := by
 unfold LX
 rw [if_neg om, if_pos rfl, List.getD_eq_getElem?_getD, List.getElem?_append_right (by rw [List.length_map, List.length_take]; omega), List.length_map, List.length_take, Nat.min_eq_left om, Nat.sub_self, List.getElem?_drop, Nat.add_zero, ← List.getD_eq_getElem?_getD]
theorem LX_set {L : Nat → List Int} {i j : Nat} (hj : j < (L i).length) : (LX L i j i).set j ((L i).getD j default + 1) = LX L i (j + 1) i := by
 unfold LX
 rw [if_neg om, if_pos rfl, if_neg om, if_pos rfl]
 have hl : ((L i).take j).length = j := by rw [List.length_take]; omega
 rw [List.set_append_right _ _ (by rw [List.length_map, hl]; exact Nat.le_refl _), List.length_map, hl, Nat.sub_self]
 have hd : (L i).drop j = (L i).getD j default :: (L i).drop (j + 1) := by
  rw [List.drop_eq_getElem_cons hj, List.getD_eq_getElem?_getD, List.getElem?_eq_getElem hj]; rfl
 have ht : (L i).take (j + 1) = (L i).take j ++ [(L i).getD j default] := by
  rw [List.take_add_one, List.getElem?_eq_getElem hj, List.getD_eq_getElem?_getD, List.getElem?_eq_getElem hj]; rfl
 rw [hd, ht, List.map_append, List.append_assoc]; rfl
def six {α : Type} (a b c d e f : α) : Nat → α
 | 0 => a
 | 1 => b
 | 2 => c
 | 3 => d
 | 4 => e
 | _ => f
theorem six_all {α : Type} {a b c d e f : α} {Q : α → Prop} (h0 : Q a) (h1 : Q b) (h2 : Q c) (h3 : Q d) (h4 : Q e) (h5 : Q f) : ∀ t, Q (six a b c d e f t)
 | 0 => h0
 | 1 => h1
 | 2 => h2
 | 3 => h3
 | 4 => h4
 | _ + 5 => h5
theorem six_inj {a b c d e f : Nat} (h : a ≠ b ∧ a ≠ c ∧ a ≠ d ∧ a ≠ e ∧ a ≠ f ∧ b ≠ c ∧ b ≠ d ∧ b ≠ e ∧ b ≠ f ∧ c ≠ d ∧ c ≠ e ∧ c ≠ f ∧ d ≠ e ∧ d ≠ f ∧ e ≠ f) : ∀ s t, s < 6 → t < 6 → six a b c d e f s = six a b c d e f t → s = t := by
 intro s t hs ht he
 match s, t, hs, ht with
 | 0, 0, _, _ | 1, 1, _, _ | 2, 2, _, _ | 3, 3, _, _ | 4, 4, _, _ | 5, 5, _, _ => rfl
 | 0, 1, _, _ | 0, 2, _, _ | 0, 3, _, _ | 0, 4, _, _ | 0, 5, _, _ | 1, 0, _, _ | 1, 2, _, _ | 1, 3, _, _ | 1, 4, _, _ | 1, 5, _, _ | 2, 0, _, _ | 2, 1, _, _ | 2, 3, _, _ | 2, 4, _, _ | 2, 5, _, _ | 3, 0, _, _ | 3, 1, _, _ | 3, 2, _, _ | 3, 4, _, _ | 3, 5, _, _ | 4, 0, _, _ | 4, 1, _, _ | 4, 2, _, _ | 4, 3, _, _ | 4, 5, _, _ | 5, 0, _, _ | 5, 1, _, _ | 5, 2, _, _ | 5, 3, _, _ | 5, 4, _, _ =>
  simp only [six] at he; omega
theorem lV (q sz : Nat) (us : List (List LV)) : (outV q sz us).cells = [outV q sz us] ∧ (outV q sz us).storable = true := by cases us <;> exact ⟨rfl, rfl⟩
theorem fill6 {a b c d e f z : LV} (ha : a.cells = [a] ∧ a.storable = true) (hb : b.cells = [b] ∧ b.storable = true) (hc : c.cells = [c] ∧ c.storable = true) (hd : d.cells = [d] ∧ d.storable = true) (he : e.cells = [e] ∧ e.storable = true) (hf : f.cells = [f] ∧ f.storable = true) :
  fillLV (fun i => some (i * 1, 1)) [z, z, z, z, z, z] [(0, a), (1, b), (2, c), (3, d), (4, e), (5, f)] = some [a, b, c, d, e, f] := by
 simp [fillLV, putCells, ha.1, ha.2, hb.1, hb.2, hc.1, hc.2, hd.1, hd.2, he.1, he.2, hf.1, hf.2]
def ff6 (p : Nat × List Int) : List LV := [outV p.1 1 (p.2.map ic)]
theorem og0 {q : Nat} {e : TypeId} {us : List Int} {h : Hp} (hu : us ≠ []) : getH (outH q 1 e (us.map ic) h) q = some (obI e us) := by
 rw [bI (fun h2 => hu (List.map_eq_nil_iff.1 h2))]; exact g0
theorem rF {n : Nat} (h : 1 ≤ n) : kd n = 1 := by unfold kd; rw [if_neg om]
end Go.Ab
set_option maxRecDepth 100000
namespace Go.Proofs.Ytcblgjaomljikaa
open Go.Ab Go.RowKit
def ti1 : TI := ⟨1, 8, [.nilFunc], .func⟩
def ti2 : TI := ⟨1, 8, [.int .i64 0], (.int .i64)⟩
def ti3 : TI := ⟨1, 8, [.int .i64 0], (.int .i64)⟩
def ti4 : TI := ⟨1, 1, [.bool false], .bool⟩
def ti5 : TI := ⟨1, 1, [.int .u8 0], (.int .u8)⟩
def ti6 : TI := ⟨1, 1, [.int .u8 0], (.int .u8)⟩
def ti7 : TI := ⟨4, 24, [.int .i64 0, .int .i64 0, .bool false, .int .u8 0], (.st [(0, 2), (1, 3), (2, 4), (3, 6)])⟩
def ti8 : TI := ⟨4, 24, [.int .i64 0, .int .i64 0, .bool false, .int .u8 0], (.st [(0, 2), (1, 3), (2, 4), (3, 6)])⟩
def ti9 : TI := ⟨1, 16, [.string ⟨#[]⟩], .str⟩
def ti10 : TI := ⟨1, 16, [.string ⟨#[]⟩], .str⟩
def ti11 : TI := ⟨1, 16, [.string ⟨#[]⟩], .str⟩
def ti12 : TI := ⟨1, 8, [.int .u64 0], (.int .u64)⟩
def ti13 : TI := ⟨2, 24, [.string ⟨#[]⟩, .int .u64 0], (.st [(0, 9), (1, 12)])⟩
def ti14 : TI := ⟨2, 24, [.string ⟨#[]⟩, .int .u64 0], (.st [(0, 9), (1, 12)])⟩
def ti21 : TI := ⟨1, 4, [.int .i32 0], (.int .i32)⟩
def ti22 : TI := ⟨1, 24, [.slice none 0 0], (.sl 3)⟩
def ti23 : TI := ⟨1, 8, [.nilFunc], .func⟩
def ti24 : TI := ⟨1, 24, [.slice none 0 0], (.sl 40)⟩
def ti25 : TI := ⟨1, 24, [.slice none 0 0], (.st [(0, 24)])⟩
def ti26 : TI := ⟨1, 24, [.slice none 0 0], (.st [(0, 24)])⟩
def ti27 : TI := ⟨2, 16, [.int .i64 0, .int .i64 0], (.st [(0, 3), (1, 3)])⟩
def ti28 : TI := ⟨2, 16, [.int .i64 0, .int .i64 0], (.st [(0, 3), (1, 3)])⟩
def ti29 : TI := ⟨1, 8, [.int .i64 0], (.int .i64)⟩
def ti31 : TI := ⟨1, 8, [.nilFunc], .func⟩
def ti32 : TI := ⟨1, 8, [.nilFunc], .func⟩
def ti33 : TI := ⟨3, 24, [.int .i64 0, .int .i64 0, .int .i64 0], (.st [(0, 3), (1, 28)])⟩
def ti34 : TI := ⟨3, 24, [.int .i64 0, .int .i64 0, .int .i64 0], (.st [(0, 3), (1, 28)])⟩
def ti35 : TI := ⟨1, 24, [.slice none 0 0], (.sl 34)⟩
def ti36 : TI := ⟨3, 40, [.int .i64 0, .int .i64 0, .slice none 0 0], (.st [(0, 28), (2, 35)])⟩
def ti37 : TI := ⟨3, 40, [.int .i64 0, .int .i64 0, .slice none 0 0], (.st [(0, 28), (2, 35)])⟩
def ti38 : TI := ⟨1, 24, [.slice none 0 0], (.sl 37)⟩
def ti39 : TI := ⟨3, 40, [.int .i64 0, .int .i64 0, .slice none 0 0], (.st [(0, 3), (1, 3), (2, 38)])⟩
def ti40 : TI := ⟨3, 40, [.int .i64 0, .int .i64 0, .slice none 0 0], (.st [(0, 3), (1, 3), (2, 38)])⟩
def ti41 : TI := ⟨1, 24, [.slice none 0 0], (.sl 28)⟩
def ti43 : TI := ⟨1, 8, [.nilFunc], .func⟩
def ti44 : TI := ⟨1, 8, [.nilFunc], .func⟩
def ti46 : TI := ⟨1, 8, [.nilFunc], .func⟩
def ti47 : TI := ⟨1, 8, [.nilFunc], .func⟩
def ti48 : TI := ⟨1, 8, [.nilFunc], .func⟩
def ti49 : TI := ⟨1, 8, [.nilFunc], .func⟩
def ti51 : TI := ⟨1, 8, [.nilFunc], .func⟩
def ti53 : TI := ⟨1, 8, [.nilFunc], .func⟩
def ti54 : TI := ⟨1, 24, [.slice none 0 0], (.sl 22)⟩
def ti55 : TI := ⟨1, 8, [.nilFunc], .func⟩
def ti56 : TI := ⟨1, 8, [.nilFunc], .func⟩
def ti57 : TI := ⟨1, 8, [.nilFunc], .func⟩
def ti58 : TI := ⟨1, 8, [.nilFunc], .func⟩
def ti59 : TI := ⟨1, 24, [.slice none 0 0], (.sl 41)⟩
def ti60 : TI := ⟨1, 8, [.nilFunc], .func⟩
def ti61 : TI := ⟨1, 8, [.nilFunc], .func⟩
def ti62 : TI := ⟨1, 8, [.nilFunc], .func⟩
def ti64 : TI := ⟨1, 8, [.nilFunc], .func⟩
def ti66 : TI := ⟨1, 8, [.nilFunc], .func⟩
def ti67 : TI := ⟨1, 8, [.nilFunc], .func⟩
def ti68 : TI := ⟨1, 8, [.nilFunc], .func⟩
def ti70 : TI := ⟨1, 8, [.nilFunc], .func⟩
def ti71 : TI := ⟨1, 8, [.nilFunc], .func⟩
def ti72 : TI := ⟨1, 8, [.nilFunc], .func⟩
def ti73 : TI := ⟨1, 8, [.nilFunc], .func⟩
def ti74 : TI := ⟨1, 8, [.nilFunc], .func⟩
def ti75 : TI := ⟨1, 8, [.nilFunc], .func⟩
def ti76 : TI := ⟨1, 8, [.nilFunc], .func⟩
def ti77 : TI := ⟨1, 8, [.nilFunc], .func⟩
def ti78 : TI := ⟨1, 8, [.nilFunc], .func⟩
def ti80 : TI := ⟨1, 8, [.nilFunc], .func⟩
def ti82 : TI := ⟨1, 8, [.nilFunc], .func⟩
def ti83 : TI := ⟨1, 8, [.nilFunc], .func⟩
def ti84 : TI := ⟨1, 8, [.nilFunc], .func⟩
def ti85 : TI := ⟨1, 8, [.nilFunc], .func⟩
def ti86 : TI := ⟨1, 8, [.nilFunc], .func⟩
def ti88 : TI := ⟨1, 8, [.nilFunc], .func⟩
def ti89 : TI := ⟨1, 8, [.nilFunc], .func⟩
def ti90 : TI := ⟨1, 8, [.nilFunc], .func⟩
def ti91 : TI := ⟨1, 8, [.nilFunc], .func⟩
def ti92 : TI := ⟨1, 8, [.nilFunc], .func⟩
def ti93 : TI := ⟨1, 8, [.nilFunc], .func⟩
def ti94 : TI := ⟨1, 8, [.nilFunc], .func⟩
def ti95 : TI := ⟨1, 8, [.nilFunc], .func⟩
def ti96 : TI := ⟨1, 8, [.nilFunc], .func⟩
def ti97 : TI := ⟨3, 40, [.int .i64 0, .bool false, .slice none 0 0], (.st [(0, 3), (1, 4), (2, 22)])⟩
def ti98 : TI := ⟨3, 40, [.int .i64 0, .bool false, .slice none 0 0], (.st [(0, 3), (1, 4), (2, 22)])⟩
def ti99 : TI := ⟨6, 80, [.int .i64 0, .bool false, .slice none 0 0, .int .i64 0, .bool false, .slice none 0 0], (.st [(0, 98), (3, 98)])⟩
def ti100 : TI := ⟨6, 80, [.int .i64 0, .bool false, .slice none 0 0, .int .i64 0, .bool false, .slice none 0 0], (.st [(0, 98), (3, 98)])⟩
def ti101 : TI := ⟨1, 8, [.nilFunc], .func⟩
def ti102 : TI := ⟨1, 8, [.nilFunc], .func⟩
def ti103 : TI := ⟨1, 8, [.nilFunc], .func⟩
def ti104 : TI := ⟨1, 8, [.nilFunc], .func⟩
def ti105 : TI := ⟨1, 8, [.nilFunc], .func⟩
def ti106 : TI := ⟨1, 8, [.nilFunc], .func⟩
def ti107 : TI := ⟨1, 8, [.nilFunc], .func⟩
def ti108 : TI := ⟨1, 24, [.slice none 0 0], (.sl 114)⟩
def ti109 : TI := ⟨1, 8, [.nilFunc], .func⟩
def ti110 : TI := ⟨1, 24, [.slice none 0 0], (.sl 189)⟩
def ti111 : TI := ⟨2, 32, [.int .i64 0, .slice none 0 0], (.st [(0, 3), (1, 110)])⟩
def ti112 : TI := ⟨2, 32, [.int .i64 0, .slice none 0 0], (.st [(0, 3), (1, 110)])⟩
def ti113 : TI := ⟨4, 64, [.int .i64 0, .slice none 0 0, .int .i64 0, .slice none 0 0], (.st [(0, 112), (2, 112)])⟩
def ti114 : TI := ⟨4, 64, [.int .i64 0, .slice none 0 0, .int .i64 0, .slice none 0 0], (.st [(0, 112), (2, 112)])⟩
def ti115 : TI := ⟨1, 8, [.nilFunc], .func⟩
def ti116 : TI := ⟨1, 8, [.nilFunc], .func⟩
def ti117 : TI := ⟨1, 8, [.nilFunc], .func⟩
def ti118 : TI := ⟨1, 24, [.slice none 0 0], (.sl 112)⟩
def ti119 : TI := ⟨1, 8, [.nilFunc], .func⟩
def ti121 : TI := ⟨1, 8, [.nilFunc], .func⟩
def ti122 : TI := ⟨1, 8, [.nilFunc], .func⟩
def ti123 : TI := ⟨1, 8, [.nilFunc], .func⟩
def ti124 : TI := ⟨1, 8, [.nilFunc], .func⟩
def ti125 : TI := ⟨1, 8, [.nilFunc], .func⟩
def ti126 : TI := ⟨1, 8, [.nilFunc], .func⟩
def ti127 : TI := ⟨1, 8, [.nilFunc], .func⟩
def ti129 : TI := ⟨40, 40, [.bool false, .bool false, .bool false, .bool false, .bool false, .bool false, .bool false, .bool false, .bool false, .bool false, .bool false, .bool false, .bool false, .bool false, .bool false, .bool false, .bool false, .bool false, .bool false, .bool false, .bool false, .bool false, .bool false, .bool false, .bool false, .bool false, .bool false, .bool false, .bool false, .bool false, .bool false, .bool false, .bool false, .bool false, .bool false, .bool false, .bool false, .bool false, .bool false, .bool false], (.arr 40 4)⟩
def ti130 : TI := ⟨40, 40, [.bool false, .bool false, .bool false, .bool false, .bool false, .bool false, .bool false, .bool false, .bool false, .bool false, .bool false, .bool false, .bool false, .bool false, .bool false, .bool false, .bool false, .bool false, .bool false, .bool false, .bool false, .bool false, .bool false, .bool false, .bool false, .bool false, .bool false, .bool false, .bool false, .bool false, .bool false, .bool false, .bool false, .bool false, .bool false, .bool false, .bool false, .bool false, .bool false, .bool false], (.arr 40 4)⟩
def ti131 : TI := ⟨1, 8, [.nilFunc], .func⟩
def ti132 : TI := ⟨1, 8, [.nilFunc], .func⟩
def ti133 : TI := ⟨1, 8, [.nilFunc], .func⟩
def ti134 : TI := ⟨1, 24, [.slice none 0 0], (.sl 59)⟩
def ti135 : TI := ⟨1, 8, [.nilFunc], .func⟩
def ti136 : TI := ⟨1, 8, [.nilFunc], .func⟩
def ti137 : TI := ⟨1, 8, [.nilFunc], .func⟩
def ti138 : TI := ⟨1, 8, [.nilFunc], .func⟩
def ti139 : TI := ⟨1, 8, [.nilFunc], .func⟩
def ti140 : TI := ⟨1, 24, [.slice none 0 0], (.sl 108)⟩
def ti141 : TI := ⟨1, 8, [.nilFunc], .func⟩
def ti142 : TI := ⟨1, 8, [.nilFunc], .func⟩
def ti143 : TI := ⟨1, 8, [.nilFunc], .func⟩
def ti144 : TI := ⟨1, 8, [.nilFunc], .func⟩
def ti145 : TI := ⟨1, 8, [.nilFunc], .func⟩
def ti146 : TI := ⟨1, 8, [.nilFunc], .func⟩
def ti147 : TI := ⟨1, 8, [.nilFunc], .func⟩
def ti148 : TI := ⟨1, 8, [.int .u64 0], (.int .u64)⟩
def ti150 : TI := ⟨1, 8, [.nilFunc], .func⟩
def ti152 : TI := ⟨1, 8, [.nilFunc], .func⟩
def ti153 : TI := ⟨1, 8, [.nilFunc], .func⟩
def ti154 : TI := ⟨1, 8, [.nilFunc], .func⟩
def ti155 : TI := ⟨1, 8, [.nilFunc], .func⟩
def ti156 : TI := ⟨1, 8, [.nilFunc], .func⟩
def ti157 : TI := ⟨1, 8, [.nilFunc], .func⟩
def ti158 : TI := ⟨8, 128, [.int .i64 0, .slice none 0 0, .int .i64 0, .slice none 0 0, .int .i64 0, .slice none 0 0, .int .i64 0, .slice none 0 0], (.st [(0, 114), (4, 114)])⟩
def ti159 : TI := ⟨8, 128, [.int .i64 0, .slice none 0 0, .int .i64 0, .slice none 0 0, .int .i64 0, .slice none 0 0, .int .i64 0, .slice none 0 0], (.st [(0, 114), (4, 114)])⟩
def ti160 : TI := ⟨1, 8, [.nilFunc], .func⟩
def ti162 : TI := ⟨2, 16, [.int .i64 0, .int .i64 0], (.st [(0, 3), (1, 3)])⟩
def ti163 : TI := ⟨2, 16, [.int .i64 0, .int .i64 0], (.st [(0, 3), (1, 3)])⟩
def ti164 : TI := ⟨1, 8, [.nilFunc], .func⟩
def ti166 : TI := ⟨1, 8, [.nilFunc], .func⟩
def ti167 : TI := ⟨1, 8, [.nilFunc], .func⟩
def ti168 : TI := ⟨1, 8, [.nilFunc], .func⟩
def ti169 : TI := ⟨1, 8, [.nilFunc], .func⟩
def ti171 : TI := ⟨1, 8, [.nilFunc], .func⟩
def ti172 : TI := ⟨1, 8, [.nilFunc], .func⟩
def ti173 : TI := ⟨1, 8, [.nilFunc], .func⟩
def ti174 : TI := ⟨1, 8, [.nilFunc], .func⟩
def ti175 : TI := ⟨1, 8, [.nilFunc], .func⟩
def ti176 : TI := ⟨1, 8, [.nilFunc], .func⟩
def ti177 : TI := ⟨1, 8, [.nilFunc], .func⟩
def ti178 : TI := ⟨1, 8, [.nilFunc], .func⟩
def ti179 : TI := ⟨1, 8, [.nilFunc], .func⟩
def ti181 : TI := ⟨1, 8, [.nilFunc], .func⟩
def ti182 : TI := ⟨1, 8, [.nilFunc], .func⟩
def ti183 : TI := ⟨1, 8, [.nilFunc], .func⟩
def ti184 : TI := ⟨1, 8, [.nilFunc], .func⟩
def ti186 : TI := ⟨1, 8, [.nilFunc], .func⟩
def ti187 : TI := ⟨1, 8, [.nilFunc], .func⟩
def ti188 : TI := ⟨1, 8, [.int .u64 0], (.int .u64)⟩
def ti189 : TI := ⟨1, 4, [.int .u32 0], (.int .u32)⟩
def ti191 : TI := ⟨1, 8, [.nilFunc], .func⟩
def ti192 : TI := ⟨1, 8, [.nilFunc], .func⟩
def ti193 : TI := ⟨1, 8, [.nilFunc], .func⟩
def ti194 : TI := ⟨1, 8, [.nilFunc], .func⟩
def ti196 : TI := ⟨1, 8, [.nilFunc], .func⟩
def ti197 : TI := ⟨1, 8, [.nilFunc], .func⟩
def ti199 : TI := ⟨1, 8, [.nilFunc], .func⟩
def ti200 : TI := ⟨1, 8, [.nilFunc], .func⟩
def ti201 : TI := ⟨1, 8, [.nilFunc], .func⟩
def ti202 : TI := ⟨1, 8, [.nilFunc], .func⟩
def ti203 : TI := ⟨1, 8, [.nilFunc], .func⟩
def ti204 : TI := ⟨1, 8, [.nilFunc], .func⟩
def ti205 : TI := ⟨1, 8, [.nilFunc], .func⟩
def ti206 : TI := ⟨1, 8, [.nilFunc], .func⟩
def ti207 : TI := ⟨1, 8, [.nilFunc], .func⟩
def ti208 : TI := ⟨1, 8, [.nilFunc], .func⟩
def ti210 : TI := ⟨1, 8, [.nilFunc], .func⟩
def ti211 : TI := ⟨1, 8, [.nilFunc], .func⟩
def ti212 : TI := ⟨1, 8, [.nilFunc], .func⟩
def ti213 : TI := ⟨1, 8, [.nilFunc], .func⟩
def ti214 : TI := ⟨1, 8, [.nilFunc], .func⟩
def ti215 : TI := ⟨1, 8, [.nilFunc], .func⟩
def ti216 : TI := ⟨1, 8, [.nilFunc], .func⟩
def ti217 : TI := ⟨1, 8, [.nilFunc], .func⟩
def ti218 : TI := ⟨1, 8, [.nilFunc], .func⟩
def ti219 : TI := ⟨1, 8, [.nilFunc], .func⟩
def ti220 : TI := ⟨1, 8, [.nilFunc], .func⟩
def ti221 : TI := ⟨1, 8, [.nilFunc], .func⟩
def ti222 : TI := ⟨1, 8, [.nilFunc], .func⟩
def ti223 : TI := ⟨1, 8, [.nilFunc], .func⟩
def ti224 : TI := ⟨1, 8, [.nilFunc], .func⟩
def ti225 : TI := ⟨1, 8, [.nilFunc], .func⟩
def ti226 : TI := ⟨1, 8, [.nilFunc], .func⟩
def ti227 : TI := ⟨1, 8, [.nilFunc], .func⟩
def ti228 : TI := ⟨1, 8, [.nilFunc], .func⟩
def ti229 : TI := ⟨1, 8, [.nilFunc], .func⟩
def ti230 : TI := ⟨1, 8, [.nilFunc], .func⟩
def ti231 : TI := ⟨1, 8, [.nilFunc], .func⟩
def ti232 : TI := ⟨1, 8, [.nilFunc], .func⟩
def ti233 : TI := ⟨1, 8, [.nilFunc], .func⟩
def ti234 : TI := ⟨1, 8, [.nilFunc], .func⟩
def ti236 : TI := ⟨1, 8, [.nilFunc], .func⟩
def ti237 : TI := ⟨1, 8, [.nilFunc], .func⟩
def ti238 : TI := ⟨1, 8, [.nilFunc], .func⟩
def ti239 : TI := ⟨1, 8, [.nilFunc], .func⟩
def ti240 : TI := ⟨1, 8, [.nilFunc], .func⟩
def ti242 : TI := ⟨1, 8, [.nilFunc], .func⟩
def ti244 : TI := ⟨1, 8, [.nilFunc], .func⟩
def ti245 : TI := ⟨1, 8, [.nilFunc], .func⟩
def ti246 : TI := ⟨1, 8, [.nilFunc], .func⟩
def ti247 : TI := ⟨1, 8, [.nilFunc], .func⟩
def ti248 : TI := ⟨1, 8, [.nilFunc], .func⟩
def ti249 : TI := ⟨1, 8, [.nilFunc], .func⟩
def ti250 : TI := ⟨1, 8, [.nilFunc], .func⟩
def ti251 : TI := ⟨1, 8, [.nilFunc], .func⟩
def ti252 : TI := ⟨1, 8, [.nilFunc], .func⟩
def ti253 : TI := ⟨1, 8, [.nilFunc], .func⟩
def ti255 : TI := ⟨1, 8, [.nilFunc], .func⟩
def ti257 : TI := ⟨1, 8, [.nilFunc], .func⟩
def ti258 : TI := ⟨1, 8, [.nilFunc], .func⟩
def ti262 : TI := ⟨1, 8, [.nilFunc], .func⟩
def ti268 : TI := ⟨1, 1, [.int .u8 0], (.int .u8)⟩
def ti269 : TI := ⟨1, 1, [.int .u8 0], (.int .u8)⟩
def ti270 : TI := ⟨1, 8, [.nilFunc], .func⟩
def ti272 : TI := ⟨1, 4, [.int .i32 0], (.int .i32)⟩
def ti273 : TI := ⟨1, 4, [.int .i32 0], (.int .i32)⟩
def ti276 : TI := ⟨1, 16, [.string ⟨#[]⟩], (.st [(0, 9)])⟩
def ti277 : TI := ⟨1, 16, [.string ⟨#[]⟩], (.st [(0, 9)])⟩
theorem tok1 : TypeOk Try.prog 1 ti1 := aB (z := (.nilFunc)) (by kernel_rfl) rfl Try.underlying1 ⟨_, _, _, rfl⟩ rfl (by decide)
theorem tok2 : TypeOk Try.prog 2 ti2 := aB (z := (.int .i64 0)) (by kernel_rfl) rfl Try.underlying2 rfl rfl (by decide)
theorem tok3 : TypeOk Try.prog 3 ti3 := aB (z := (.int .i64 0)) (by kernel_rfl) rfl Try.underlying3 rfl rfl (by decide)
theorem tok4 : TypeOk Try.prog 4 ti4 := aB (z := (.bool false)) (by kernel_rfl) rfl Try.underlying4 rfl rfl (by decide)
theorem tok5 : TypeOk Try.prog 5 ti5 := aB (z := (.int .u8 0)) (by kernel_rfl) rfl Try.underlying5 rfl rfl (by decide)
theorem tok6 : TypeOk Try.prog 6 ti6 := aB (z := (.int .u8 0)) (by kernel_rfl) rfl Try.underlying6 rfl rfl (by decide)
theorem tok7 : TypeOk Try.prog 7 ti7 := aB (z := (.agg #[.int .i64 0, .int .i64 0, .bool false, .int .u8 0])) (by kernel_rfl) rfl Try.underlying7 ⟨_, rfl, rfl⟩ rfl (by decide)
theorem tok8 : TypeOk Try.prog 8 ti8 := aB (z := (.agg #[.int .i64 0, .int .i64 0, .bool false, .int .u8 0])) (by kernel_rfl) rfl Try.underlying8 ⟨_, rfl, rfl⟩ rfl (by decide)
theorem tok9 : TypeOk Try.prog 9 ti9 := aB (z := (.string ⟨#[]⟩)) (by kernel_rfl) rfl Try.underlying9 rfl rfl (by decide)
theorem tok10 : TypeOk Try.prog 10 ti10 := aB (z := (.string ⟨#[]⟩)) (by kernel_rfl) rfl Try.underlying10 rfl rfl (by decide)
theorem tok11 : TypeOk Try.prog 11 ti11 := aB (z := (.string ⟨#[]⟩)) (by kernel_rfl) rfl Try.underlying11 rfl rfl (by decide)
theorem tok12 : TypeOk Try.prog 12 ti12 := aB (z := (.int .u64 0)) (by kernel_rfl) rfl Try.underlying12 rfl rfl (by decide)
theorem tok13 : TypeOk Try.prog 13 ti13 := aB (z := (.agg #[.string ⟨#[]⟩, .int .u64 0])) (by kernel_rfl) rfl Try.underlying13 ⟨_, rfl, rfl⟩ rfl (by decide)
theorem tok14 : TypeOk Try.prog 14 ti14 := aB (z := (.agg #[.string ⟨#[]⟩, .int .u64 0])) (by kernel_rfl) rfl Try.underlying14 ⟨_, rfl, rfl⟩ rfl (by decide)
theorem tok21 : TypeOk Try.prog 21 ti21 := aB (z := (.int .i32 0)) (by kernel_rfl) rfl Try.underlying21 rfl rfl (by decide)
theorem tok22 : TypeOk Try.prog 22 ti22 := aB (z := (.slice none 0 0)) (by kernel_rfl) rfl Try.underlying22 rfl rfl (by decide)
theorem tok23 : TypeOk Try.prog 23 ti23 := aB (z := (.nilFunc)) (by kernel_rfl) rfl Try.underlying23 ⟨_, _, _, rfl⟩ rfl (by decide)
theorem tok24 : TypeOk Try.prog 24 ti24 := aB (z := (.slice none 0 0)) (by kernel_rfl) rfl Try.underlying24 rfl rfl (by decide)
theorem tok25 : TypeOk Try.prog 25 ti25 := aB (z := (.agg #[.slice none 0 0])) (by kernel_rfl) rfl Try.underlying25 ⟨_, rfl, rfl⟩ rfl (by decide)
theorem tok26 : TypeOk Try.prog 26 ti26 := aB (z := (.agg #[.slice none 0 0])) (by kernel_rfl) rfl Try.underlying26 ⟨_, rfl, rfl⟩ rfl (by decide)
theorem tok27 : TypeOk Try.prog 27 ti27 := aB (z := (.agg #[.int .i64 0, .int .i64 0])) (by kernel_rfl) rfl Try.underlying27 ⟨_, rfl, rfl⟩ rfl (by decide)
theorem tok28 : TypeOk Try.prog 28 ti28 := aB (z := (.agg #[.int .i64 0, .int .i64 0])) (by kernel_rfl) rfl Try.underlying28 ⟨_, rfl, rfl⟩ rfl (by decide)
theorem tok29 : TypeOk Try.prog 29 ti29 := aB (z := (.int .i64 0)) (by kernel_rfl) rfl Try.underlying29 rfl rfl (by decide)
theorem tok31 : TypeOk Try.prog 31 ti31 := aB (z := (.nilFunc)) (by kernel_rfl) rfl Try.underlying31 ⟨_, _, _, rfl⟩ rfl (by decide)
theorem tok32 : TypeOk Try.prog 32 ti32 := aB (z := (.nilFunc)) (by kernel_rfl) rfl Try.underlying32 ⟨_, _, _, rfl⟩ rfl (by decide)
theorem tok33 : TypeOk Try.prog 33 ti33 := aB (z := (.agg #[.int .i64 0, .int .i64 0, .int .i64 0])) (by kernel_rfl) rfl Try.underlying33 ⟨_, rfl, rfl⟩ rfl (by decide)
theorem tok34 : TypeOk Try.prog 34 ti34 := aB (z := (.agg #[.int .i64 0, .int .i64 0, .int .i64 0])) (by kernel_rfl) rfl Try.underlying34 ⟨_, rfl, rfl⟩ rfl (by decide)
theorem tok35 : TypeOk Try.prog 35 ti35 := aB (z := (.slice none 0 0)) (by kernel_rfl) rfl Try.underlying35 rfl rfl (by decide)
theorem tok36 : TypeOk Try.prog 36 ti36 := aB (z := (.agg #[.int .i64 0, .int .i64 0, .slice none 0 0])) (by kernel_rfl) rfl Try.underlying36 ⟨_, rfl, rfl⟩ rfl (by decide)
theorem tok37 : TypeOk Try.prog 37 ti37 := aB (z := (.agg #[.int .i64 0, .int .i64 0, .slice none 0 0])) (by kernel_rfl) rfl Try.underlying37 ⟨_, rfl, rfl⟩ rfl (by decide)
theorem tok38 : TypeOk Try.prog 38 ti38 := aB (z := (.slice none 0 0)) (by kernel_rfl) rfl Try.underlying38 rfl rfl (by decide)
theorem tok39 : TypeOk Try.prog 39 ti39 := aB (z := (.agg #[.int .i64 0, .int .i64 0, .slice none 0 0])) (by kernel_rfl) rfl Try.underlying39 ⟨_, rfl, rfl⟩ rfl (by decide)
theorem tok40 : TypeOk Try.prog 40 ti40 := aB (z := (.agg #[.int .i64 0, .int .i64 0, .slice none 0 0])) (by kernel_rfl) rfl Try.underlying40 ⟨_, rfl, rfl⟩ rfl (by decide)
theorem tok41 : TypeOk Try.prog 41 ti41 := aB (z := (.slice none 0 0)) (by kernel_rfl) rfl Try.underlying41 rfl rfl (by decide)
theorem tok43 : TypeOk Try.prog 43 ti43 := aB (z := (.nilFunc)) (by kernel_rfl) rfl Try.underlying43 ⟨_, _, _, rfl⟩ rfl (by decide)
theorem tok44 : TypeOk Try.prog 44 ti44 := aB (z := (.nilFunc)) (by kernel_rfl) rfl Try.underlying44 ⟨_, _, _, rfl⟩ rfl (by decide)
theorem tok46 : TypeOk Try.prog 46 ti46 := aB (z := (.nilFunc)) (by kernel_rfl) rfl Try.underlying46 ⟨_, _, _, rfl⟩ rfl (by decide)
theorem tok47 : TypeOk Try.prog 47 ti47 := aB (z := (.nilFunc)) (by kernel_rfl) rfl Try.underlying47 ⟨_, _, _, rfl⟩ rfl (by decide)
theorem tok48 : TypeOk Try.prog 48 ti48 := aB (z := (.nilFunc)) (by kernel_rfl) rfl Try.underlying48 ⟨_, _, _, rfl⟩ rfl (by decide)
theorem tok49 : TypeOk Try.prog 49 ti49 := aB (z := (.nilFunc)) (by kernel_rfl) rfl Try.underlying49 ⟨_, _, _, rfl⟩ rfl (by decide)
theorem tok51 : TypeOk Try.prog 51 ti51 := aB (z := (.nilFunc)) (by kernel_rfl) rfl Try.underlying51 ⟨_, _, _, rfl⟩ rfl (by decide)
theorem tok53 : TypeOk Try.prog 53 ti53 := aB (z := (.nilFunc)) (by kernel_rfl) rfl Try.underlying53 ⟨_, _, _, rfl⟩ rfl (by decide)
theorem tok54 : TypeOk Try.prog 54 ti54 := aB (z := (.slice none 0 0)) (by kernel_rfl) rfl Try.underlying54 rfl rfl (by decide)
theorem tok55 : TypeOk Try.prog 55 ti55 := aB (z := (.nilFunc)) (by kernel_rfl) rfl Try.underlying55 ⟨_, _, _, rfl⟩ rfl (by decide)
theorem tok56 : TypeOk Try.prog 56 ti56 := aB (z := (.nilFunc)) (by kernel_rfl) rfl Try.underlying56 ⟨_, _, _, rfl⟩ rfl (by decide)
theorem tok57 : TypeOk Try.prog 57 ti57 := aB (z := (.nilFunc)) (by kernel_rfl) rfl Try.underlying57 ⟨_, _, _, rfl⟩ rfl (by decide)
theorem tok58 : TypeOk Try.prog 58 ti58 := aB (z := (.nilFunc)) (by kernel_rfl) rfl Try.underlying58 ⟨_, _, _, rfl⟩ rfl (by decide)
theorem tok59 : TypeOk Try.prog 59 ti59 := aB (z := (.slice none 0 0)) (by kernel_rfl) rfl Try.underlying59 rfl rfl (by decide)
theorem tok60 : TypeOk Try.prog 60 ti60 := aB (z := (.nilFunc)) (by kernel_rfl) rfl Try.underlying60 ⟨_, _, _, rfl⟩ rfl (by decide)
theorem tok61 : TypeOk Try.prog 61 ti61 := aB (z := (.nilFunc)) (by kernel_rfl) rfl Try.underlying61 ⟨_, _, _, rfl⟩ rfl (by decide)
theorem tok62 : TypeOk Try.prog 62 ti62 := aB (z := (.nilFunc)) (by kernel_rfl) rfl Try.underlying62 ⟨_, _, _, rfl⟩ rfl (by decide)
theorem tok64 : TypeOk Try.prog 64 ti64 := aB (z := (.nilFunc)) (by kernel_rfl) rfl Try.underlying64 ⟨_, _, _, rfl⟩ rfl (by decide)
theorem tok66 : TypeOk Try.prog 66 ti66 := aB (z := (.nilFunc)) (by kernel_rfl) rfl Try.underlying66 ⟨_, _, _, rfl⟩ rfl (by decide)
theorem tok67 : TypeOk Try.prog 67 ti67 := aB (z := (.nilFunc)) (by kernel_rfl) rfl Try.underlying67 ⟨_, _, _, rfl⟩ rfl (by decide)
theorem tok68 : TypeOk Try.prog 68 ti68 := aB (z := (.nilFunc)) (by kernel_rfl) rfl Try.underlying68 ⟨_, _, _, rfl⟩ rfl (by decide)
theorem tok70 : TypeOk Try.prog 70 ti70 := aB (z := (.nilFunc)) (by kernel_rfl) rfl Try.underlying70 ⟨_, _, _, rfl⟩ rfl (by decide)
theorem tok71 : TypeOk Try.prog 71 ti71 := aB (z := (.nilFunc)) (by kernel_rfl) rfl Try.underlying71 ⟨_, _, _, rfl⟩ rfl (by decide)
theorem tok72 : TypeOk Try.prog 72 ti72 := aB (z := (.nilFunc)) (by kernel_rfl) rfl Try.underlying72 ⟨_, _, _, rfl⟩ rfl (by decide)
theorem tok73 : TypeOk Try.prog 73 ti73 := aB (z := (.nilFunc)) (by kernel_rfl) rfl Try.underlying73 ⟨_, _, _, rfl⟩ rfl (by decide)
theorem tok74 : TypeOk Try.prog 74 ti74 := aB (z := (.nilFunc)) (by kernel_rfl) rfl Try.underlying74 ⟨_, _, _, rfl⟩ rfl (by decide)
theorem tok75 : TypeOk Try.prog 75 ti75 := aB (z := (.nilFunc)) (by kernel_rfl) rfl Try.underlying75 ⟨_, _, _, rfl⟩ rfl (by decide)
theorem tok76 : TypeOk Try.prog 76 ti76 := aB (z := (.nilFunc)) (by kernel_rfl) rfl Try.underlying76 ⟨_, _, _, rfl⟩ rfl (by decide)
theorem tok77 : TypeOk Try.prog 77 ti77 := aB (z := (.nilFunc)) (by kernel_rfl) rfl Try.underlying77 ⟨_, _, _, rfl⟩ rfl (by decide)
theorem tok78 : TypeOk Try.prog 78 ti78 := aB (z := (.nilFunc)) (by kernel_rfl) rfl Try.underlying78 ⟨_, _, _, rfl⟩ rfl (by decide)
theorem tok80 : TypeOk Try.prog 80 ti80 := aB (z := (.nilFunc)) (by kernel_rfl) rfl Try.underlying80 ⟨_, _, _, rfl⟩ rfl (by decide)
theorem tok82 : TypeOk Try.prog 82 ti82 := aB (z := (.nilFunc)) (by kernel_rfl) rfl Try.underlying82 ⟨_, _, _, rfl⟩ rfl (by decide)
theorem tok83 : TypeOk Try.prog 83 ti83 := aB (z := (.nilFunc)) (by kernel_rfl) rfl Try.underlying83 ⟨_, _, _, rfl⟩ rfl (by decide)
theorem tok84 : TypeOk Try.prog 84 ti84 := aB (z := (.nilFunc)) (by kernel_rfl) rfl Try.underlying84 ⟨_, _, _, rfl⟩ rfl (by decide)
theorem tok85 : TypeOk Try.prog 85 ti85 := aB (z := (.nilFunc)) (by kernel_rfl) rfl Try.underlying85 ⟨_, _, _, rfl⟩ rfl (by decide)
theorem tok86 : TypeOk Try.prog 86 ti86 := aB (z := (.nilFunc)) (by kernel_rfl) rfl Try.underlying86 ⟨_, _, _, rfl⟩ rfl (by decide)
theorem tok88 : TypeOk Try.prog 88 ti88 := aB (z := (.nilFunc)) (by kernel_rfl) rfl Try.underlying88 ⟨_, _, _, rfl⟩ rfl (by decide)
theorem tok89 : TypeOk Try.prog 89 ti89 := aB (z := (.nilFunc)) (by kernel_rfl) rfl Try.underlying89 ⟨_, _, _, rfl⟩ rfl (by decide)
theorem tok90 : TypeOk Try.prog 90 ti90 := aB (z := (.nilFunc)) (by kernel_rfl) rfl Try.underlying90 ⟨_, _, _, rfl⟩ rfl (by decide)
theorem tok91 : TypeOk Try.prog 91 ti91 := aB (z := (.nilFunc)) (by kernel_rfl) rfl Try.underlying91 ⟨_, _, _, rfl⟩ rfl (by decide)
theorem tok92 : TypeOk Try.prog 92 ti92 := aB (z := (.nilFunc)) (by kernel_rfl) rfl Try.underlying92 ⟨_, _, _, rfl⟩ rfl (by decide)
theorem tok93 : TypeOk Try.prog 93 ti93 := aB (z := (.nilFunc)) (by kernel_rfl) rfl Try.underlying93 ⟨_, _, _, rfl⟩ rfl (by decide)
theorem tok94 : TypeOk Try.prog 94 ti94 := aB (z := (.nilFunc)) (by kernel_rfl) rfl Try.underlying94 ⟨_, _, _, rfl⟩ rfl (by decide)
theorem tok95 : TypeOk Try.prog 95 ti95 := aB (z := (.nilFunc)) (by kernel_rfl) rfl Try.underlying95 ⟨_, _, _, rfl⟩ rfl (by decide)
theorem tok96 : TypeOk Try.prog 96 ti96 := aB (z := (.nilFunc)) (by kernel_rfl) rfl Try.underlying96 ⟨_, _, _, rfl⟩ rfl (by decide)
theorem tok97 : TypeOk Try.prog 97 ti97 := aB (z := (.agg #[.int .i64 0, .bool false, .slice none 0 0])) (by kernel_rfl) rfl Try.underlying97 ⟨_, rfl, rfl⟩ rfl (by decide)
theorem tok98 : TypeOk Try.prog 98 ti98 := aB (z := (.agg #[.int .i64 0, .bool false, .slice none 0 0])) (by kernel_rfl) rfl Try.underlying98 ⟨_, rfl, rfl⟩ rfl (by decide)
theorem tok99 : TypeOk Try.prog 99 ti99 := aB (z := (.agg #[.int .i64 0, .bool false, .slice none 0 0, .int .i64 0, .bool false, .slice none 0 0])) (by kernel_rfl) rfl Try.underlying99 ⟨_, rfl, rfl⟩ rfl (by decide)
theorem tok100 : TypeOk Try.prog 100 ti100 := aB (z := (.agg #[.int .i64 0, .bool false, .slice none 0 0, .int .i64 0, .bool false, .slice none 0 0])) (by kernel_rfl) rfl Try.underlying100 ⟨_, rfl, rfl⟩ rfl (by decide)
theorem tok101 : TypeOk Try.prog 101 ti101 := aB (z := (.nilFunc)) (by kernel_rfl) rfl Try.underlying101 ⟨_, _, _, rfl⟩ rfl (by decide)
theorem tok102 : TypeOk Try.prog 102 ti102 := aB (z := (.nilFunc)) (by kernel_rfl) rfl Try.underlying102 ⟨_, _, _, rfl⟩ rfl (by decide)
theorem tok103 : TypeOk Try.prog 103 ti103 := aB (z := (.nilFunc)) (by kernel_rfl) rfl Try.underlying103 ⟨_, _, _, rfl⟩ rfl (by decide)
theorem tok104 : TypeOk Try.prog 104 ti104 := aB (z := (.nilFunc)) (by kernel_rfl) rfl Try.underlying104 ⟨_, _, _, rfl⟩ rfl (by decide)
theorem tok105 : TypeOk Try.prog 105 ti105 := aB (z := (.nilFunc)) (by kernel_rfl) rfl Try.underlying105 ⟨_, _, _, rfl⟩ rfl (by decide)
theorem tok106 : TypeOk Try.prog 106 ti106 := aB (z := (.nilFunc)) (by kernel_rfl) rfl Try.underlying106 ⟨_, _, _, rfl⟩ rfl (by decide)
theorem tok107 : TypeOk Try.prog 107 ti107 := aB (z := (.nilFunc)) (by kernel_rfl) rfl Try.underlying107 ⟨_, _, _, rfl⟩ rfl (by decide)
theorem tok108 : TypeOk Try.prog 108 ti108 := aB (z := (.slice none 0 0)) (by kernel_rfl) rfl Try.underlying108 rfl rfl (by decide)
theorem tok109 : TypeOk Try.prog 109 ti109 := aB (z := (.nilFunc)) (by kernel_rfl) rfl Try.underlying109 ⟨_, _, _, rfl⟩ rfl (by decide)
theorem tok110 : TypeOk Try.prog 110 ti110 := aB (z := (.slice none 0 0)) (by kernel_rfl) rfl Try.underlying110 rfl rfl (by decide)
theorem tok111 : TypeOk Try.prog 111 ti111 := aB (z := (.agg #[.int .i64 0, .slice none 0 0])) (by kernel_rfl) rfl Try.underlying111 ⟨_, rfl, rfl⟩ rfl (by decide)
theorem tok112 : TypeOk Try.prog 112 ti112 := aB (z := (.agg #[.int .i64 0, .slice none 0 0])) (by kernel_rfl) rfl Try.underlying112 ⟨_, rfl, rfl⟩ rfl (by decide)
theorem tok113 : TypeOk Try.prog 113 ti113 := aB (z := (.agg #[.int .i64 0, .slice none 0 0, .int .i64 0, .slice none 0 0])) (by kernel_rfl) rfl Try.underlying113 ⟨_, rfl, rfl⟩ rfl (by decide)
theorem tok114 : TypeOk Try.prog 114 ti114 := aB (z := (.agg #[.int .i64 0, .slice none 0 0, .int .i64 0, .slice none 0 0])) (by kernel_rfl) rfl Try.underlying114 ⟨_, rfl, rfl⟩ rfl (by decide)
theorem tok115 : TypeOk Try.prog 115 ti115 := aB (z := (.nilFunc)) (by kernel_rfl) rfl Try.underlying115 ⟨_, _, _, rfl⟩ rfl (by decide)
theorem tok116 : TypeOk Try.prog 116 ti116 := aB (z := (.nilFunc)) (by kernel_rfl) rfl Try.underlying116 ⟨_, _, _, rfl⟩ rfl (by decide)
theorem tok117 : TypeOk Try.prog 117 ti117 := aB (z := (.nilFunc)) (by kernel_rfl) rfl Try.underlying117 ⟨_, _, _, rfl⟩ rfl (by decide)
theorem tok118 : TypeOk Try.prog 118 ti118 := aB (z := (.slice none 0 0)) (by kernel_rfl) rfl Try.underlying118 rfl rfl (by decide)
theorem tok119 : TypeOk Try.prog 119 ti119 := aB (z := (.nilFunc)) (by kernel_rfl) rfl Try.underlying119 ⟨_, _, _, rfl⟩ rfl (by decide)
theorem tok121 : TypeOk Try.prog 121 ti121 := aB (z := (.nilFunc)) (by kernel_rfl) rfl Try.underlying121 ⟨_, _, _, rfl⟩ rfl (by decide)
theorem tok122 : TypeOk Try.prog 122 ti122 := aB (z := (.nilFunc)) (by kernel_rfl) rfl Try.underlying122 ⟨_, _, _, rfl⟩ rfl (by decide)
theorem tok123 : TypeOk Try.prog 123 ti123 := aB (z := (.nilFunc)) (by kernel_rfl) rfl Try.underlying123 ⟨_, _, _, rfl⟩ rfl (by decide)
theorem tok124 : TypeOk Try.prog 124 ti124 := aB (z := (.nilFunc)) (by kernel_rfl) rfl Try.underlying124 ⟨_, _, _, rfl⟩ rfl (by decide)
theorem tok125 : TypeOk Try.prog 125 ti125 := aB (z := (.nilFunc)) (by kernel_rfl) rfl Try.underlying125 ⟨_, _, _, rfl⟩ rfl (by decide)
theorem tok126 : TypeOk Try.prog 126 ti126 := aB (z := (.nilFunc)) (by kernel_rfl) rfl Try.underlying126 ⟨_, _, _, rfl⟩ rfl (by decide)
theorem tok127 : TypeOk Try.prog 127 ti127 := aB (z := (.nilFunc)) (by kernel_rfl) rfl Try.underlying127 ⟨_, _, _, rfl⟩ rfl (by decide)
theorem tok129 : TypeOk Try.prog 129 ti129 := aB (z := (.agg #[.bool false, .bool false, .bool false, .bool false, .bool false, .bool false, .bool false, .bool false, .bool false, .bool false, .bool false, .bool false, .bool false, .bool false, .bool false, .bool false, .bool false, .bool false, .bool false, .bool false, .bool false, .bool false, .bool false, .bool false, .bool false, .bool false, .bool false, .bool false, .bool false, .bool false, .bool false, .bool false, .bool false, .bool false, .bool false, .bool false, .bool false, .bool false, .bool false, .bool false])) (by kernel_rfl) rfl Try.underlying129 rfl rfl (by decide)
theorem tok130 : TypeOk Try.prog 130 ti130 := aB (z := (.agg #[.bool false, .bool false, .bool false, .bool false, .bool false, .bool false, .bool false, .bool false, .bool false, .bool false, .bool false, .bool false, .bool false, .bool false, .bool false, .bool false, .bool false, .bool false, .bool false, .bool false, .bool false, .bool false, .bool false, .bool false, .bool false, .bool false, .bool false, .bool false, .bool false, .bool false, .bool false, .bool false, .bool false, .bool false, .bool false, .bool false, .bool false, .bool false, .bool false, .bool false])) (by kernel_rfl) rfl Try.underlying130 rfl rfl (by decide)
theorem tok131 : TypeOk Try.prog 131 ti131 := aB (z := (.nilFunc)) (by kernel_rfl) rfl Try.underlying131 ⟨_, _, _, rfl⟩ rfl (by decide)
theorem tok132 : TypeOk Try.prog 132 ti132 := aB (z := (.nilFunc)) (by kernel_rfl) rfl Try.underlying132 ⟨_, _, _, rfl⟩ rfl (by decide)
theorem tok133 : TypeOk Try.prog 133 ti133 := aB (z := (.nilFunc)) (by kernel_rfl) rfl Try.underlying133 ⟨_, _, _, rfl⟩ rfl (by decide)
theorem tok134 : TypeOk Try.prog 134 ti134 := aB (z := (.slice none 0 0)) (by kernel_rfl) rfl Try.underlying134 rfl rfl (by decide)
theorem tok135 : TypeOk Try.prog 135 ti135 := aB (z := (.nilFunc)) (by kernel_rfl) rfl Try.underlying135 ⟨_, _, _, rfl⟩ rfl (by decide)
theorem tok136 : TypeOk Try.prog 136 ti136 := aB (z := (.nilFunc)) (by kernel_rfl) rfl Try.underlying136 ⟨_, _, _, rfl⟩ rfl (by decide)
theorem tok137 : TypeOk Try.prog 137 ti137 := aB (z := (.nilFunc)) (by kernel_rfl) rfl Try.underlying137 ⟨_, _, _, rfl⟩ rfl (by decide)
theorem tok138 : TypeOk Try.prog 138 ti138 := aB (z := (.nilFunc)) (by kernel_rfl) rfl Try.underlying138 ⟨_, _, _, rfl⟩ rfl (by decide)
theorem tok139 : TypeOk Try.prog 139 ti139 := aB (z := (.nilFunc)) (by kernel_rfl) rfl Try.underlying139 ⟨_, _, _, rfl⟩ rfl (by decide)
theorem tok140 : TypeOk Try.prog 140 ti140 := aB (z := (.slice none 0 0)) (by kernel_rfl) rfl Try.underlying140 rfl rfl (by decide)
theorem tok141 : TypeOk Try.prog 141 ti141 := aB (z := (.nilFunc)) (by kernel_rfl) rfl Try.underlying141 ⟨_, _, _, rfl⟩ rfl (by decide)
theorem tok142 : TypeOk Try.prog 142 ti142 := aB (z := (.nilFunc)) (by kernel_rfl) rfl Try.underlying142 ⟨_, _, _, rfl⟩ rfl (by decide)
theorem tok143 : TypeOk Try.prog 143 ti143 := aB (z := (.nilFunc)) (by kernel_rfl) rfl Try.underlying143 ⟨_, _, _, rfl⟩ rfl (by decide)
theorem tok144 : TypeOk Try.prog 144 ti144 := aB (z := (.nilFunc)) (by kernel_rfl) rfl Try.underlying144 ⟨_, _, _, rfl⟩ rfl (by decide)
theorem tok145 : TypeOk Try.prog 145 ti145 := aB (z := (.nilFunc)) (by kernel_rfl) rfl Try.underlying145 ⟨_, _, _, rfl⟩ rfl (by decide)
theorem tok146 : TypeOk Try.prog 146 ti146 := aB (z := (.nilFunc)) (by kernel_rfl) rfl Try.underlying146 ⟨_, _, _, rfl⟩ rfl (by decide)
theorem tok147 : TypeOk Try.prog 147 ti147 := aB (z := (.nilFunc)) (by kernel_rfl) rfl Try.underlying147 ⟨_, _, _, rfl⟩ rfl (by decide)
theorem tok148 : TypeOk Try.prog 148 ti148 := aB (z := (.int .u64 0)) (by kernel_rfl) rfl Try.underlying148 rfl rfl (by decide)
theorem tok150 : TypeOk Try.prog 150 ti150 := aB (z := (.nilFunc)) (by kernel_rfl) rfl Try.underlying150 ⟨_, _, _, rfl⟩ rfl (by decide)
theorem tok152 : TypeOk Try.prog 152 ti152 := aB (z := (.nilFunc)) (by kernel_rfl) rfl Try.underlying152 ⟨_, _, _, rfl⟩ rfl (by decide)
theorem tok153 : TypeOk Try.prog 153 ti153 := aB (z := (.nilFunc)) (by kernel_rfl) rfl Try.underlying153 ⟨_, _, _, rfl⟩ rfl (by decide)
theorem tok154 : TypeOk Try.prog 154 ti154 := aB (z := (.nilFunc)) (by kernel_rfl) rfl Try.underlying154 ⟨_, _, _, rfl⟩ rfl (by decide)
theorem tok155 : TypeOk Try.prog 155 ti155 := aB (z := (.nilFunc)) (by kernel_rfl) rfl Try.underlying155 ⟨_, _, _, rfl⟩ rfl (by decide)
theorem tok156 : TypeOk Try.prog 156 ti156 := aB (z := (.nilFunc)) (by kernel_rfl) rfl Try.underlying156 ⟨_, _, _, rfl⟩ rfl (by decide)
theorem tok157 : TypeOk Try.prog 157 ti157 := aB (z := (.nilFunc)) (by kernel_rfl) rfl Try.underlying157 ⟨_, _, _, rfl⟩ rfl (by decide)
theorem tok158 : TypeOk Try.prog 158 ti158 := aB (z := (.agg #[.int .i64 0, .slice none 0 0, .int .i64 0, .slice none 0 0, .int .i64 0, .slice none 0 0, .int .i64 0, .slice none 0 0])) (by kernel_rfl) rfl Try.underlying158 ⟨_, rfl, rfl⟩ rfl (by decide)
theorem tok159 : TypeOk Try.prog 159 ti159 := aB (z := (.agg #[.int .i64 0, .slice none 0 0, .int .i64 0, .slice none 0 0, .int .i64 0, .slice none 0 0, .int .i64 0, .slice none 0 0])) (by kernel_rfl) rfl Try.underlying159 ⟨_, rfl, rfl⟩ rfl (by decide)
theorem tok160 : TypeOk Try.prog 160 ti160 := aB (z := (.nilFunc)) (by kernel_rfl) rfl Try.underlying160 ⟨_, _, _, rfl⟩ rfl (by decide)
theorem tok162 : TypeOk Try.prog 162 ti162 := aB (z := (.agg #[.int .i64 0, .int .i64 0])) (by kernel_rfl) rfl Try.underlying162 ⟨_, rfl, rfl⟩ rfl (by decide)
theorem tok163 : TypeOk Try.prog 163 ti163 := aB (z := (.agg #[.int .i64 0, .int .i64 0])) (by kernel_rfl) rfl Try.underlying163 ⟨_, rfl, rfl⟩ rfl (by decide)
theorem tok164 : TypeOk Try.prog 164 ti164 := aB (z := (.nilFunc)) (by kernel_rfl) rfl Try.underlying164 ⟨_, _, _, rfl⟩ rfl (by decide)
theorem tok166 : TypeOk Try.prog 166 ti166 := aB (z := (.nilFunc)) (by kernel_rfl) rfl Try.underlying166 ⟨_, _, _, rfl⟩ rfl (by decide)
theorem tok167 : TypeOk Try.prog 167 ti167 := aB (z := (.nilFunc)) (by kernel_rfl) rfl Try.underlying167 ⟨_, _, _, rfl⟩ rfl (by decide)
theorem tok168 : TypeOk Try.prog 168 ti168 := aB (z := (.nilFunc)) (by kernel_rfl) rfl Try.underlying168 ⟨_, _, _, rfl⟩ rfl (by decide)
theorem tok169 : TypeOk Try.prog 169 ti169 := aB (z := (.nilFunc)) (by kernel_rfl) rfl Try.underlying169 ⟨_, _, _, rfl⟩ rfl (by decide)
theorem tok171 : TypeOk Try.prog 171 ti171 := aB (z := (.nilFunc)) (by kernel_rfl) rfl Try.underlying171 ⟨_, _, _, rfl⟩ rfl (by decide)
theorem tok172 : TypeOk Try.prog 172 ti172 := aB (z := (.nilFunc)) (by kernel_rfl) rfl Try.underlying172 ⟨_, _, _, rfl⟩ rfl (by decide)
theorem tok173 : TypeOk Try.prog 173 ti173 := aB (z := (.nilFunc)) (by kernel_rfl) rfl Try.underlying173 ⟨_, _, _, rfl⟩ rfl (by decide)
theorem tok174 : TypeOk Try.prog 174 ti174 := aB (z := (.nilFunc)) (by kernel_rfl) rfl Try.underlying174 ⟨_, _, _, rfl⟩ rfl (by decide)
theorem tok175 : TypeOk Try.prog 175 ti175 := aB (z := (.nilFunc)) (by kernel_rfl) rfl Try.underlying175 ⟨_, _, _, rfl⟩ rfl (by decide)
theorem tok176 : TypeOk Try.prog 176 ti176 := aB (z := (.nilFunc)) (by kernel_rfl) rfl Try.underlying176 ⟨_, _, _, rfl⟩ rfl (by decide)
theorem tok177 : TypeOk Try.prog 177 ti177 := aB (z := (.nilFunc)) (by kernel_rfl) rfl Try.underlying177 ⟨_, _, _, rfl⟩ rfl (by decide)
theorem tok178 : TypeOk Try.prog 178 ti178 := aB (z := (.nilFunc)) (by kernel_rfl) rfl Try.underlying178 ⟨_, _, _, rfl⟩ rfl (by decide)
theorem tok179 : TypeOk Try.prog 179 ti179 := aB (z := (.nilFunc)) (by kernel_rfl) rfl Try.underlying179 ⟨_, _, _, rfl⟩ rfl (by decide)
theorem tok181 : TypeOk Try.prog 181 ti181 := aB (z := (.nilFunc)) (by kernel_rfl) rfl Try.underlying181 ⟨_, _, _, rfl⟩ rfl (by decide)
theorem tok182 : TypeOk Try.prog 182 ti182 := aB (z := (.nilFunc)) (by kernel_rfl) rfl Try.underlying182 ⟨_, _, _, rfl⟩ rfl (by decide)
theorem tok183 : TypeOk Try.prog 183 ti183 := aB (z := (.nilFunc)) (by kernel_rfl) rfl Try.underlying183 ⟨_, _, _, rfl⟩ rfl (by decide)
theorem tok184 : TypeOk Try.prog 184 ti184 := aB (z := (.nilFunc)) (by kernel_rfl) rfl Try.underlying184 ⟨_, _, _, rfl⟩ rfl (by decide)
theorem tok186 : TypeOk Try.prog 186 ti186 := aB (z := (.nilFunc)) (by kernel_rfl) rfl Try.underlying186 ⟨_, _, _, rfl⟩ rfl (by decide)
theorem tok187 : TypeOk Try.prog 187 ti187 := aB (z := (.nilFunc)) (by kernel_rfl) rfl Try.underlying187 ⟨_, _, _, rfl⟩ rfl (by decide)
theorem tok188 : TypeOk Try.prog 188 ti188 := aB (z := (.int .u64 0)) (by kernel_rfl) rfl Try.underlying188 rfl rfl (by decide)
theorem tok189 : TypeOk Try.prog 189 ti189 := aB (z := (.int .u32 0)) (by kernel_rfl) rfl Try.underlying189 rfl rfl (by decide)
theorem tok191 : TypeOk Try.prog 191 ti191 := aB (z := (.nilFunc)) (by kernel_rfl) rfl Try.underlying191 ⟨_, _, _, rfl⟩ rfl (by decide)
theorem tok192 : TypeOk Try.prog 192 ti192 := aB (z := (.nilFunc)) (by kernel_rfl) rfl Try.underlying192 ⟨_, _, _, rfl⟩ rfl (by decide)
theorem tok193 : TypeOk Try.prog 193 ti193 := aB (z := (.nilFunc)) (by kernel_rfl) rfl Try.underlying193 ⟨_, _, _, rfl⟩ rfl (by decide)
theorem tok194 : TypeOk Try.prog 194 ti194 := aB (z := (.nilFunc)) (by kernel_rfl) rfl Try.underlying194 ⟨_, _, _, rfl⟩ rfl (by decide)
theorem tok196 : TypeOk Try.prog 196 ti196 := aB (z := (.nilFunc)) (by kernel_rfl) rfl Try.underlying196 ⟨_, _, _, rfl⟩ rfl (by decide)
theorem tok197 : TypeOk Try.prog 197 ti197 := aB (z := (.nilFunc)) (by kernel_rfl) rfl Try.underlying197 ⟨_, _, _, rfl⟩ rfl (by decide)
theorem tok199 : TypeOk Try.prog 199 ti199 := aB (z := (.nilFunc)) (by kernel_rfl) rfl Try.underlying199 ⟨_, _, _, rfl⟩ rfl (by decide)
theorem tok200 : TypeOk Try.prog 200 ti200 := aB (z := (.nilFunc)) (by kernel_rfl) rfl Try.underlying200 ⟨_, _, _, rfl⟩ rfl (by decide)
theorem tok201 : TypeOk Try.prog 201 ti201 := aB (z := (.nilFunc)) (by kernel_rfl) rfl Try.underlying201 ⟨_, _, _, rfl⟩ rfl (by decide)
theorem tok202 : TypeOk Try.prog 202 ti202 := aB (z := (.nilFunc)) (by kernel_rfl) rfl Try.underlying202 ⟨_, _, _, rfl⟩ rfl (by decide)
theorem tok203 : TypeOk Try.prog 203 ti203 := aB (z := (.nilFunc)) (by kernel_rfl) rfl Try.underlying203 ⟨_, _, _, rfl⟩ rfl (by decide)
theorem tok204 : TypeOk Try.prog 204 ti204 := aB (z := (.nilFunc)) (by kernel_rfl) rfl Try.underlying204 ⟨_, _, _, rfl⟩ rfl (by decide)
theorem tok205 : TypeOk Try.prog 205 ti205 := aB (z := (.nilFunc)) (by kernel_rfl) rfl Try.underlying205 ⟨_, _, _, rfl⟩ rfl (by decide)
theorem tok206 : TypeOk Try.prog 206 ti206 := aB (z := (.nilFunc)) (by kernel_rfl) rfl Try.underlying206 ⟨_, _, _, rfl⟩ rfl (by decide)
theorem tok207 : TypeOk Try.prog 207 ti207 := aB (z := (.nilFunc)) (by kernel_rfl) rfl Try.underlying207 ⟨_, _, _, rfl⟩ rfl (by decide)
theorem tok208 : TypeOk Try.prog 208 ti208 := aB (z := (.nilFunc)) (by kernel_rfl) rfl Try.underlying208 ⟨_, _, _, rfl⟩ rfl (by decide)
theorem tok210 : TypeOk Try.prog 210 ti210 := aB (z := (.nilFunc)) (by kernel_rfl) rfl Try.underlying210 ⟨_, _, _, rfl⟩ rfl (by decide)
theorem tok211 : TypeOk Try.prog 211 ti211 := aB (z := (.nilFunc)) (by kernel_rfl) rfl Try.underlying211 ⟨_, _, _, rfl⟩ rfl (by decide)
theorem tok212 : TypeOk Try.prog 212 ti212 := aB (z := (.nilFunc)) (by kernel_rfl) rfl Try.underlying212 ⟨_, _, _, rfl⟩ rfl (by decide)
theorem tok213 : TypeOk Try.prog 213 ti213 := aB (z := (.nilFunc)) (by kernel_rfl) rfl Try.underlying213 ⟨_, _, _, rfl⟩ rfl (by decide)
theorem tok214 : TypeOk Try.prog 214 ti214 := aB (z := (.nilFunc)) (by kernel_rfl) rfl Try.underlying214 ⟨_, _, _, rfl⟩ rfl (by decide)
theorem tok215 : TypeOk Try.prog 215 ti215 := aB (z := (.nilFunc)) (by kernel_rfl) rfl Try.underlying215 ⟨_, _, _, rfl⟩ rfl (by decide)
theorem tok216 : TypeOk Try.prog 216 ti216 := aB (z := (.nilFunc)) (by kernel_rfl) rfl Try.underlying216 ⟨_, _, _, rfl⟩ rfl (by decide)
theorem tok217 : TypeOk Try.prog 217 ti217 := aB (z := (.nilFunc)) (by kernel_rfl) rfl Try.underlying217 ⟨_, _, _, rfl⟩ rfl (by decide)
theorem tok218 : TypeOk Try.prog 218 ti218 := aB (z := (.nilFunc)) (by kernel_rfl) rfl Try.underlying218 ⟨_, _, _, rfl⟩ rfl (by decide)
theorem tok219 : TypeOk Try.prog 219 ti219 := aB (z := (.nilFunc)) (by kernel_rfl) rfl Try.underlying219 ⟨_, _, _, rfl⟩ rfl (by decide)
theorem tok220 : TypeOk Try.prog 220 ti220 := aB (z := (.nilFunc)) (by kernel_rfl) rfl Try.underlying220 ⟨_, _, _, rfl⟩ rfl (by decide)
theorem tok221 : TypeOk Try.prog 221 ti221 := aB (z := (.nilFunc)) (by kernel_rfl) rfl Try.underlying221 ⟨_, _, _, rfl⟩ rfl (by decide)
theorem tok222 : TypeOk Try.prog 222 ti222 := aB (z := (.nilFunc)) (by kernel_rfl) rfl Try.underlying222 ⟨_, _, _, rfl⟩ rfl (by decide)
theorem tok223 : TypeOk Try.prog 223 ti223 := aB (z := (.nilFunc)) (by kernel_rfl) rfl Try.underlying223 ⟨_, _, _, rfl⟩ rfl (by decide)
theorem tok224 : TypeOk Try.prog 224 ti224 := aB (z := (.nilFunc)) (by kernel_rfl) rfl Try.underlying224 ⟨_, _, _, rfl⟩ rfl (by decide)
theorem tok225 : TypeOk Try.prog 225 ti225 := aB (z := (.nilFunc)) (by kernel_rfl) rfl Try.underlying225 ⟨_, _, _, rfl⟩ rfl (by decide)
theorem tok226 : TypeOk Try.prog 226 ti226 := aB (z := (.nilFunc)) (by kernel_rfl) rfl Try.underlying226 ⟨_, _, _, rfl⟩ rfl (by decide)
theorem tok227 : TypeOk Try.prog 227 ti227 := aB (z := (.nilFunc)) (by kernel_rfl) rfl Try.underlying227 ⟨_, _, _, rfl⟩ rfl (by decide)
theorem tok228 : TypeOk Try.prog 228 ti228 := aB (z := (.nilFunc)) (by kernel_rfl) rfl Try.underlying228 ⟨_, _, _, rfl⟩ rfl (by decide)
theorem tok229 : TypeOk Try.prog 229 ti229 := aB (z := (.nilFunc)) (by kernel_rfl) rfl Try.underlying229 ⟨_, _, _, rfl⟩ rfl (by decide)
theorem tok230 : TypeOk Try.prog 230 ti230 := aB (z := (.nilFunc)) (by kernel_rfl) rfl Try.underlying230 ⟨_, _, _, rfl⟩ rfl (by decide)
theorem tok231 : TypeOk Try.prog 231 ti231 := aB (z := (.nilFunc)) (by kernel_rfl) rfl Try.underlying231 ⟨_, _, _, rfl⟩ rfl (by decide)
theorem tok232 : TypeOk Try.prog 232 ti232 := aB (z := (.nilFunc)) (by kernel_rfl) rfl Try.underlying232 ⟨_, _, _, rfl⟩ rfl (by decide)
theorem tok233 : TypeOk Try.prog 233 ti233 := aB (z := (.nilFunc)) (by kernel_rfl) rfl Try.underlying233 ⟨_, _, _, rfl⟩ rfl (by decide)
theorem tok234 : TypeOk Try.prog 234 ti234 := aB (z := (.nilFunc)) (by kernel_rfl) rfl Try.underlying234 ⟨_, _, _, rfl⟩ rfl (by decide)
theorem tok236 : TypeOk Try.prog 236 ti236 := aB (z := (.nilFunc)) (by kernel_rfl) rfl Try.underlying236 ⟨_, _, _, rfl⟩ rfl (by decide)
theorem tok237 : TypeOk Try.prog 237 ti237 := aB (z := (.nilFunc)) (by kernel_rfl) rfl Try.underlying237 ⟨_, _, _, rfl⟩ rfl (by decide)
theorem tok238 : TypeOk Try.prog 238 ti238 := aB (z := (.nilFunc)) (by kernel_rfl) rfl Try.underlying238 ⟨_, _, _, rfl⟩ rfl (by decide)
theorem tok239 : TypeOk Try.prog 239 ti239 := aB (z := (.nilFunc)) (by kernel_rfl) rfl Try.underlying239 ⟨_, _, _, rfl⟩ rfl (by decide)
theorem tok240 : TypeOk Try.prog 240 ti240 := aB (z := (.nilFunc)) (by kernel_rfl) rfl Try.underlying240 ⟨_, _, _, rfl⟩ rfl (by decide)
theorem tok242 : TypeOk Try.prog 242 ti242 := aB (z := (.nilFunc)) (by kernel_rfl) rfl Try.underlying242 ⟨_, _, _, rfl⟩ rfl (by decide)
theorem tok244 : TypeOk Try.prog 244 ti244 := aB (z := (.nilFunc)) (by kernel_rfl) rfl Try.underlying244 ⟨_, _, _, rfl⟩ rfl (by decide)
theorem tok245 : TypeOk Try.prog 245 ti245 := aB (z := (.nilFunc)) (by kernel_rfl) rfl Try.underlying245 ⟨_, _, _, rfl⟩ rfl (by decide)
theorem tok246 : TypeOk Try.prog 246 ti246 := aB (z := (.nilFunc)) (by kernel_rfl) rfl Try.underlying246 ⟨_, _, _, rfl⟩ rfl (by decide)
theorem tok247 : TypeOk Try.prog 247 ti247 := aB (z := (.nilFunc)) (by kernel_rfl) rfl Try.underlying247 ⟨_, _, _, rfl⟩ rfl (by decide)
theorem tok248 : TypeOk Try.prog 248 ti248 := aB (z := (.nilFunc)) (by kernel_rfl) rfl Try.underlying248 ⟨_, _, _, rfl⟩ rfl (by decide)
theorem tok249 : TypeOk Try.prog 249 ti249 := aB (z := (.nilFunc)) (by kernel_rfl) rfl Try.underlying249 ⟨_, _, _, rfl⟩ rfl (by decide)
theorem tok250 : TypeOk Try.prog 250 ti250 := aB (z := (.nilFunc)) (by kernel_rfl) rfl Try.underlying250 ⟨_, _, _, rfl⟩ rfl (by decide)
theorem tok251 : TypeOk Try.prog 251 ti251 := aB (z := (.nilFunc)) (by kernel_rfl) rfl Try.underlying251 ⟨_, _, _, rfl⟩ rfl (by decide)
theorem tok252 : TypeOk Try.prog 252 ti252 := aB (z := (.nilFunc)) (by kernel_rfl) rfl Try.underlying252 ⟨_, _, _, rfl⟩ rfl (by decide)
theorem tok253 : TypeOk Try.prog 253 ti253 := aB (z := (.nilFunc)) (by kernel_rfl) rfl Try.underlying253 ⟨_, _, _, rfl⟩ rfl (by decide)
theorem tok255 : TypeOk Try.prog 255 ti255 := aB (z := (.nilFunc)) (by kernel_rfl) rfl Try.underlying255 ⟨_, _, _, rfl⟩ rfl (by decide)
theorem tok257 : TypeOk Try.prog 257 ti257 := aB (z := (.nilFunc)) (by kernel_rfl) rfl Try.underlying257 ⟨_, _, _, rfl⟩ rfl (by decide)
theorem tok258 : TypeOk Try.prog 258 ti258 := aB (z := (.nilFunc)) (by kernel_rfl) rfl Try.underlying258 ⟨_, _, _, rfl⟩ rfl (by decide)
theorem tok262 : TypeOk Try.prog 262 ti262 := aB (z := (.nilFunc)) (by kernel_rfl) rfl Try.underlying262 ⟨_, _, _, rfl⟩ rfl (by decide)
theorem tok268 : TypeOk Try.prog 268 ti268 := aB (z := (.int .u8 0)) (by kernel_rfl) rfl Try.underlying268 rfl rfl (by decide)
theorem tok269 : TypeOk Try.prog 269 ti269 := aB (z := (.int .u8 0)) (by kernel_rfl) rfl Try.underlying269 rfl rfl (by decide)
theorem tok270 : TypeOk Try.prog 270 ti270 := aB (z := (.nilFunc)) (by kernel_rfl) rfl Try.underlying270 ⟨_, _, _, rfl⟩ rfl (by decide)
theorem tok272 : TypeOk Try.prog 272 ti272 := aB (z := (.int .i32 0)) (by kernel_rfl) rfl Try.underlying272 rfl rfl (by decide)
theorem tok273 : TypeOk Try.prog 273 ti273 := aB (z := (.int .i32 0)) (by kernel_rfl) rfl Try.underlying273 rfl rfl (by decide)
theorem tok276 : TypeOk Try.prog 276 ti276 := aB (z := (.agg #[.string ⟨#[]⟩])) (by kernel_rfl) rfl Try.underlying276 ⟨_, rfl, rfl⟩ rfl (by decide)
theorem tok277 : TypeOk Try.prog 277 ti277 := aB (z := (.agg #[.string ⟨#[]⟩])) (by kernel_rfl) rfl Try.underlying277 ⟨_, rfl, rfl⟩ rfl (by decide)
def tbl : List (Nat × TI) := [(1, ti1), (2, ti2), (3, ti3), (4, ti4), (5, ti5), (6, ti6), (7, ti7), (8, ti8), (9, ti9), (10, ti10), (11, ti11), (12, ti12), (13, ti13), (14, ti14), (21, ti21), (22, ti22), (23, ti23), (24, ti24), (25, ti25), (26, ti26), (27, ti27), (28, ti28), (29, ti29), (31, ti31), (32, ti32), (33, ti33), (34, ti34), (35, ti35), (36, ti36), (37, ti37), (38, ti38), (39, ti39), (40, ti40), (41, ti41), (43, ti43), (44, ti44), (46, ti46), (47, ti47), (48, ti48), (49, ti49), (51, ti51), (53, ti53), (54, ti54), (55, ti55), (56, ti56), (57, ti57), (58, ti58), (59, ti59), (60, ti60), (61, ti61), (62, ti62), (64, ti64), (66, ti66), (67, ti67), (68, ti68), (70, ti70), (71, ti71), (72, ti72), (73, ti73), (74, ti74), (75, ti75), (76, ti76), (77, ti77), (78, ti78), (80, ti80), (82, ti82), (83, ti83), (84, ti84), (85, ti85), (86, ti86), (88, ti88), (89, ti89), (90, ti90), (91, ti91), (92, ti92), (93, ti93), (94, ti94), (95, ti95), (96, ti96), (97, ti97), (98, ti98), (99, ti99), (100, ti100), (101, ti101), (102, ti102), (103, ti103), (104, ti104), (105, ti105), (106, ti106), (107, ti107), (108, ti108), (109, ti109), (110, ti110), (111, ti111), (112, ti112), (113, ti113), (114, ti114), (115, ti115), (116, ti116), (117, ti117), (118, ti118), (119, ti119), (121, ti121), (122, ti122), (123, ti123), (124, ti124), (125, ti125), (126, ti126), (127, ti127), (129, ti129), (130, ti130), (131, ti131), (132, ti132), (133, ti133), (134, ti134), (135, ti135), (136, ti136), (137, ti137), (138, ti138), (139, ti139), (140, ti140), (141, ti141), (142, ti142), (143, ti143), (144, ti144), (145, ti145), (146, ti146), (147, ti147), (148, ti148), (150, ti150), (152, ti152), (153, ti153), (154, ti154), (155, ti155), (156, ti156), (157, ti157), (158, ti158), (159, ti159), (160, ti160), (162, ti162), (163, ti163), (164, ti164), (166, ti166), (167, ti167), (168, ti168), (169, ti169), (171, ti171), (172, ti172), (173, ti173), (174, ti174), (175, ti175), (176, ti176), (177, ti177), (178, ti178), (179, ti179), (181, ti181), (182, ti182), (183, ti183), (184, ti184), (186, ti186), (187, ti187), (188, ti188), (189, ti189), (191, ti191), (192, ti192), (193, ti193), (194, ti194), (196, ti196), (197, ti197), (199, ti199), (200, ti200), (201, ti201), (202, ti202), (203, ti203), (204, ti204), (205, ti205), (206, ti206), (207, ti207), (208, ti208), (210, ti210), (211, ti211), (212, ti212), (213, ti213), (214, ti214), (215, ti215), (216, ti216), (217, ti217), (218, ti218), (219, ti219), (220, ti220), (221, ti221), (222, ti222), (223, ti223), (224, ti224), (225, ti225), (226, ti226), (227, ti227), (228, ti228), (229, ti229), (230, ti230), (231, ti231), (232, ti232), (233, ti233), (234, ti234), (236, ti236), (237, ti237), (238, ti238), (239, ti239), (240, ti240), (242, ti242), (244, ti244), (245, ti245), (246, ti246), (247, ti247), (248, ti248), (249, ti249), (250, ti250), (251, ti251), (252, ti252), (253, ti253), (255, ti255), (257, ti257), (258, ti258), (262, ti262), (268, ti268), (269, ti269), (270, ti270), (272, ti272), (273, ti273), (276, ti276), (277, ti277)]
def T : TT := getT tbl
theorem typesOk : TypesOk Try.prog T := pB (by simp only [tbl, List.forall_mem_cons]; exact ⟨tok1, tok2, tok3, tok4, tok5, tok6, tok7, tok8, tok9, tok10, tok11, tok12, tok13, tok14, tok21, tok22, tok23, tok24, tok25, tok26, tok27, tok28, tok29, tok31, tok32, tok33, tok34, tok35, tok36, tok37, tok38, tok39, tok40, tok41, tok43, tok44, tok46, tok47, tok48, tok49, tok51, tok53, tok54, tok55, tok56, tok57, tok58, tok59, tok60, tok61, tok62, tok64, tok66, tok67, tok68, tok70, tok71, tok72, tok73, tok74, tok75, tok76, tok77, tok78, tok80, tok82, tok83, tok84, tok85, tok86, tok88, tok89, tok90, tok91, tok92, tok93, tok94, tok95, tok96, tok97, tok98, tok99, tok100, tok101, tok102, tok103, tok104, tok105, tok106, tok107, tok108, tok109, tok110, tok111, tok112, tok113, tok114, tok115, tok116, tok117, tok118, tok119, tok121, tok122, tok123, tok124, tok125, tok126, tok127, tok129, tok130, tok131, tok132, tok133, tok134, tok135, tok136, tok137, tok138, tok139, tok140, tok141, tok142, tok143, tok144, tok145, tok146, tok147, tok148, tok150, tok152, tok153, tok154, tok155, tok156, tok157, tok158, tok159, tok160, tok162, tok163, tok164, tok166, tok167, tok168, tok169, tok171, tok172, tok173, tok174, tok175, tok176, tok177, tok178, tok179, tok181, tok182, tok183, tok184, tok186, tok187, tok188, tok189, tok191, tok192, tok193, tok194, tok196, tok197, tok199, tok200, tok201, tok202, tok203, tok204, tok205, tok206, tok207, tok208, tok210, tok211, tok212, tok213, tok214, tok215, tok216, tok217, tok218, tok219, tok220, tok221, tok222, tok223, tok224, tok225, tok226, tok227, tok228, tok229, tok230, tok231, tok232, tok233, tok234, tok236, tok237, tok238, tok239, tok240, tok242, tok244, tok245, tok246, tok247, tok248, tok249, tok250, tok251, tok252, tok253, tok255, tok257, tok258, tok262, tok268, tok269, tok270, tok272, tok273, tok276, tok277, by simp⟩)
end Go.Proofs.Ytcblgjaomljikaa
namespace Go.Proofs.Ytcblgjaomljikaa
open Go.Ab Go.RowKit
abbrev E0 : TypeId → Bool := fun t => Nat.beq t 28 || Nat.beq t 130 || Nat.beq t 34
theorem jF (k : Nat) (ds : List Nat) (hk : k ≤ 2) (hl : ds.length < 4611686018427387904) : Run Try.prog T E0 (.call 191 [.sl k (ds.map d32)] (.sl (if k = 0 then 0 else 1) ((trim ds).map d32))) := by
 refine aZ Try.func191 J J (cW J) <| Rg 1 J <| Ua J J <| Wn <| aJ <| aY (α := Nat × (List Nat)) (fun ⟨k1, es⟩ => [(0, .sl k1 (es.map d32))]) (fun ⟨k1, es⟩ => []) (fun ⟨k1, es⟩ n => (k1 = k ∨ k = 2 ∧ k1 = 1) ∧ trim es = trim ds ∧ es.length < 4611686018427387904) (fun ⟨k1, es⟩ => es.length) (k, ds) ⟨J, trivial⟩ trivial ⟨.inl J, rfl, hl⟩ ?_
 rintro ⟨k1, es⟩ n hF
 change WC _ _ _ _ _ (_ :: _) ([]) n _
 obtain ⟨hk1, hds, hel⟩ := hF
 refine aC <| Rg 12 J <| Um J J <| aA (bC J J) J <| aA (gE J J) J <| bF (fun h5 => ?_) (fun h5 => ?_)
 rotate_left
 ·refine Um J J <| K1 J J <| K1 J J <| K1 J J <| K1 J J <| K1 J J <| K1 J J <| K1 J J <| aA (bZ J J) J <| Wn <| aU J <| bA <| aP <| aQ J <| Rg 2 J <| Um J J <| Ua J J <| Nk [2] J <| aK <| postW (n := 0) (.inr J) J ?_ (by simp)
  have ht : trim es = es := qJ om
  rw [← hds, ht]
  rcases hk1 with rfl | ⟨rfl, rfl⟩
  ·have : k1 = 0 ∨ k1 = 1 ∨ k1 = 2 := by omega
   rcases this with rfl | rfl | rfl
   ·exact .same _
   ·exact .same _
   ·exact .two _
  ·exact .same _
 refine Um J J <| aH J (dF J) J <| aH J (dF J) J <| aH J (bC J J) J <| aH J (cV J J om) J <| aH J (cK (j := es.length - 1) J J J J om om J) J <| aH J (dX J J J) J <| aH J (fF J J) J <| bF (fun h13 => ?_) (fun h13 => ?_)
 ·refine aA (bS J J) J <| Wn <| aS J <| aG <| cM <| aI (z := 6) J <| Um J J <| Um J J <| aA (bC J J) J <| aA (cV J J om) J <| aA (oSlH (j := es.length - 1) J J J fR J om (by simp)) J <| Ua J J <| Wn <| dE <| aE <| ⟨⟨if k1 = 2 then 1 else k1, es.take (es.length - 1)⟩, ⟨congrArg some ?_, trivial⟩, trivial, ⟨?_, ?_, ?_⟩, ?_⟩
  ·have h9 : es.length - 1 < es.length := by omega
   simp [h9]
  ·split <;> omega
  ·rw [trim_step om om]; exact hds
  ·simp; omega
  ·simp; omega
 refine aA (bS J J) J <| Wn <| aU J <| bA <| aP <| aQ J <| Rg 2 J <| Um J J <| Ua J J <| Nk [2] J <| aK <| postW (n := 0) (.inr J) J ?_ (by simp)
 have ht : trim es = es := qJ om
 rw [← hds, ht]
 rcases hk1 with rfl | ⟨rfl, rfl⟩
 ·have : k1 = 0 ∨ k1 = 1 ∨ k1 = 2 := by omega
  rcases this with rfl | rfl | rfl
  ·exact .same _
  ·exact .same _
  ·exact .two _
 ·exact .same _
theorem hP (v : Int) : Run Try.prog T E0 (.call 145 [lvI v] (.v (.int .i64 v.sign))) := by
 refine aZ Try.func145 J J (cW J) <| Rg 2 J <| bB (dY J J) J <| Ua J J <| Wn <| aJ <| Rg 4 J <| aA (bD J J J J J) J <| aA (aL J J J J J) J <| aA (gE J J) J <| bF (fun h6 => ?_) (fun h6 => ?_)
 ·refine Ua J J <| Wn <| cA J <| Rg 1 J <| Ua J J <| Wn <| aK <| aM <| post (n := 0) (.inr J) J (congrArg (fun z => LV.v (.int .i64 z)) ?_) (by simp)
  exact (Int.sign_eq_one_of_pos ((ia_pos v).1 h6)).symm
 refine Ua J J <| Wn <| bT J <| Rg 4 J <| aA (bD J J J J J) J <| aA (aL J J J J J) J <| aA (cC J J) J <| bF (fun h10 => ?_) (fun h10 => ?_)
 ·refine Ua J J <| Wn <| cA J <| Rg 1 J <| Ua J J <| Wn <| aK <| aM <| post (n := 0) (.inr J) J (congrArg (fun z => LV.v (.int .i64 z)) ?_) (by simp)
  exact (Int.sign_eq_neg_one_of_neg ((rE v).1 h10)).symm
 refine Ua J J <| Wn <| bT J <| bR <| aF <| Rg 1 J <| Ua J J <| Wn <| aK <| post (n := 0) (.inr J) J (congrArg (fun z => LV.v (.int .i64 z)) ?_) (by simp)
 have h1 := ia_pos v
 have h2 := rE v
 have : v = 0 := by omega
 subst this; rfl
theorem nI (v : Int) : Run Try.prog T E0 (.call 182 [lvI v] (lvI (-v))) := by
 have hb := mH v
 refine aZ Try.func182 J J (cW J) <| Rg 2 J <| bB (dY J J) J <| bB (fN J) J <| Wn <| Rg 7 J <| aA (bD J J J J J) J <| aA (aL J J J J J) J <| aA (oN J om) J <| aA (bD J J J J J) J <| aA (aL J J J J J) J <| aA (iA (cs := [_, _]) J J J J J) J <| aW (dA (cs' := [_, _]) J J J J J J J J) <| Wn <| aK <| post (n := 0) (.inr J) J ?_ (by simp)
 simp only [lvI, ia_negate, ik_negate, idg_negate]; rfl
theorem abs_run (v : Int) : Run Try.prog T E0 (.call 206 [lvI v] (lvI v.natAbs)) := by
 refine aZ Try.func206 J J (cW J) <| Rg 2 J <| bB (dY J J) J <| bB (fN J) J <| Wn <| aC <| Rg 3 J <| aA (bD J J J J J) J <| aA (aL J J J J J) J <| aA (cC J J) J <| bF (fun h5 => ?_) (fun h5 => ?_)
 rotate_left
 ·refine Wn <| aU J <| aG <| Rg 2 J <| aA (aL (l := .agg [_, _]) J J J J J) J <| aW (dA (cs' := [_, _]) J J J J J J J J) <| Wn <| aK <| post (n := 0) (.inr J) J ?_ (by simp)
  have h1 := rE v
  have : (v.natAbs : Int) = v := by omega
  rw [this]; rfl
 refine Wn <| aS J <| aC <| Rg 3 J <| aA (aL (l := .agg [_, _]) J J J J J) J <| aA (aN J (nI _) (by simp)) J <| aW (dA (cs' := [_, _]) J J J J J J J J) <| Wn <| bE <| post (n := 0) (.inr J) J ?_ (by simp)
 have h1 := (rE v).1 h5
 have : (v.natAbs : Int) = -v := by omega
 rw [this]; rfl
theorem one_run  : Run Try.prog T E0 (.call 203 [] (lvI 1)) := by
 refine aZ Try.func203 J J (cW J) <| Rg 1 J <| bB (fN J) J <| Wn <| Rg 2 J <| aA (iA (cs := [_, _]) J J J J J) J <| aW (dA (cs' := [_, _]) J J J J J J J J) <| Wn <| aK ?_
 exact post (n := 0) (.inr J) J J (by simp)
theorem lU (v : Int) (hv : -9223372036854775808 ≤ v ∧ v ≤ 9223372036854775807) : Run Try.prog T E0 (.call 66 [.v (.int .i64 v)] (lvI v)) := by
 refine aZ Try.func66 J J (cW J) <| Rg 1 J <| bB (fN J) J <| Wn <| aC <| Rg 6 J <| Um J J <| aA (gE J J) J <| bF (fun h6 => ?_) (fun h6 => ?_)
 rotate_left
 ·refine Um J J <| K1 J J <| K1 J J <| aA (bZ J J) J <| Wn <| aU J <| aG <| Rg 1 J <| Ua J J <| Wn <| Rg 3 J <| Um J J <| aA (cI (v % 18446744073709551616) (bW J J J) (IntKind.wrap_u64 _)) J <| Ua J J <| Wn <| aC <| Rg 2 J <| Um J J <| aA (cC J J) J <| bF (fun h16 => ?_) (fun h16 => ?_)
  rotate_left
  ·refine Wn <| aU J <| aG <| Rg 9 J <| Um J J <| Um J J <| aA (cI (((v.natAbs % 4294967296 : Nat) : Int)) (bW J J J) (by rw [IntKind.wrap_u32]; omega)) J <| Um J J <| aA (cI (((v.natAbs / 4294967296 : Nat) : Int)) (dR (s := 32) J J om) om) J <| aA (cI (((v.natAbs / 4294967296 : Nat) : Int)) (bW J J J) (by rw [IntKind.wrap_u32]; omega)) J <| aA (dK (cs := [_, _]) (rows := [[_], [_]]) J J (by decide) J J J) J <| aA (iA (cs := [_, _]) J J J J J) J <| aW (dA (cs' := [_, _]) J J J J J J J J) <| Nk [2] J <| aK ?_
   omega
  refine Wn <| aS J <| Rg 4 J <| Um J J <| aA (cI (((v.natAbs : Nat) : Int)) (oNeg J) (by rw [IntKind.wrap_u64]; omega)) J <| Ua J J <| Ua J J <| Nk [2,3,4] J <| Rg 9 J <| Um J J <| Um J J <| aA (cI (((v.natAbs % 4294967296 : Nat) : Int)) (bW J J J) (by rw [IntKind.wrap_u32]; omega)) J <| Um J J <| aA (cI (((v.natAbs / 4294967296 : Nat) : Int)) (dR (s := 32) J J om) om) J <| aA (cI (((v.natAbs / 4294967296 : Nat) : Int)) (bW J J J) (by rw [IntKind.wrap_u32]; omega)) J <| aA (dK (cs := [_, _]) (rows := [[_], [_]]) J J (by decide) J J J) J <| aA (iA (cs := [_, _]) J J J J J) J <| aW (dA (cs' := [_, _]) J J J J J J J J) <| Wn <| aK <| postW (n := 0) (l := .agg [_, _]) (.inr J) J ?_ (by simp)
  have hns : ¬ small v := by unfold small; omega
  rw [nE hns, Int.sign_eq_neg_one_of_neg h16, ← two_big (m := v.natAbs) om om]
  exact .int _ _
 refine Um J J <| aH J (dF J) J <| aH J (cC J J) J <| bF (fun h9 => ?_) (fun h9 => ?_)
 ·refine aA (bS J J) J <| Wn <| aS J <| aC <| Rg 3 J <| Um J J <| aA (iA (cs := [_, _]) J J J J J) J <| aW (dA (cs' := [_, _]) J J J J J J J J) <| Wn <| bE <| post (n := 0) (.inr J) J ?_ (by simp)
  rw [gU ⟨h6, h9⟩]; rfl
 refine aA (bS J J) J <| Wn <| aU J <| aG <| Rg 1 J <| Ua J J <| Wn <| Rg 3 J <| Um J J <| aA (cI (v % 18446744073709551616) (bW J J J) (IntKind.wrap_u64 _)) J <| Ua J J <| Wn <| aC <| Rg 2 J <| Um J J <| aA (cC J J) J <| bF (fun h16 => ?_) (fun h16 => ?_)
 rotate_left
 ·refine Wn <| aU J <| aG <| Rg 9 J <| Um J J <| Um J J <| aA (cI (((v.natAbs % 4294967296 : Nat) : Int)) (bW J J J) (by rw [IntKind.wrap_u32]; omega)) J <| Um J J <| aA (cI (((v.natAbs / 4294967296 : Nat) : Int)) (dR (s := 32) J J om) om) J <| aA (cI (((v.natAbs / 4294967296 : Nat) : Int)) (bW J J J) (by rw [IntKind.wrap_u32]; omega)) J <| aA (dK (cs := [_, _]) (rows := [[_], [_]]) J J (by decide) J J J) J <| aA (iA (cs := [_, _]) J J J J J) J <| aW (dA (cs' := [_, _]) J J J J J J J J) <| Nk [2] J <| aK <| postW (n := 0) (l := .agg [_, _]) (.inr J) J ?_ (by simp)
  have hns : ¬ small v := by unfold small; omega
  rw [nE hns, Int.sign_eq_one_of_pos om, ← two_big (m := v.natAbs) om om]
  exact .int _ _
 refine Wn <| aS J <| Rg 4 J <| Um J J <| aA (cI (((v.natAbs : Nat) : Int)) (oNeg J) (by rw [IntKind.wrap_u64]; omega)) J <| Ua J J <| Ua J J <| Nk [2,3,4] J <| Rg 9 J <| Um J J <| Um J J <| aA (cI (((v.natAbs % 4294967296 : Nat) : Int)) (bW J J J) (by rw [IntKind.wrap_u32]; omega)) J <| Um J J <| aA (cI (((v.natAbs / 4294967296 : Nat) : Int)) (dR (s := 32) J J om) om) J <| aA (cI (((v.natAbs / 4294967296 : Nat) : Int)) (bW J J J) (by rw [IntKind.wrap_u32]; omega)) J <| aA (dK (cs := [_, _]) (rows := [[_], [_]]) J J (by decide) J J J) J <| aA (iA (cs := [_, _]) J J J J J) J <| aW (dA (cs' := [_, _]) J J J J J J J J) <| Wn <| aK <| postW (n := 0) (l := .agg [_, _]) (.inr J) J ?_ (by simp)
 have hns : ¬ small v := by unfold small; omega
 rw [nE hns, Int.sign_eq_neg_one_of_neg h16, ← two_big (m := v.natAbs) om om]
 exact .int _ _
theorem int_run (v b : Int) (hb : 0 ≤ b ∧ b < 4611686018427387904) : Run Try.prog T E0 (.call 69 [lvI v, .v (.int .i64 b)] (.tup [.v (.int .i64 (if -b ≤ v ∧ v ≤ b then v else 0)), .v (.bool (decide (-b ≤ v ∧ v ≤ b)))])) := by
 refine aZ Try.func69 J J (cW J) <| Rg 3 J <| bB (dY J J) J <| Ua J J <| Ua J J <| Wn <| aC <| Rg 16 J <| aA (bD J J J J J) J <| aA (aL J J J J J) J <| aA (oNilN J J) J <| dH (fun h8 => ?_) (fun h8 => ?_)
 ·refine Um J J <| K1 J J <| K1 J J <| K1 J J <| K1 J J <| aA (bS J J) J <| Um J J <| K1 J J <| K1 J J <| K1 J J <| K1 J J <| K1 J J <| aA (bS J J) J <| Nk [2,21] J <| aS J <| aC <| Rg 2 J <| Ua J J <| Ua J J <| Wn <| bE <| post (n := 0) (.inr J) J ?_ (by simp)
  have hs := ik_eq'.1 h8
  have hn : ¬ (-b ≤ v ∧ v ≤ b) := by unfold small at hs; omega
  rw [if_neg hn, decide_eq_false hn]; rfl
 refine Um J J <| aH J (bD J J J J J) J <| aH J (aL J J J J J) J <| aH J (dF J) J <| aH J (gE J J) J <| bF (fun h13 => ?_) (fun h13 => ?_)
 ·refine aA (bZ J J) J <| Um J J <| K1 J J <| K1 J J <| K1 J J <| K1 J J <| K1 J J <| aA (bS J J) J <| Nk [2,21] J <| aS J <| aC <| Rg 2 J <| Ua J J <| Ua J J <| Wn <| bE <| post (n := 0) (.inr J) J ?_ (by simp)
  have hs := cU (oG.1 h8)
  have hn : ¬ (-b ≤ v ∧ v ≤ b) := by omega
  rw [if_neg hn, decide_eq_false hn]; rfl
 refine aA (bZ J J) J <| Um J J <| aH J (bD J J J J J) J <| aH J (aL J J J J J) J <| aH J (dF J) J <| aH J (oN J om) J <| aH J (cC J J) J <| bF (fun h20 => ?_) (fun h20 => ?_)
 ·refine aA (bZ J J) J <| Nk [2,21] J <| aS J <| aC <| Rg 2 J <| Ua J J <| Ua J J <| Wn <| bE <| post (n := 0) (.inr J) J ?_ (by simp)
  have hs := cU (oG.1 h8)
  have hn : ¬ (-b ≤ v ∧ v ≤ b) := by omega
  rw [if_neg hn, decide_eq_false hn]; rfl
 refine aA (bZ J J) J <| Nk [2,21] J <| aU J <| aG <| Rg 4 J <| aA (bD J J J J J) J <| aA (aL J J J J J) J <| Ua J J <| Ua J J <| Wn <| aK <| post (n := 0) (.inr J) J ?_ (by simp)
 have hs := cU (oG.1 h8)
 have hn : -b ≤ v ∧ v ≤ b := by omega
 rw [if_pos hn, decide_eq_true hn]
 exact congrArg (fun z => LV.tup [.v (.int .i64 z), .v (.bool true)]) hs
theorem eC (v : Int) : Run Try.prog T E0 (.call 139 [lvI v] (.tup [.v (.int .i64 v.sign), .sl 1 ((dgs B32 v.natAbs).map d32)])) := by
 have hb := mH v
 refine aZ Try.func139 J J (cW J) <| Rg 3 J <| bB (dY J J) J <| Ua J J <| Ua J J <| Wn <| aC <| Rg 3 J <| aA (bD J J J J J) J <| aA (aL J J J J J) J <| aA (oNilN J J) J <| dH (fun h8 => ?_) (fun h8 => ?_)
 ·refine Wn <| aS J <| aC <| cH (z := 6) J kR <| aO (bD J J J J J) J <| aO (aL J J J J J) J <| aO (bD J J J J J) J <| aO (aL J J J J J) J <| aO (fZ J) J <| aO (fZ J) J <| bY (bH kR) J <| bE <| post (n := 0) (.inr J) J ?_ (by simp)
  have hs := ik_eq'.1 h8
  rw [lO hs, ik_big hs, idg_big hs]; rfl
 have hs := oG.1 h8
 have hia := cU hs
 refine Wn <| aU J <| aG <| Rg 2 J <| Ua J J <| Ua J J <| Wn <| aJ <| Rg 4 J <| aA (bD J J J J J) J <| aA (aL J J J J J) J <| aA (gE J J) J <| bF (fun h16 => ?_) (fun h16 => ?_)
 ·refine Ua J J <| Wn <| cA J <| fC (z := 5) J kR <| aO (bD J J J J J) J <| aO (aL J J J J J) J <| aO (cI (((v.natAbs : Nat) : Int)) (bW J J J) (by rw [IntKind.wrap_u64]; omega)) J <| aO (fZ J) J <| aO (fZ J) J <| bY (bH kR) J <| aF <| Ck [4,5] J <| Rg 10 J <| Um J J <| Um J J <| aA (cI (((v.natAbs % 4294967296 : Nat) : Int)) (bW J J J) (by rw [IntKind.wrap_u32]; omega)) J <| Um J J <| aA (cI (((v.natAbs / 4294967296 : Nat) : Int)) (dR (s := 32) J J om) om) J <| aA (cI (((v.natAbs / 4294967296 : Nat) : Int)) (bW J J J) (by rw [IntKind.wrap_u32]; omega)) J <| aA (dK (cs := [_, _]) (rows := [[_], [_]]) J J (by decide) J J J) J <| aA (aN J (jF 2 [v.natAbs % 4294967296, v.natAbs / 4294967296] om (by simp)) (by simp)) J <| Ua J J <| Ua J J <| dZ ?_
  refine aK <| post (n := 0) (.inr J) J ?_ (by simp)
  rw [← two_dg (m := v.natAbs) om, Int.sign_eq_one_of_pos om]; rfl
 refine Ua J J <| Wn <| bT J <| Rg 4 J <| aA (bD J J J J J) J <| aA (aL J J J J J) J <| aA (cC J J) J <| bF (fun h23 => ?_) (fun h23 => ?_)
 rotate_left
 ·refine Ua J J <| Nk [1,4,5,20] J <| bT J <| bR <| aF <| Rg 10 J <| Um J J <| Um J J <| aA (cI (((v.natAbs % 4294967296 : Nat) : Int)) (bW J J J) (by rw [IntKind.wrap_u32]; omega)) J <| Um J J <| aA (cI (((v.natAbs / 4294967296 : Nat) : Int)) (dR (s := 32) J J om) om) J <| aA (cI (((v.natAbs / 4294967296 : Nat) : Int)) (bW J J J) (by rw [IntKind.wrap_u32]; omega)) J <| aA (dK (cs := [_, _]) (rows := [[_], [_]]) J J (by decide) J J J) J <| aA (aN J (jF 2 [v.natAbs % 4294967296, v.natAbs / 4294967296] om (by simp)) (by simp)) J <| Ua J J <| Ua J J <| Wn <| aK <| post (n := 0) (.inr J) J ?_ (by simp)
  have h0 : v = 0 := by omega
  rw [← two_dg (m := v.natAbs) om]
  subst h0; rfl
 refine Ua J J <| Nk [1,4,5,20] J <| cA J <| fC (z := 6) J kR <| aO (bD J J J J J) J <| aO (aL J J J J J) J <| aO (oN J om) J <| aO (cI (((v.natAbs : Nat) : Int)) (bW J J J) (by rw [IntKind.wrap_u64]; omega)) J <| aO (fZ J) J <| aO (fZ J) J <| bY (bH kR) J <| aF <| Rg 10 J <| Um J J <| Um J J <| aA (cI (((v.natAbs % 4294967296 : Nat) : Int)) (bW J J J) (by rw [IntKind.wrap_u32]; omega)) J <| Um J J <| aA (cI (((v.natAbs / 4294967296 : Nat) : Int)) (dR (s := 32) J J om) om) J <| aA (cI (((v.natAbs / 4294967296 : Nat) : Int)) (bW J J J) (by rw [IntKind.wrap_u32]; omega)) J <| aA (dK (cs := [_, _]) (rows := [[_], [_]]) J J (by decide) J J J) J <| aA (aN J (jF 2 [v.natAbs % 4294967296, v.natAbs / 4294967296] om (by simp)) (by simp)) J <| Ua J J <| Ua J J ?_
 refine Nk [2,3] J <| aK <| post (n := 0) (.inr J) J ?_ (by simp)
 rw [← two_dg (m := v.natAbs) om, Int.sign_eq_neg_one_of_neg om]; rfl
theorem gS (x y c : Nat) (hx : x < 4294967296) (hy : y < 4294967296) (hc : c ≤ 1) : Run Try.prog T E0 (.call 192 [.v (.int .u32 (x : Int)), .v (.int .u32 (y : Int)), .v (.int .u32 (c : Int))] (.tup [.v (.int .u32 (((x + y + c) % 4294967296 : Nat) : Int)), .v (.int .u32 (((x + y + c) / 4294967296 : Nat) : Int))])) := by
 refine aZ Try.func192 J J (cW J) <| Rg 2 J <| Ua J J <| Ua J J <| Wn <| Rg 9 J <| Um J J <| aA (cI ((x : Int)) (bW J J J) (by rw [IntKind.wrap_u64]; omega)) J <| Um J J <| aA (cI ((y : Int)) (bW J J J) (by rw [IntKind.wrap_u64]; omega)) J <| aA (cI (((x + y : Nat) : Int)) (gW J J) om) J <| Um J J <| aA (cI ((c : Int)) (bW J J J) (by rw [IntKind.wrap_u64]; omega)) J <| aA (cI (((x + y + c : Nat) : Int)) (gW J J) om) J <| Ua J J <| Wn <| Rg 3 J <| Um J J <| aA (cI ((((x + y + c) % 4294967296 : Nat) : Int)) (bW J J J) (by rw [IntKind.wrap_u32]; omega)) J <| Ua J J <| Nk [6,8] J <| Rg 4 J <| Um J J ?_
 refine aA (cI ((((x + y + c) / 4294967296 : Nat) : Int)) (dR (s := 32) J J om) om) J <| aA (cI ((((x + y + c) / 4294967296 : Nat) : Int)) (bW J J J) (by rw [IntKind.wrap_u32]; omega)) J <| Ua J J <| Wn <| aK ?_
 exact post (n := 0) (.inr J) J J (by simp)
theorem iW (k1 k2 : Nat) (xs ys : List Nat) (hx : Dg B32 xs) (hy : Dg B32 ys) (tx : Trm xs) (ty : Trm ys) (lx : xs.length < 4611686018427387904) (ly : ys.length < 4611686018427387904) : Run Try.prog T E0 (.call 142 [.sl k1 (xs.map d32), .sl k2 (ys.map d32)] (.v (.int .i64 ((val B32 xs : Int) - val B32 ys).sign))) := by
 refine aZ Try.func142 J J (cW J) <| Rg 1 J <| Ua J J <| Wn <| aC <| Rg 5 J <| Um J J <| aA (bC J J) J <| Um J J <| aA (bC J J) J <| aA (iO J J) J <| bF (fun h10 => ?_) (fun h10 => ?_)
 ·refine Wn <| aS J <| aC <| aC <| Rg 5 J <| Um J J <| aA (bC J J) J <| Um J J <| aA (bC J J) J <| aA (cC J J) J <| bF (fun h15 => ?_) (fun h15 => ?_)
  ·refine Wn <| aS J <| aC <| Rg 1 J <| Ua J J <| Wn <| bE <| post (n := 0) (.inr J) J (congrArg (fun z => LV.v (.int .i64 z)) ?_) (by simp)
   have := eU (B := B32) (by decide) hx ty om
   exact (Int.sign_eq_neg_one_of_neg om).symm
  refine Wn <| aU J <| aG <| aC <| Rg 1 J <| Ua J J <| Wn <| bE <| post (n := 0) (.inr J) J (congrArg (fun z => LV.v (.int .i64 z)) ?_) (by simp)
  have := eU (B := B32) (by decide) hy tx om
  exact (Int.sign_eq_one_of_pos om).symm
 have hlen : xs.length = ys.length := by omega
 refine Wn <| aU J <| aG <| aC <| Rg 4 J <| Um J J <| aA (bC J J) J <| aA (cV J J om) J <| Ua J J <| Wn <| aJ <| aY (α := Nat) (fun k => [(0, .sl k1 (xs.map d32)), (1, .sl k2 (ys.map d32)), (5, .v (.int .i64 ((k : Int) - 1)))]) (fun k => []) (fun k n => k ≤ xs.length ∧ xs.drop k = ys.drop k) (fun k => k) (xs.length) ⟨J, J, J, trivial⟩ trivial ⟨Nat.le_refl _, by rw [List.drop_length, hlen, List.drop_length]⟩ ?_
 rintro k n hF
 change WC _ _ _ _ _ (_ :: _) ([]) n _
 obtain ⟨hk, hd⟩ := hF
 refine aC <| Rg 2 J <| Um J J <| aA (iT J J) J <| bF (fun h20 => ?_) (fun h20 => ?_)
 rotate_left
 ·refine Wn <| aU J <| bA <| aP <| aQ J <| Rg 1 J <| Ua J J <| Wn <| aK <| post (n := 0) (.inr J) J (congrArg (fun z => LV.v (.int .i64 z)) ?_) (by simp)
  have h0 : k = 0 := by omega
  subst h0
  simp only [List.drop_zero] at hd
  subst hd
  simp
 refine Wn <| aS J <| aG <| aJ <| cH (z := 9) J kR <| Dm J J <| Dm J J <| aO (cK (j := k - 1) J J J J om om J) J <| aO (dX J J J) J <| Dm J J <| Dm J J <| aO (cK (j := k - 1) J J J J om om J) J <| aO (dX J J J) J <| aO (iO J J) J <| WD.D (fun h31 => ?_) (fun h31 => ?_)
 rotate_left
 ·refine bY (bH kR) J <| bT J <| bR <| aF <| aI (z := 3) J <| Um J J <| aA (cI (((k - 1 : Nat) : Int) - 1) (cV J J om) om) J <| Ua J J <| Wn <| aE ?_
  have hj : k - 1 + 1 = k := by omega
  refine ⟨k - 1, ⟨J, J, J, trivial⟩, trivial, ⟨om, ?_⟩, by show k - 1 < k; omega⟩
  rw [bU (by omega : k - 1 < xs.length), bU (by omega : k - 1 < ys.length), hj, hd]
  congr 1; omega
 refine bY (bH kR) J <| cA J <| aC <| cH (z := 9) J kR <| Dm J J <| Dm J J <| aO (cK (j := k - 1) J J J J om om J) J <| aO (dX J J J) J <| Dm J J <| Dm J J <| aO (cK (j := k - 1) J J J J om om J) J <| aO (dX J J J) J <| aO (cC J J) J <| WD.D (fun h40 => ?_) (fun h40 => ?_)
 ·refine bY (bH kR) J <| Ck [40] J <| aS J <| aC <| Rg 1 J <| Ua J J <| Wn <| bE <| aM <| bJ <| aM <| post (n := 0) (.inr J) J (congrArg (fun z => LV.v (.int .i64 z)) ?_) (by simp)
  have hj : k - 1 + 1 = k := by omega
  have := qL (B := B32) (ys := ys) (by decide) hx (k := k - 1) om om (by rw [hj]; exact hd) om
  exact (Int.sign_eq_neg_one_of_neg om).symm
 refine bY (bH kR) J <| Ck [40] J <| aU J <| aG <| Rg 1 J <| Ua J J <| Wn <| aK <| aM <| bJ <| aM <| post (n := 0) (.inr J) J (congrArg (fun z => LV.v (.int .i64 z)) ?_) (by simp)
 have hj : k - 1 + 1 = k := by omega
 have := qL (B := B32) (ys := xs) (by decide) hy (k := k - 1) om om (by rw [hj]; exact hd.symm) om
 exact (Int.sign_eq_one_of_pos om).symm
end Go.Proofs.Ytcblgjaomljikaa
namespace Go.Proofs.Ytcblgjaomljikaa
open Go.Ab Go.RowKit
theorem qH (x y c : Nat) (hx : x < 4294967296) (hy : y < 4294967296) (hc : c ≤ 1) : Run Try.prog T E0 (.call 193 [.v (.int .u32 (x : Int)), .v (.int .u32 (y : Int)), .v (.int .u32 (c : Int))] (.tup [.v (.int .u32 ((((x + 8589934592 - y - c) % 4294967296) : Nat) : Int)), .v (.int .u32 ((if x < y + c then 1 else 0 : Nat) : Int))])) := by
 have hxy : x ^^^ y < 4294967296 := Nat.xor_lt_two_pow (n := 32) hx hy
 refine aZ Try.func193 J J (cW J) <| Rg 2 J <| Ua J J <| Ua J J <| Wn <| Rg 6 J <| Um J J <| Um J J <| aA (oSub32 J J) J <| Um J J <| aA (cI (((((x + 8589934592 - y - c) % 4294967296) : Nat) : Int)) (oSub32 J J) om) J <| Ua J J <| Wn <| Rg 13 J <| Um J J <| aA (oCom32 (a := x) J hx) J <| Um J J <| aA (eQ (v := .int .u32 (((4294967295 - x) &&& y : Nat) : Int)) J J (and32 om hy)) J <| Um J J <| Um J J <| aA (eQ (v := .int .u32 ((x ^^^ y : Nat) : Int)) J J (xor32 hx hy)) J <| aA (oCom32 (a := x ^^^ y) J hxy) J <| Um J J <| aA (eQ (v := .int .u32 (((4294967295 - (x ^^^ y)) &&& ((x + 8589934592 - y - c) % 4294967296) : Nat) : Int)) J J (and32 om om)) J ?_
 refine aA (eQ (v := .int .u32 ((((4294967295 - x) &&& y) ||| ((4294967295 - (x ^^^ y)) &&& ((x + 8589934592 - y - c) % 4294967296)) : Nat) : Int)) J J (or32 (Nat.lt_of_le_of_lt Nat.and_le_right hy) (Nat.lt_of_le_of_lt Nat.and_le_left om))) J <| aA (cI (((if x < y + c then 1 else 0 : Nat) : Int)) (rK (s := 31) J J om) (by rw [← borrow hx hy hc (d := ((x + 8589934592 - y - c) % 4294967296)) om]; rfl)) J <| Ua J J <| Nk [6,7] J <| aK ?_
 exact post (n := 0) (.inr J) J J (by simp)
theorem plus_run (k1 k2 : Nat) (xs ys : List Nat) (hx : Dg B32 xs) (hy : Dg B32 ys) (lx : xs.length < 1099511627776) (ly : ys.length < 1099511627776) : ∃ r, Run Try.prog T E0 (.call 141 [.sl k1 (xs.map d32), .sl k2 (ys.map d32)] r) ∧ ∃ ds, r = .sl 1 (ds.map d32) ∧ Dg B32 ds ∧ val B32 ds = val B32 xs + val B32 ys ∧ ds.length ≤ max xs.length ys.length + 1 := by
 refine nH Try.func141 J J (cW J) ?_
 have J3 : ∀ (k1 k2 : Nat) (us ws : List Nat) (hu : Dg B32 us) (hw : Dg B32 ws) (hle : ws.length ≤ us.length) (hm : us.length ≤ max xs.length ys.length) (hs : val B32 us + val B32 ws = val B32 xs + val B32 ys) (n : Nat) , WC Try.prog T E0 Try.f141.ntmps (codeR (codeR (codeOf Try.f141))) [(0, .sl k1 (us.map d32)), (1, .sl k2 (ws.map d32))] [] n (fun x e h n => ∃ r, (∃ ds, r = .sl 1 (ds.map d32) ∧ Dg B32 ds ∧ val B32 ds = val B32 xs + val B32 ys ∧ ds.length ≤ max xs.length ys.length + 1) ∧ Post T Try.f141.results.toList r x e h n) := by
  intro k1 k2 us ws hu hw hle hm hs n
  refine Rg 5 J <| Um J J <| aA (bC J J) J <| aA (aR J J om) J <| bB (oMk (a := 0) (b := us.length + 1) J J J J J J (by decide) om (by show 4 * (us.length + 1) ≤ _; omega) om) J <| Ua J J <| Wn <| Rg 1 J <| Ua J J <| Wn <| aC <| Rg 3 J <| Um J J <| aA (bC J J) J <| Um J J <| Wn <| aJ <| aY (α := Nat × Nat × (List Nat)) (fun ⟨c, q, ds⟩ => [(0, .sl k1 (us.map d32)), (1, .sl k2 (ws.map d32)), (5, .ref q 1 0 ds.length), (6, .v (.int .u32 (c : Int))), (22, .v (.int .i64 (us.length : Int))), (23, .v (.int .i64 (ds.length : Int)))]) (fun ⟨c, q, ds⟩ => [(q, { cells := (ds.map d32).flatten, sz := 1, elem := 189, st := 0 })]) (fun ⟨c, q, ds⟩ n => ds.length ≤ us.length ∧ Dg B32 ds ∧ c ≤ 1 ∧ val B32 ds + B32 ^ ds.length * c = val B32 (us.take ds.length) + val B32 (ws.take ds.length)) (fun ⟨c, q, ds⟩ => us.length - ds.length) (0, n + 3, []) ⟨J, J, J, J, J, J, trivial⟩ ⟨g0, trivial⟩ ⟨Nat.zero_le _, by intro d hd; simp at hd, om, by simp [val]⟩ ?_
  rintro ⟨c, q, ds⟩ n hF
  change WC _ _ _ _ _ (_ :: _) (_ :: _) n _
  obtain ⟨hdl, hdd, hc, hi⟩ := hF
  refine Rg 1 J <| aA (cC J J) J <| bF (fun h24 => ?_) (fun h24 => ?_)
  rotate_left
  ·refine Wn <| aU J <| bA <| aP <| aQ J <| Rg 5 J <| Um J J <| Um J J <| aA (dK (cs := [_]) (rows := [[_]]) J J (by decide) J J J) J <| bB (oApM (f := d32) J J J J J (fun _ => rfl) (by decide) g0 (by show (2 * (ds.length + 1) + 256) * 4 ≤ _; omega) om) J <| Ua J J <| Wn <| aK <| ⟨.sl 1 ((ds ++ [c]).map d32), ⟨_, rfl, hdd.snoc (by show c < 4294967296; omega), ?_, by simp; omega⟩, nN (n := 0) _ (.inr J) J (by simp) g0 (by show (0 : Nat) ≠ 2; decide) J (by decide) J fR cX⟩
   have hl : ds.length = us.length := by omega
   rw [gI, hi, List.take_of_length_le om, List.take_of_length_le om, hs]
  refine Wn <| aS J <| aG <| aJ <| Rg 2 J <| Um J J <| Ua J J <| Wn <| Rg 1 J <| Ua J J <| Wn <| aC <| Rg 4 J <| Um J J <| Um J J <| aA (bC J J) J <| aA (cC J J) J <| bF (fun h29 => ?_) (fun h29 => ?_)
  rotate_left
  ·refine Wn <| aU J <| aG <| Rg 1 J <| Ua J J <| Nk [0,1,5,6,7,8,22,23] J ?_
   have hxl : us.getD ds.length default < 4294967296 := bL hu om
   refine Rg 12 J <| Um J J <| Um J J <| aA (cK J J J J J om J) J <| aA (dX J J J) J <| Um J J <| Um J J <| aA (aN J (gS (us.getD ds.length default) 0 c hxl (by decide) hc) (by simp)) J <| Um J J <| aA (cS J J) J <| aA (cS J J) J <| Ua J J <| Ua J J <| Nk [0,1,5,6,9,22,23] J <| aI (z := 5) J <| Um J J <| Um J J <| aA (dK (cs := [_]) (rows := [[_]]) J J (by decide) J J J) J <| bB (oApM (f := d32) J J J J J (fun _ => rfl) (by decide) g0 (by show (2 * (ds.length + 1) + 256) * 4 ≤ _; omega) om) J <| Ua J J <| Wn <| aF <| aI (z := 2) J ?_
   refine aA (cI (((ds.length + 1 : Nat) : Int)) (aR J J om) om) J <| Um J J <| Wn <| aE <| ⟨⟨_, _, ds ++ [_]⟩, ⟨rfl, rfl, rfl, rfl, rfl, congrArg some (by simp), trivial⟩, ⟨g0, trivial⟩, ⟨by simp; omega, hdd.snoc (Nat.mod_lt _ (by decide)), om, qA hi J (getD_out om).symm⟩, by simp; omega⟩
  refine Wn <| aS J <| Rg 5 J <| Um J J <| Um J J <| aA (cK J J J J J om J) J <| aA (dX J J J) J <| Ua J J <| Nk [0,1,5,6,7,8,22,23] J <| Rg 1 J <| Ua J J <| dZ ?_
  have hxl : us.getD ds.length default < 4294967296 := bL hu om
  have hyl : ws.getD ds.length default < 4294967296 := bL hw om
  refine Rg 12 J <| Um J J <| Um J J <| aA (cK J J J J J om J) J <| aA (dX J J J) J <| Um J J <| Um J J <| aA (aN J (gS (us.getD ds.length default) (ws.getD ds.length default) c hxl hyl hc) (by simp)) J <| Um J J <| aA (cS J J) J <| aA (cS J J) J <| Ua J J <| Ua J J <| Nk [0,1,5,6,9,22,23] J <| aI (z := 5) J <| Um J J <| Um J J <| aA (dK (cs := [_]) (rows := [[_]]) J J (by decide) J J J) J <| bB (oApM (f := d32) J J J J J (fun _ => rfl) (by decide) g0 (by show (2 * (ds.length + 1) + 256) * 4 ≤ _; omega) om) J <| Ua J J <| Wn <| aF <| aI (z := 2) J ?_
  refine aA (cI (((ds.length + 1 : Nat) : Int)) (aR J J om) om) J <| Um J J <| Wn <| aE <| ⟨⟨_, _, ds ++ [_]⟩, ⟨rfl, rfl, rfl, rfl, rfl, congrArg some (by simp), trivial⟩, ⟨g0, trivial⟩, ⟨by simp; omega, hdd.snoc (Nat.mod_lt _ (by decide)), om, qA hi J J⟩, by simp; omega⟩
 refine Rg 1 J <| Ua J J <| Wn <| aC <| Rg 5 J <| Um J J <| aA (bC J J) J <| Um J J <| aA (bC J J) J <| aA (cC J J) J <| bF (fun h14 => ?_) (fun h14 => ?_)
 rotate_left
 ·refine Wn <| aU J <| aG <| Ck [0,1] J ?_
  exact J3 _ _ xs ys hx hy om om J _
 refine Wn <| aS J <| Rg 4 J <| Um J J <| Um J J <| Ua J J <| Ua J J <| Nk [0,1] J ?_
 exact J3 _ _ ys xs hy hx om om om _
theorem jK (k1 k2 : Nat) (xs ys : List Nat) (hx : Dg B32 xs) (hy : Dg B32 ys) (lx : xs.length < 1099511627776) (hle : ys.length ≤ xs.length) (hv : val B32 ys ≤ val B32 xs) : ∃ r, Run Try.prog T E0 (.call 143 [.sl k1 (xs.map d32), .sl k2 (ys.map d32)] r) ∧ ∃ ds, r = .sl 1 (ds.map d32) ∧ Dg B32 ds ∧ val B32 ds = val B32 xs - val B32 ys ∧ ds.length = xs.length := by
 refine nH Try.func143 J J (cW J) <| Rg 1 J <| Ua J J <| Wn <| Rg 4 J <| Um J J <| aA (bC J J) J <| bB (oMk (a := 0) (b := xs.length) J J J J J J (by decide) om (by show 4 * xs.length ≤ _; omega) om) J <| Ua J J <| Wn <| Rg 1 J <| Ua J J <| Wn <| aC <| Rg 3 J <| Um J J <| aA (bC J J) J <| Um J J <| Wn <| aJ <| aY (α := Nat × Nat × (List Nat)) (fun ⟨c, q, ds⟩ => [(0, .sl k1 (xs.map d32)), (1, .sl k2 (ys.map d32)), (5, .ref q 1 0 ds.length), (6, .v (.int .u32 (c : Int))), (14, .v (.int .i64 (xs.length : Int))), (15, .v (.int .i64 (ds.length : Int)))]) (fun ⟨c, q, ds⟩ => [(q, { cells := (ds.map d32).flatten, sz := 1, elem := 189, st := 0 })]) (fun ⟨c, q, ds⟩ n => ds.length ≤ xs.length ∧ Dg B32 ds ∧ c ≤ 1 ∧ val B32 (xs.take ds.length) + B32 ^ ds.length * c = val B32 ds + val B32 (ys.take ds.length)) (fun ⟨c, q, ds⟩ => xs.length - ds.length) (0, 0 + 1 + 2, []) ⟨J, J, J, J, J, J, trivial⟩ ⟨g0, trivial⟩ ⟨Nat.zero_le _, by intro d hd; simp at hd, om, by simp [val]⟩ ?_
 rintro ⟨c, q, ds⟩ n hF
 change WC _ _ _ _ _ (_ :: _) (_ :: _) n _
 obtain ⟨hdl, hdd, hc, hi⟩ := hF
 refine Rg 1 J <| aA (cC J J) J <| bF (fun h16 => ?_) (fun h16 => ?_)
 rotate_left
 ·refine Wn <| aU J <| bA <| aP <| aQ J <| Rg 2 J <| Um J J <| Ua J J <| Wn <| aK <| ⟨.sl 1 (ds.map d32), ⟨_, rfl, hdd, ?_, om⟩, nN (n := 0) _ (.inr J) J (by simp) g0 (by show (0 : Nat) ≠ 2; decide) J (by decide) J fR cX⟩
  have hl : ds.length = xs.length := by omega
  rw [List.take_of_length_le om, List.take_of_length_le om] at hi
  have hlt := eS (B := B32) (by decide) hdd
  rcases (show c = 0 ∨ c = 1 by omega) with rfl | rfl
  ·omega
  ·omega
 refine Wn <| aS J <| aG <| aJ <| Rg 2 J <| Um J J <| Ua J J <| Wn <| Rg 1 J <| Ua J J <| Wn <| aC <| Rg 4 J <| Um J J <| Um J J <| aA (bC J J) J <| aA (cC J J) J <| bF (fun h21 => ?_) (fun h21 => ?_)
 rotate_left
 ·refine Wn <| aU J <| aG <| Rg 1 J <| Ua J J <| Nk [0,1,5,6,7,8,14,15] J ?_
  have hxl : xs.getD ds.length default < 4294967296 := bL hx om
  refine Rg 12 J <| Um J J <| Um J J <| aA (cK J J J J J om J) J <| aA (dX J J J) J <| Um J J <| Um J J <| aA (aN J (qH (xs.getD ds.length default) 0 c hxl (by decide) hc) (by simp)) J <| Um J J <| aA (cS J J) J <| aA (cS J J) J <| Ua J J <| Ua J J <| Nk [0,1,5,6,9,14,15] J <| aI (z := 5) J <| Um J J <| Um J J <| aA (dK (cs := [_]) (rows := [[_]]) J J (by decide) J J J) J <| bB (oApM (f := d32) J J J J J (fun _ => rfl) (by decide) g0 (by show (2 * (ds.length + 1) + 256) * 4 ≤ _; omega) om) J <| Ua J J <| Wn <| aF <| aI (z := 2) J ?_
  refine aA (cI (((ds.length + 1 : Nat) : Int)) (aR J J om) om) J <| Um J J <| Wn <| aE <| ⟨⟨_, _, ds ++ [_]⟩, ⟨rfl, rfl, rfl, rfl, rfl, congrArg some (by simp), trivial⟩, ⟨g0, trivial⟩, ⟨by simp; omega, hdd.snoc (Nat.mod_lt _ (by decide)), by split <;> omega, oK hi J (getD_out om).symm (by show _ = _ + 4294967296 * _; split <;> omega)⟩, by simp; omega⟩
 refine Wn <| aS J <| Rg 5 J <| Um J J <| Um J J <| aA (cK J J J J J om J) J <| aA (dX J J J) J <| Ua J J <| Nk [0,1,5,6,7,8,14,15] J <| Rg 1 J <| Ua J J <| dZ ?_
 have hxl : xs.getD ds.length default < 4294967296 := bL hx om
 have hyl : ys.getD ds.length default < 4294967296 := bL hy om
 refine Rg 12 J <| Um J J <| Um J J <| aA (cK J J J J J om J) J <| aA (dX J J J) J <| Um J J <| Um J J <| aA (aN J (qH (xs.getD ds.length default) (ys.getD ds.length default) c hxl hyl hc) (by simp)) J <| Um J J <| aA (cS J J) J <| aA (cS J J) J <| Ua J J <| Ua J J <| Nk [0,1,5,6,9,14,15] J <| aI (z := 5) J <| Um J J <| Um J J <| aA (dK (cs := [_]) (rows := [[_]]) J J (by decide) J J J) J <| bB (oApM (f := d32) J J J J J (fun _ => rfl) (by decide) g0 (by show (2 * (ds.length + 1) + 256) * 4 ≤ _; omega) om) J <| Ua J J <| Wn <| aF <| aI (z := 2) J ?_
 refine aA (cI (((ds.length + 1 : Nat) : Int)) (aR J J om) om) J <| Um J J <| Wn <| aE <| ⟨⟨_, _, ds ++ [_]⟩, ⟨rfl, rfl, rfl, rfl, rfl, congrArg some (by simp), trivial⟩, ⟨g0, trivial⟩, ⟨by simp; omega, hdd.snoc (Nat.mod_lt _ (by decide)), by split <;> omega, oK hi J J (by show _ = _ + 4294967296 * _; split <;> omega)⟩, by simp; omega⟩
theorem eE (s : Int) (k : Nat) (ds : List Nat) (hs : s = 1 ∨ s = -1 ∨ s = 0 ∧ val B32 ds = 0) (hk : k = 1 ∨ k = 2) (hd : Dg B32 ds) (hl : ds.length < 4611686018427387904) : Run Try.prog T E0 (.call 140 [.v (.int .i64 s), .sl k (ds.map d32)] (lvI (s * val B32 ds))) := by
 have hkk : (if k = 0 then 0 else 1) = 1 := by rw [if_neg om]
 have htd := trim_dg hd
 have hrun := jF k ds om hl
 rw [hkk] at hrun
 have htl : (trim ds).length ≤ ds.length := by
  unfold trim; simpa using (List.dropWhile_sublist (· == 0) (l := ds.reverse)).length_le
 generalize hes : trim ds = es at *
 refine aZ Try.func140 J J (cW J) <| Rg 1 J <| bB (fN J) J <| Wn <| Rg 3 J <| Um J J <| aA (aN J (hrun) (by simp)) J <| Ua J J <| Wn <| aC <| Rg 3 J <| Um J J <| aA (bC J J) J <| aA (oLeq J J) J <| bF (fun h12 => ?_) (fun h12 => ?_)
 rotate_left
 ·refine Wn <| aU J <| aG <| Rg 4 J <| Um J J <| Um J J <| aA (iA (cs := [_, _]) J J J J J) J <| aW (dA (cs' := [_, _]) J J J J J J J J) <| Wn <| aK <| post (n := 0) (.inr J) J ?_ (by simp)
  have hb := val_big hd (by rw [hes]; omega)
  rw [lvI_made hd (by have : val B32 ds = val 4294967296 ds := rfl; omega) hb, hes]; rfl
 refine Wn <| aS J <| aC <| Rg 1 J <| Ua J J <| Wn <| aC <| aC <| Rg 3 J <| Um J J <| aA (bC J J) J <| Um J J <| Wn <| aJ <| aY (α := Nat × Nat) (fun ⟨i, m⟩ => [(0, .v (.int .i64 s)), (1, .sl 1 (es.map d32)), (4, .ptr 0 0), (5, .v (.int .u64 (m : Int))), (13, .sl 1 (es.map d32)), (14, .v (.int .i64 (es.length : Int))), (15, .v (.int .i64 (i : Int)))]) (fun ⟨i, m⟩ => [(0, { cells := [.v (.int .i64 0), .sl 0 []], sz := 2, elem := 112, st := 0 })]) (fun ⟨i, m⟩ n => i ≤ es.length ∧ m = val B32 (es.take i)) (fun ⟨i, m⟩ => es.length - i) (0, 0) ⟨J, J, J, J, J, J, J, trivial⟩ ⟨J, trivial⟩ ⟨Nat.zero_le _, by simp [val]⟩ ?_
 rintro ⟨i, m⟩ n hF
 change WC _ _ _ _ _ (_ :: _) (_ :: _) n _
 obtain ⟨hi, hm⟩ := hF
 refine Rg 1 J <| aA (cC J J) J <| bF (fun h16 => ?_) (fun h16 => ?_)
 ·refine Wn <| aS J <| aG <| aJ <| Rg 5 J <| Um J J <| aA (cK J J J J J om J) J <| aA (dX J J J) J <| Ua J J <| Ua J J <| dZ ?_
  have hxl : es.getD i default < 4294967296 := bL htd om
  have hml : m < 4294967296 ^ i := by
   have := eS (B := 4294967296) (by decide) (htd.take i)
   rw [List.length_take, Nat.min_eq_left hi] at this
   rw [hm]; exact this
  refine aI (z := 8) J <| Um J J <| Um J J <| aA (cI (((es.getD i default : Nat) : Int)) (bW J J J) (by rw [IntKind.wrap_u64]; omega)) J <| Um J J <| aA (cI (((32 * i : Nat) : Int)) (jX J J om) om) J <| aA (cI (((es.getD i default * 4294967296 ^ i : Nat) : Int)) (pY (s := 32 * i) J J om) (shl_dig om hxl)) J <| aA (eQ (v := .int .u64 ((m + 4294967296 ^ i * es.getD i default : Nat) : Int)) J J (or_dig om hxl hml)) J <| Ua J J <| Wn <| aF <| Ck [0,1,4,5,13,14,15] J <| aI (z := 2) J <| aA (cI (((i + 1 : Nat) : Int)) (aR J J om) om) J <| Um J J <| Wn <| aE <| ⟨⟨i + 1, _⟩, ⟨J, J, J, J, J, J, J, trivial⟩, ⟨J, trivial⟩, ⟨om, ?_⟩, by show es.length - (i + 1) < es.length - i; omega⟩
  rw [cG, hm]
 refine Wn <| aU J <| bA <| aP <| aQ J <| aC <| Rg 2 J <| Um J J <| aA (cC J J) J <| bF (fun h29 => ?_) (fun h29 => ?_)
 rotate_left
 ·refine Wn <| aU J <| aG <| Rg 4 J <| Um J J <| Um J J <| aA (iA (cs := [_, _]) J J J J J) J <| aW (dA (cs' := [_, _]) J J J J J J J J) <| Wn <| aK ?_
  have hE : m = val B32 ds := by
   rw [hm, List.take_of_length_le om, ← hes, pA]
  refine post (n := 0) (.inr J) J ?_ (by simp)
  rw [lvI_made hd om (by show 4611686018427387904 ≤ val B32 ds; omega), hes]; rfl
 refine Wn <| aS J <| aC <| Rg 6 J <| Um J J <| Um J J <| aA (cI ((m : Int)) (bW J J J) (by rw [IntWalk.i64_in _ om])) J <| aA (jX J J (by rcases hs with rfl | rfl | ⟨rfl, _⟩ <;> omega)) J <| aA (iA (cs := [_, _]) J J J J J) J <| aW (dA (cs' := [_, _]) J J J J J J J J) <| Nk [4] J <| bE ?_
 have hE : m = val B32 ds := by
  rw [hm, List.take_of_length_le om, ← hes, pA]
 refine post (n := 0) (.inr J) J ?_ (by simp)
 rw [gU (by unfold small; rw [← hE]; rcases hs with rfl | rfl | ⟨rfl, _⟩ <;> omega), ← hE]; rfl
end Go.Proofs.Ytcblgjaomljikaa
namespace Go.Proofs.Ytcblgjaomljikaa
open Go.Ab Go.RowKit
theorem ia0 {v : Int} (h : v.sign = 0) : v = 0 := Int.sign_eq_zero_iff_zero.1 h
theorem qR (v w : Int) (hv : len32 v < 1099511627775) (hw : len32 w < 1099511627775) : Run Try.prog T E0 (.call 67 [lvI v, lvI w] (lvI (v + w))) := by
 have bv := mH v
 have bw := mH w
 have ev := fA v
 have ew := fA w
 have dv := fU (B := B32) (by decide) v.natAbs
 have dw := fU (B := B32) (by decide) w.natAbs
 have qv := iY (B := B32) (by decide) v.natAbs
 have qw := iY (B := B32) (by decide) w.natAbs
 have tv := dgs_tr (B := B32) (by decide) v.natAbs
 have tw := dgs_tr (B := B32) (by decide) w.natAbs
 have lv : (dgs B32 v.natAbs).length < 1099511627775 := hv
 have lw : (dgs B32 w.natAbs).length < 1099511627775 := hw
 refine aZ Try.func67 J J (cW J) <| Rg 3 J <| bB (dY J J) J <| bB (dY J J) J <| bB (fN J) J <| Wn <| aC <| Rg 8 J <| aA (bD J J J J J) J <| aA (aL J J J J J) J <| aA (mK J J) J <| dH (fun h11 => ?_) (fun h11 => ?_)
 rotate_left
 ·refine Um J J <| K1 J J <| K1 J J <| K1 J J <| aA (bZ J J) J <| Wn <| aU J <| aG <| Rg 7 J <| aA (aL (l := .agg [_, _]) J J J J J) J <| aA (aN J (eC _) (by simp)) J <| Um J J <| aA (cS J J) J <| aA (cS J J) J <| Ua J J <| Ua J J <| Nk [2,3,4,5,6] J <| Rg 7 J <| aA (aL (l := .agg [_, _]) J J J J J) J <| aA (aN J (eC _) (by simp)) J <| Um J J <| aA (cS J J) J <| aA (cS J J) J ?_
  refine Ua J J <| Ua J J <| Wn <| aJ <| Rg 3 J <| Um J J <| aA (fF J J) J <| bF (fun h35 => ?_) (fun h35 => ?_)
  ·refine Ua J J <| Nk [2,3,4,5,6,7,8,33] J <| cA J <| Rg 2 J <| aA (aL (l := .agg [_, _]) J J J J J) J <| aW (dA (cs' := [_, _]) J J J J J J J J) <| Wn <| aK <| aM <| post (n := 0) (.inr J) J ?_ (by simp)
   rw [ia0 h35, Int.zero_add]; rfl
  refine Ua J J <| Nk [2,3,4,5,6,7,8,33] J <| bT J <| Rg 3 J <| Um J J <| aA (fF J J) J <| bF (fun h39 => ?_) (fun h39 => ?_)
  ·refine Ua J J <| Wn <| cA J <| Rg 2 J <| aA (aL (l := .agg [_, _]) J J J J J) J <| aW (dA (cs' := [_, _]) J J J J J J J J) <| Wn <| aK <| aM <| post (n := 0) (.inr J) J ?_ (by simp)
   rw [ia0 h39, Int.add_zero]; rfl
  refine Ua J J <| Wn <| bT J <| Rg 4 J <| Um J J <| Um J J <| aA (fF J J) J <| bF (fun h44 => ?_) (fun h44 => ?_)
  ·refine Ua J J <| Nk [4,5,6,7,8,41] J <| cA J ?_
   have hsv : v.sign = 1 ∨ v.sign = -1 := by rcases Int.sign_trichotomy v with h | h | h <;> omega
   obtain ⟨r, hr, ds, rfl, hdd, hvl, hln⟩ := plus_run 1 1 _ _ qv qw om om
   refine Rg 6 J <| Um J J <| Um J J <| Um J J <| aA (aN J (hr) (by simp)) J <| aA (aN J (eE v.sign 1 ds om (.inl J) hdd om) (by simp)) J <| aW (dA (cs' := [_, _]) J J J J J J J J) <| Wn <| aK <| aM <| post (n := 0) (.inr J) J ?_ (by simp)
   have : v.sign * (val B32 ds : Int) = v + w := by
    rw [hvl, dv, dw]; rcases hsv with h | h <;> rw [h] at ev h44 ⊢ <;> rw [← h44] at ew <;> omega
   rw [this]; rfl
  refine Ua J J <| Nk [4,5,6,7,8,41] J <| bT J <| Rg 5 J <| Um J J <| Um J J <| aA (aN J (iW 1 1 _ _ qv qw tv tw om om) (by simp)) J <| aA (iT J J) J <| bF (fun h54 => ?_) (fun h54 => ?_)
  ·refine Ua J J <| Wn <| cA J ?_
   have hsv : v.sign = 1 ∨ v.sign = -1 := by rcases Int.sign_trichotomy v with h | h | h <;> omega
   have hge : val B32 (dgs B32 w.natAbs) ≤ val B32 (dgs B32 v.natAbs) := by
    rcases Nat.lt_or_ge (val B32 (dgs B32 v.natAbs)) (val B32 (dgs B32 w.natAbs)) with h | h
    ·rw [Int.sign_eq_neg_one_of_neg om] at h54; omega
    ·exact h
   have hll : (dgs B32 w.natAbs).length ≤ (dgs B32 v.natAbs).length := by
    rcases Nat.lt_or_ge (dgs B32 v.natAbs).length (dgs B32 w.natAbs).length with h | h
    ·have := eU (by decide) qv tw h; omega
    ·exact h
   obtain ⟨r, hr, ds, rfl, hdd, hvl, hln⟩ := jK 1 1 _ _ qv qw om hll hge
   refine Rg 6 J <| Um J J <| Um J J <| Um J J <| aA (aN J (hr) (by simp)) J <| aA (aN J (eE v.sign 1 ds om (.inl J) hdd om) (by simp)) J <| aW (dA (cs' := [_, _]) J J J J J J J J) <| Nk [4] J <| aK <| aM <| post (n := 0) (.inr J) J ?_ (by simp)
   have : v.sign * (val B32 ds : Int) = v + w := by
    rw [hvl, dv, dw] at *; rcases hsv with h | h <;> rw [h] at ev h44 ⊢ <;> rcases (show w.sign = 1 ∨ w.sign = -1 by rcases Int.sign_trichotomy w with h | h | h <;> omega) with k | k <;> rw [k] at ew h44 <;> omega
   rw [this]; rfl
  refine Ua J J <| Wn <| bT J <| bR <| aF ?_
  have hsv : w.sign = 1 ∨ w.sign = -1 := by rcases Int.sign_trichotomy w with h | h | h <;> omega
  have hge : val B32 (dgs B32 v.natAbs) ≤ val B32 (dgs B32 w.natAbs) := by
   rcases Nat.lt_or_ge (val B32 (dgs B32 w.natAbs)) (val B32 (dgs B32 v.natAbs)) with h | h
   ·rw [Int.sign_eq_one_of_pos om] at h54; omega
   ·exact h
  have hll : (dgs B32 v.natAbs).length ≤ (dgs B32 w.natAbs).length := by
   rcases Nat.lt_or_ge (dgs B32 w.natAbs).length (dgs B32 v.natAbs).length with h | h
   ·have := eU (by decide) qw tv h; omega
   ·exact h
  obtain ⟨r, hr, ds, rfl, hdd, hvl, hln⟩ := jK 1 1 _ _ qw qv om hll hge
  refine Rg 6 J <| Um J J <| Um J J <| Um J J <| aA (aN J (hr) (by simp)) J <| aA (aN J (eE w.sign 1 ds om (.inl J) hdd om) (by simp)) J <| aW (dA (cs' := [_, _]) J J J J J J J J) <| Nk [4] J <| aK <| post (n := 0) (.inr J) J ?_ (by simp)
  have : w.sign * (val B32 ds : Int) = v + w := by
   rw [hvl, dv, dw] at *; rcases hsv with h | h <;> rw [h] at ew h44 ⊢ <;> rcases (show v.sign = 1 ∨ v.sign = -1 by rcases Int.sign_trichotomy v with h | h | h <;> omega) with k | k <;> rw [k] at ev h44 <;> omega
  rw [this]; rfl
 refine Um J J <| aH J (bD J J J J J) J <| aH J (aL J J J J J) J <| aH J (mK J J) J <| dH (fun h15 => ?_) (fun h15 => ?_)
 ·refine aA (bS J J) J <| Wn <| aS J <| aC <| Rg 7 J <| aA (bD J J J J J) J <| aA (aL J J J J J) J <| aA (bD J J J J J) J <| aA (aL J J J J J) J <| aA (aR J J om) J <| aA (aN J (lU _ om) (by simp)) J <| aW (dA (cs' := [_, _]) J J J J J J J J) <| Nk [4] J <| bE <| post (n := 0) (.inr J) J ?_ (by simp)
  rw [cU (mI.1 h11), cU (mI.1 h15)]; rfl
 refine aA (bS J J) J <| Wn <| aU J <| aG <| Rg 7 J <| aA (aL (l := .agg [_, _]) J J J J J) J <| aA (aN J (eC _) (by simp)) J <| Um J J <| aA (cS J J) J <| aA (cS J J) J <| Ua J J <| Ua J J <| Nk [2,3,4,5,6] J <| Rg 7 J <| aA (aL (l := .agg [_, _]) J J J J J) J <| aA (aN J (eC _) (by simp)) J <| Um J J <| aA (cS J J) J <| aA (cS J J) J <| Ua J J <| Ua J J <| Wn <| aJ ?_
 refine Rg 3 J <| Um J J <| aA (fF J J) J <| bF (fun h35 => ?_) (fun h35 => ?_)
 ·refine Ua J J <| Nk [2,3,4,5,6,7,8,33] J <| cA J <| Rg 2 J <| aA (aL (l := .agg [_, _]) J J J J J) J <| aW (dA (cs' := [_, _]) J J J J J J J J) <| Wn <| aK <| aM <| post (n := 0) (.inr J) J ?_ (by simp)
  rw [ia0 h35, Int.zero_add]; rfl
 refine Ua J J <| Nk [2,3,4,5,6,7,8,33] J <| bT J <| Rg 3 J <| Um J J <| aA (fF J J) J <| bF (fun h39 => ?_) (fun h39 => ?_)
 ·refine Ua J J <| Wn <| cA J <| Rg 2 J <| aA (aL (l := .agg [_, _]) J J J J J) J <| aW (dA (cs' := [_, _]) J J J J J J J J) <| Wn <| aK <| aM <| post (n := 0) (.inr J) J ?_ (by simp)
  rw [ia0 h39, Int.add_zero]; rfl
 refine Ua J J <| Wn <| bT J <| Rg 4 J <| Um J J <| Um J J <| aA (fF J J) J <| bF (fun h44 => ?_) (fun h44 => ?_)
 ·refine Ua J J <| Nk [4,5,6,7,8,41] J <| cA J ?_
  have hsv : v.sign = 1 ∨ v.sign = -1 := by rcases Int.sign_trichotomy v with h | h | h <;> omega
  obtain ⟨r, hr, ds, rfl, hdd, hvl, hln⟩ := plus_run 1 1 _ _ qv qw om om
  refine Rg 6 J <| Um J J <| Um J J <| Um J J <| aA (aN J (hr) (by simp)) J <| aA (aN J (eE v.sign 1 ds om (.inl J) hdd om) (by simp)) J <| aW (dA (cs' := [_, _]) J J J J J J J J) <| Wn <| aK <| aM <| post (n := 0) (.inr J) J ?_ (by simp)
  have : v.sign * (val B32 ds : Int) = v + w := by
   rw [hvl, dv, dw]; rcases hsv with h | h <;> rw [h] at ev h44 ⊢ <;> rw [← h44] at ew <;> omega
  rw [this]; rfl
 refine Ua J J <| Nk [4,5,6,7,8,41] J <| bT J <| Rg 5 J <| Um J J <| Um J J <| aA (aN J (iW 1 1 _ _ qv qw tv tw om om) (by simp)) J <| aA (iT J J) J <| bF (fun h54 => ?_) (fun h54 => ?_)
 ·refine Ua J J <| Wn <| cA J ?_
  have hsv : v.sign = 1 ∨ v.sign = -1 := by rcases Int.sign_trichotomy v with h | h | h <;> omega
  have hge : val B32 (dgs B32 w.natAbs) ≤ val B32 (dgs B32 v.natAbs) := by
   rcases Nat.lt_or_ge (val B32 (dgs B32 v.natAbs)) (val B32 (dgs B32 w.natAbs)) with h | h
   ·rw [Int.sign_eq_neg_one_of_neg om] at h54; omega
   ·exact h
  have hll : (dgs B32 w.natAbs).length ≤ (dgs B32 v.natAbs).length := by
   rcases Nat.lt_or_ge (dgs B32 v.natAbs).length (dgs B32 w.natAbs).length with h | h
   ·have := eU (by decide) qv tw h; omega
   ·exact h
  obtain ⟨r, hr, ds, rfl, hdd, hvl, hln⟩ := jK 1 1 _ _ qv qw om hll hge
  refine Rg 6 J <| Um J J <| Um J J <| Um J J <| aA (aN J (hr) (by simp)) J <| aA (aN J (eE v.sign 1 ds om (.inl J) hdd om) (by simp)) J <| aW (dA (cs' := [_, _]) J J J J J J J J) <| Nk [4] J <| aK <| aM <| post (n := 0) (.inr J) J ?_ (by simp)
  have : v.sign * (val B32 ds : Int) = v + w := by
   rw [hvl, dv, dw] at *; rcases hsv with h | h <;> rw [h] at ev h44 ⊢ <;> rcases (show w.sign = 1 ∨ w.sign = -1 by rcases Int.sign_trichotomy w with h | h | h <;> omega) with k | k <;> rw [k] at ew h44 <;> omega
  rw [this]; rfl
 refine Ua J J <| Wn <| bT J <| bR <| aF ?_
 have hsv : w.sign = 1 ∨ w.sign = -1 := by rcases Int.sign_trichotomy w with h | h | h <;> omega
 have hge : val B32 (dgs B32 v.natAbs) ≤ val B32 (dgs B32 w.natAbs) := by
  rcases Nat.lt_or_ge (val B32 (dgs B32 w.natAbs)) (val B32 (dgs B32 v.natAbs)) with h | h
  ·rw [Int.sign_eq_one_of_pos om] at h54; omega
  ·exact h
 have hll : (dgs B32 v.natAbs).length ≤ (dgs B32 w.natAbs).length := by
  rcases Nat.lt_or_ge (dgs B32 w.natAbs).length (dgs B32 v.natAbs).length with h | h
  ·have := eU (by decide) qw tv h; omega
  ·exact h
 obtain ⟨r, hr, ds, rfl, hdd, hvl, hln⟩ := jK 1 1 _ _ qw qv om hll hge
 refine Rg 6 J <| Um J J <| Um J J <| Um J J <| aA (aN J (hr) (by simp)) J <| aA (aN J (eE w.sign 1 ds om (.inl J) hdd om) (by simp)) J <| aW (dA (cs' := [_, _]) J J J J J J J J) <| Nk [4] J <| aK <| post (n := 0) (.inr J) J ?_ (by simp)
 have : w.sign * (val B32 ds : Int) = v + w := by
  rw [hvl, dv, dw] at *; rcases hsv with h | h <;> rw [h] at ew h44 ⊢ <;> rcases (show v.sign = 1 ∨ v.sign = -1 by rcases Int.sign_trichotomy v with h | h | h <;> omega) with k | k <;> rw [k] at ev h44 <;> omega
 rw [this]; rfl
end Go.Proofs.Ytcblgjaomljikaa
namespace Go.Proofs.Ytcblgjaomljikaa
open Go.Ab Go.RowKit
theorem mul64_run (x y : Nat) (hx : x < 18446744073709551616) (hy : y < 18446744073709551616) : Run Try.prog T E0 (.call 144 [.v (.int .u64 (x : Int)), .v (.int .u64 (y : Int))] (.tup [.v (.int .u64 ((x * y / 18446744073709551616 : Nat) : Int)), .v (.int .u64 ((x * y % 18446744073709551616 : Nat) : Int))])) := by
 obtain ⟨p00, h00⟩ : ∃ p, p = (x % 4294967296) * (y % 4294967296) := ⟨_, rfl⟩
 obtain ⟨p10, h10⟩ : ∃ p, p = (x / 4294967296) * (y % 4294967296) := ⟨_, rfl⟩
 obtain ⟨p01, h01⟩ : ∃ p, p = (x % 4294967296) * (y / 4294967296) := ⟨_, rfl⟩
 obtain ⟨p11, h11⟩ : ∃ p, p = (x / 4294967296) * (y / 4294967296) := ⟨_, rfl⟩
 have b00 := fV (a := x % 4294967296) (b := y % 4294967296) om om
 have b10 := fV (a := x / 4294967296) (b := y % 4294967296) om om
 have b01 := fV (a := x % 4294967296) (b := y / 4294967296) om om
 have b11 := fV (a := x / 4294967296) (b := y / 4294967296) om om
 have hxy := mul_words h00 h10 h01 h11
 rw [← h00] at b00
 rw [← h10] at b10
 rw [← h01] at b01
 rw [← h11] at b11
 refine aZ Try.func144 J J (cW J) <| Rg 2 J <| Ua J J <| Ua J J <| Wn <| Rg 3 J <| Um J J <| aA (eQ (v := .int .u64 ((x % 4294967296 : Nat) : Int)) J J (mask32 hx)) J <| Ua J J <| Wn <| Rg 3 J <| Um J J <| aA (cI (((x / 4294967296 : Nat) : Int)) (dR (s := 32) J J om) om) J <| Ua J J <| Wn <| Rg 3 J <| Um J J <| aA (eQ (v := .int .u64 ((y % 4294967296 : Nat) : Int)) J J (mask32 hy)) J <| Ua J J <| Wn <| Rg 3 J <| Um J J <| aA (cI (((y / 4294967296 : Nat) : Int)) (dR (s := 32) J J om) om) J <| Ua J J ?_
 refine Nk [0,1,6,7,8,9] J <| Rg 4 J <| Um J J <| Um J J <| aA (cI ((p00 : Int)) (jV J J) (by rw [← Int.natCast_mul, ← h00]; omega)) J <| Ua J J <| Wn <| Rg 7 J <| Um J J <| Um J J <| aA (cI ((p10 : Int)) (jV J J) (by rw [← Int.natCast_mul, ← h10]; omega)) J <| Um J J <| aA (cI (((p00 / 4294967296 : Nat) : Int)) (dR (s := 32) J J om) om) J <| aA (cI (((p10 + p00 / 4294967296 : Nat) : Int)) (gW J J) om) J <| Ua J J <| Nk [0,1,6,7,9,11] J <| Rg 3 J <| Um J J <| aA (eQ (v := .int .u64 (((p10 + p00 / 4294967296) % 4294967296 : Nat) : Int)) J J (mask32 om)) J <| Ua J J <| Wn <| Rg 3 J ?_
 refine Um J J <| aA (cI ((((p10 + p00 / 4294967296) / 4294967296 : Nat) : Int)) (dR (s := 32) J J om) om) J <| Ua J J <| Wn <| Rg 6 J <| Um J J <| Um J J <| Um J J <| aA (cI ((p01 : Int)) (jV J J) (by rw [← Int.natCast_mul, ← h01]; omega)) J <| aA (cI ((((p10 + p00 / 4294967296) % 4294967296 + p01 : Nat) : Int)) (gW J J) om) J <| Ua J J <| Nk [0,1,7,9,12,13] J <| Rg 9 J <| Um J J <| Um J J <| aA (cI ((p11 : Int)) (jV J J) (by rw [← Int.natCast_mul, ← h11]; omega)) J <| Um J J <| aA (cI (((p11 + (p10 + p00 / 4294967296) / 4294967296 : Nat) : Int)) (gW J J) om) J <| Um J J <| aA (cI (((((p10 + p00 / 4294967296) % 4294967296 + p01) / 4294967296 : Nat) : Int)) (dR (s := 32) J J om) om) J <| aA (cI (((x * y / 18446744073709551616 : Nat) : Int)) (gW J J) (by rw [hxy]; omega)) J <| Ua J J <| dZ ?_
 refine Ck [0,1,4] J <| Rg 4 J <| Um J J <| Um J J <| aA (cI (((x * y % 18446744073709551616 : Nat) : Int)) (jV J J) (by rw [← Int.natCast_mul]; rfl)) J <| Ua J J <| Wn <| aK ?_
 exact post (n := 0) (.inr J) J J (by simp)
theorem jL (v w : Int) (hv : len32 v < 549755813888) (hw : len32 w < 549755813888) : Run Try.prog T E0 (.call 68 [lvI v, lvI w] (lvI (v * w))) := by
 have bv := mH v
 have bw := mH w
 have ev := fA v
 have ew := fA w
 have evw : v * w = v.sign * w.sign * ((v.natAbs * w.natAbs : Nat) : Int) := by
  rw [Int.natCast_mul]; grind
 obtain ⟨σ, hσ⟩ : ∃ σ, σ = v.sign * w.sign := ⟨_, rfl⟩
 have hs3 : σ = 1 ∨ σ = -1 ∨ σ = 0 ∧ v.natAbs * w.natAbs = 0 := by
  rcases Int.sign_trichotomy v with h | h | h <;> rcases Int.sign_trichotomy w with k | k | k <;> rw [h, k] at hσ <;> simp at hσ <;> first | exact .inl hσ | exact .inr (.inl hσ) | skip
  all_goals (refine .inr (.inr ⟨hσ, ?_⟩); first | (rw [ia0 h]; simp; done) | (rw [ia0 k]; simp))
 rw [← hσ] at evw
 obtain ⟨xs, hxs⟩ : ∃ xs, xs = dgs B32 v.natAbs := ⟨_, rfl⟩
 obtain ⟨ys, hys⟩ : ∃ ys, ys = dgs B32 w.natAbs := ⟨_, rfl⟩
 have dv : val B32 xs = v.natAbs := by rw [hxs]; exact fU (by decide) _
 have dw : val B32 ys = w.natAbs := by rw [hys]; exact fU (by decide) _
 have qv : Dg B32 xs := by rw [hxs]; exact iY (by decide) _
 have qw : Dg B32 ys := by rw [hys]; exact iY (by decide) _
 have lv : xs.length < 549755813888 := by rw [hxs]; exact hv
 have lw : ys.length < 549755813888 := by rw [hys]; exact hw
 refine aZ Try.func68 J J (cW J) ?_
 have J5 : ∀  (n : Nat) (hn : 3 ≤ n), WC Try.prog T E0 Try.f68.ntmps (codeR (codeR (codeOf Try.f68))) [(2, .ptr 0 0), (3, .ptr 1 0), (4, .ptr 2 0)] [(2, { cells := [.v (.int .i64 0), .sl 0 []], sz := 2, elem := 112, st := 0 }), (1, { cells := (lvI w).cells, sz := (lvI w).cells.length, elem := 112, st := 0 }), (0, { cells := (lvI v).cells, sz := (lvI v).cells.length, elem := 112, st := 0 })] n (Post T Try.f68.results.toList (lvI (v * w))) := by
  intro  n hn
  refine Rg 7 J <| aA (aL (l := .agg [_, _]) J J J J J) J <| aA (aN J ((hxs ▸ eC v)) (by simp)) J <| Um J J <| aA (cS J J) J <| aA (cS J J) J <| Ua J J <| Ua J J <| Wn <| Rg 7 J <| aA (aL (l := .agg [_, _]) J J J J J) J <| aA (aN J ((hys ▸ eC w)) (by simp)) J <| Um J J <| aA (cS J J) J <| aA (cS J J) J <| Ua J J <| Ua J J <| Nk [4,7,8,9,10] J <| Rg 7 J <| Um J J <| aA (bC J J) J <| Um J J <| aA (bC J J) J ?_
  refine aA (aR J J om) J <| bB (oMk (a := xs.length + ys.length) (b := xs.length + ys.length) J J J J om om (by decide) om (by show 4 * (xs.length + ys.length) ≤ _; omega) om) J <| Ua J J <| Wn <| aC <| Rg 3 J <| Um J J <| aA (bC J J) J <| Um J J <| Nk [4,7,9,10,11,74,75,76] J <| aJ <| aY (α := Nat × Nat × (List Nat)) (fun ⟨i, q, us⟩ => [(4, .ptr 2 0), (7, .v (.int .i64 v.sign)), (9, .v (.int .i64 w.sign)), (10, .sl 1 (ys.map d32)), (11, .ref q 1 0 us.length), (74, .sl 1 (xs.map d32)), (75, .v (.int .i64 (xs.length : Int))), (76, .v (.int .i64 (i : Int)))]) (fun ⟨i, q, us⟩ => [(q, { cells := (us.map d32).flatten, sz := 1, elem := 189, st := 0 }), (2, { cells := [.v (.int .i64 0), .sl 0 []], sz := 2, elem := 112, st := 0 })]) (fun ⟨i, q, us⟩ n => i ≤ xs.length ∧ us.length = xs.length + ys.length ∧ Dg B32 us ∧ val B32 us = val B32 (xs.take i) * val B32 ys ∧ (∀ j, i + ys.length ≤ j → us.getD j default = 0) ∧ 2 < q) (fun ⟨i, q, us⟩ => xs.length - i) (0, n + 7 + 7 + 5, List.replicate (xs.length + ys.length) 0) ⟨rfl, rfl, rfl, rfl, congrArg some (by rw [List.length_replicate]; rfl), rfl, rfl, rfl, trivial⟩ ⟨g0.trans (by rw [List.map_replicate]; rfl), g1 om J, trivial⟩ ⟨Nat.zero_le _, by simp, by intro d hd; simp at hd; rw [hd.2]; decide, by rw [mA]; simp [val], by intro j _; exact iM _ _, om⟩ ?_
  rintro ⟨i, q, us⟩ n hF
  change WC _ _ _ _ _ (_ :: _) (_ :: _) n _
  obtain ⟨hi, hul, hud, huv, huz, hq⟩ := hF
  refine Rg 1 J <| aA (cC J J) J <| bF (fun h77 => ?_) (fun h77 => ?_)
  rotate_left
  ·refine Wn <| aU J <| bA <| aP <| aQ J ?_
   have hE : val B32 us = v.natAbs * w.natAbs := by
    rw [huv, List.take_of_length_le om, dv, dw]
   refine Rg 6 J <| Um J J <| Um J J <| aA (cI σ (jX J J (by rw [← hσ]; omega)) hσ.symm) J <| Um J J <| bB (lT [.v (.int .i64 σ), .sl 1 (us.map d32)] [(q, { cells := (us.map d32).flatten, sz := 1, elem := 189, st := 1 })] J (eE σ 1 us (by rw [hE]; exact hs3) (.inl J) hud om) (.data (by simp) (.own _ (by simp) g0 (by show (0 : Nat) ≠ 2; decide) J (by decide) (by simp [keys]) J fR cX .nil)) (by intro p hp; simp at hp; subst hp; exact ⟨_, g0, by show (0 : Nat) ≠ 2; decide, rfl⟩)) J <| aW (dA (cs' := [_, _]) J J J (g1 om (g1 om J)) J J J J) <| Wn <| aK <| post (n := 0) (.inr J) J ?_ (by simp)
   rw [evw, ← hE]; rfl
  refine Wn <| aS J <| aG <| aJ <| Rg 5 J <| Um J J <| aA (cK J J J J J om J) J <| aA (dX J J J) J <| Ua J J <| Ua J J <| Wn <| Rg 1 J <| Ua J J <| Nk [4,7,9,10,11,12,13,14,74,75,76] J <| aC <| Rg 3 J <| Um J J <| aA (bC J J) J <| Um J J <| Wn <| aJ <| aY (α := Nat × Nat × (List Nat)) (fun ⟨k, c, us1⟩ => [(4, .ptr 2 0), (7, .v (.int .i64 v.sign)), (9, .v (.int .i64 w.sign)), (10, .sl 1 (ys.map d32)), (11, .ref q 1 0 us1.length), (12, .v (.int .i64 (i : Int))), (13, .v (.int .u32 (xs.getD i default : Int))), (14, .v (.int .u64 (c : Int))), (74, .sl 1 (xs.map d32)), (75, .v (.int .i64 (xs.length : Int))), (76, .v (.int .i64 (i : Int))), (81, .sl 1 (ys.map d32)), (82, .v (.int .i64 (ys.length : Int))), (83, .v (.int .i64 (k : Int)))]) (fun ⟨k, c, us1⟩ => [(q, { cells := (us1.map d32).flatten, sz := 1, elem := 189, st := 0 }), (2, { cells := [.v (.int .i64 0), .sl 0 []], sz := 2, elem := 112, st := 0 })]) (fun ⟨k, c, us1⟩ n => k ≤ ys.length ∧ us1.length = us.length ∧ Dg B32 us1 ∧ c < 4294967296 ∧ val B32 us1 + B32 ^ (i + k) * c = val B32 us + B32 ^ i * (xs.getD i default * val B32 (ys.take k)) ∧ (∀ j, i + k ≤ j → us1.getD j default = us.getD j default)) (fun ⟨k, c, us1⟩ => ys.length - k) (0, 0, us) ⟨J, J, J, J, J, J, J, J, J, J, J, J, J, J, trivial⟩ ⟨g0, g1 om J, trivial⟩ ⟨Nat.zero_le _, rfl, hud, by decide, by simp [val], fun _ _ => rfl⟩ ?_
  rintro ⟨k, c, us1⟩ n hG
  change WC _ _ _ _ _ (_ :: _) (_ :: _) n _
  obtain ⟨hk, hl1, hd1, hc1, hv1, hz1⟩ := hG
  refine Rg 1 J <| aA (cC J J) J <| bF (fun h84 => ?_) (fun h84 => ?_)
  rotate_left
  ·refine Nk [4,7,9,10,11,12,13,14,74,75,76,81,82,83,84] J <| aU J <| bA <| aP <| aQ J <| Ck [4,7,9,10,11,12,14,74,75,76] J <| aI (z := 9) J <| Um J J <| Um J J <| Um J J <| aA (bC J J) J <| aA (cI (((i + ys.length : Nat) : Int)) (aR J J om) om) J <| Um J J <| aA (cI ((c : Int)) (bW J J J) (by rw [IntKind.wrap_u32]; omega)) J <| aA (cZ J J J J J om J) J <| aW (fO (f := d32) (us := us1) c J J J g0 (fun _ => rfl) J J om J) <| Wn <| aF <| Ck [4,7,9,10,11,74,75,76] J <| aI (z := 2) J <| aA (cI (((i + 1 : Nat) : Int)) (aR J J om) om) J <| Um J J <| dZ ?_
   refine aE <| ⟨⟨i + 1, q, us1.set (i + ys.length) c⟩, ⟨rfl, rfl, rfl, rfl, congrArg some (by rw [List.length_set]), rfl, rfl, rfl, trivial⟩, ⟨g0, g1 om (g1 om J), trivial⟩, ⟨om, by rw [List.length_set]; omega, hd1.set _ hc1, ?_, ?_, hq⟩, by show xs.length - (i + 1) < xs.length - i; omega⟩
   ·have hk' : k = ys.length := by omega
    subst hk'
    have h1 := fH (B := B32) us1 (i + ys.length) c om
    rw [hz1 _ (Nat.le_refl _), huz _ (Nat.le_refl _), Nat.mul_zero, Nat.add_zero] at h1
    rw [h1, hv1, huv, cG, List.take_of_length_le (Nat.le_refl _), Nat.add_mul, Nat.mul_assoc]
   ·intro j hj
    rw [fW om, hz1 j om]; exact huz j om
  refine Nk [4,7,9,10,11,12,13,14,74,75,76,81,82,83,84] J <| aS J <| aG <| aJ <| Rg 5 J <| Um J J <| aA (cK J J J J J om J) J <| aA (dX J J J) J <| Ua J J <| Ua J J <| Nk [4,7,9,10,11,12,13,14,15,16,74,75,76,81,82,83] J ?_
  have hp : xs.getD i default < 4294967296 := bL qv om
  have hqk : ys.getD k default < 4294967296 := bL qw om
  have ho : us1.getD (i + k) default < 4294967296 := bL hd1 om
  have hpq := fV hp hqk
  refine Rg 16 J <| Um J J <| Um J J <| aA (cI ((xs.getD i default : Int)) (bW J J J) (by rw [IntKind.wrap_u64]; omega)) J <| Um J J <| aA (cI ((ys.getD k default : Int)) (bW J J J) (by rw [IntKind.wrap_u64]; omega)) J <| aA (cI (((xs.getD i default * ys.getD k default : Nat) : Int)) (jV J J) (by rw [← Int.natCast_mul]; omega)) J <| Um J J <| Um J J <| Um J J <| aA (cI (((i + k : Nat) : Int)) (aR J J om) om) J <| aA (cZ J J J J J om J) J <| aA (gY (f := d32) (us := us1) (j := i + k) J J g0 (fun _ => rfl) J (by decide) om J) J <| aA (cI ((us1.getD (i + k) default : Int)) (bW J J J) (by rw [IntKind.wrap_u64]; omega)) J <| aA (cI (((xs.getD i default * ys.getD k default + us1.getD (i + k) default : Nat) : Int)) (gW J J) om) J <| aA (cI ((((c + (xs.getD i default * ys.getD k default + us1.getD (i + k) default)) : Nat) : Int)) (gW J J) om) J <| Ua J J <| Nk [4,7,9,10,11,12,13,14,15,74,75,76,81,82,83] J <| Rg 8 J <| Um J J <| Um J J <| Um J J <| aA (cI (((i + k : Nat) : Int)) (aR J J om) om) J ?_
  refine Um J J <| aA (cI ((((c + (xs.getD i default * ys.getD k default + us1.getD (i + k) default)) % 4294967296 : Nat) : Int)) (bW J J J) (by rw [IntKind.wrap_u32]; omega)) J <| aA (cZ J J J J J om J) J <| aW (fO (f := d32) (us := us1) ((c + (xs.getD i default * ys.getD k default + us1.getD (i + k) default)) % 4294967296) J J J g0 (fun _ => rfl) J J om J) <| Nk [4,7,9,10,11,12,13,14,74,75,76,81,82,83] J <| aI (z := 3) J <| Um J J <| aA (cI ((((c + (xs.getD i default * ys.getD k default + us1.getD (i + k) default)) / 4294967296 : Nat) : Int)) (dR (s := 32) J J om) om) J <| Ua J J <| Wn <| aF <| Ck [4,7,9,10,11,12,13,14,74,75,76,81,82,83] J <| aI (z := 2) J <| aA (cI (((k + 1 : Nat) : Int)) (aR J J om) om) J <| Um J J <| Wn <| aE <| ⟨⟨k + 1, (c + (xs.getD i default * ys.getD k default + us1.getD (i + k) default)) / 4294967296, us1.set (i + k) ((c + (xs.getD i default * ys.getD k default + us1.getD (i + k) default)) % 4294967296)⟩, ⟨rfl, rfl, rfl, rfl, congrArg some (by rw [List.length_set]), rfl, rfl, rfl, rfl, rfl, rfl, rfl, rfl, rfl, trivial⟩, ⟨g0, g1 om (g1 om J), trivial⟩, ⟨om, by rw [List.length_set]; exact hl1, hd1.set _ (Nat.mod_lt _ (by decide)), om, mul_step hv1 om, ?_⟩, by show ys.length - (k + 1) < ys.length - k; omega⟩
  intro j hj
  rw [fW om]; exact hz1 j om
 refine Rg 3 J <| bB (dY J J) J <| bB (dY J J) J <| bB (fN J) J <| Wn <| aC <| Rg 8 J <| aA (bD J J J J J) J <| aA (aL J J J J J) J <| aA (mK J J) J <| dH (fun h19 => ?_) (fun h19 => ?_)
 rotate_left
 ·refine Um J J <| K1 J J <| K1 J J <| K1 J J <| aA (bZ J J) J <| Wn <| aU J <| aG <| Ck [2,3,4] J ?_
  exact J5 _ om
 refine Um J J <| aH J (bD J J J J J) J <| aH J (aL J J J J J) J <| aH J (mK J J) J <| dH (fun h23 => ?_) (fun h23 => ?_)
 rotate_left
 ·refine aA (bS J J) J <| Wn <| aU J <| aG <| Ck [2,3,4] J ?_
  exact J5 _ om
 refine aA (bS J J) J <| Wn <| aS J <| aC ?_
 have hia := cU (mI.1 h19)
 have hiw := cU (mI.1 h23)
 refine Rg 20 J <| aA (bD J J J J J) J <| aA (aL J J J J J) J <| aA (bD J J J J J) J <| aA (aL J J J J J) J <| aA (oN J om) J <| aA (cI (((v.natAbs : Nat) : Int)) (oMax J J) (by rw [hia]; split <;> omega)) J <| aA (cI (((v.natAbs : Nat) : Int)) (bW J J J) (by rw [IntKind.wrap_u64]; omega)) J <| aA (bD J J J J J) J <| aA (aL J J J J J) J <| aA (bD J J J J J) J <| aA (aL J J J J J) J <| aA (oN J om) J <| aA (cI (((w.natAbs : Nat) : Int)) (oMax J J) (by rw [hiw]; split <;> omega)) J <| aA (cI (((w.natAbs : Nat) : Int)) (bW J J J) (by rw [IntKind.wrap_u64]; omega)) J <| aA (aN J (mul64_run v.natAbs w.natAbs om om) (by simp)) J <| Um J J <| aA (cS J J) J <| aA (cS J J) J <| Ua J J <| Ua J J <| Nk [2,3,4,5,6] J <| aC ?_
 refine Rg 6 J <| Um J J <| aA (fF J J) J <| bF (fun h44 => ?_) (fun h44 => ?_)
 rotate_left
 ·refine Um J J <| K1 J J <| K1 J J <| aA (bZ J J) J <| Wn <| aU J <| aG <| Ck [2,3,4] J ?_
  exact J5 _ om
 refine Um J J <| aH J (dF J) J <| aH J (cC J J) J <| bF (fun h47 => ?_) (fun h47 => ?_)
 rotate_left
 ·refine aA (bS J J) J <| Wn <| aU J <| aG <| Ck [2,3,4] J ?_
  exact J5 _ om
 refine aA (bS J J) J <| Wn <| aS J <| aC <| cH (z := 10) J kR <| aO (aL (l := .agg [_, _]) J J J J J) J <| aO (aN J (hP _) (by simp)) J <| aO (aL (l := .agg [_, _]) J J J J J) J <| aO (aN J (hP _) (by simp)) J <| aO (cI σ (jX J J (by rw [← hσ]; omega)) hσ.symm) J <| Dm J J <| aO (cI (((v.natAbs * w.natAbs : Nat) : Int)) (bW J J J) (by rw [IntWalk.i64_in _ om]; omega)) J <| aO (jX J J (by rcases hs3 with h | h | ⟨h, _⟩ <;> rw [h] <;> omega)) J <| aO (iA (cs := [_, _]) J J J J J) J <| dQ (dA (cs' := [_, _]) J J J J J J J J) <| bY (bH kR) J <| Ck [4] J <| bE <| post (n := 0) (.inr J) J ?_ (by simp)
 rw [evw, gU (by unfold small; rcases hs3 with h | h | ⟨h, _⟩ <;> rw [h] <;> omega)]; rfl
end Go.Proofs.Ytcblgjaomljikaa
namespace Go.Proofs.Ytcblgjaomljikaa
open Go.Ab Go.RowKit
theorem div32_run (hi lo y : Nat) (hh : hi < y) (hl : lo < 4294967296) (hy : y < 4294967296) : Run Try.prog T E0 (.call 223 [.v (.int .u32 (hi : Int)), .v (.int .u32 (lo : Int)), .v (.int .u32 (y : Int))] (.tup [.v (.int .u32 (((hi * 4294967296 + lo) / y : Nat) : Int)), .v (.int .u32 (((hi * 4294967296 + lo) % y : Nat) : Int))])) := by
 have hq : (hi * 4294967296 + lo) / y < 4294967296 := by
  rw [Nat.div_lt_iff_lt_mul om]; have := Nat.mul_le_mul_left 4294967296 (show hi + 1 ≤ y from hh); omega
 have hr : (hi * 4294967296 + lo) % y < y := Nat.mod_lt _ om
 obtain ⟨Q, hQ⟩ : ∃ Q, Q = (hi * 4294967296 + lo) / y := ⟨_, rfl⟩
 obtain ⟨R, hR⟩ : ∃ R, R = (hi * 4294967296 + lo) % y := ⟨_, rfl⟩
 rw [← hQ] at hq
 rw [← hR] at hr
 refine aZ Try.func223 J J (cW J) <| Rg 2 J <| Ua J J <| Ua J J <| Wn <| aC <| Rg 7 J <| Um J J <| aA (iO J J) J <| bF (fun h10 => ?_) (fun h10 => ?_)
 rotate_left
 ·omega
 refine Um J J <| aH J (dF J) J <| aH J (dF J) J <| aH J (oLeq J J) J <| bF (fun h14 => ?_) (fun h14 => ?_)
 ·omega
 refine aA (bS J J) J <| Wn <| aU J <| aG <| Rg 7 J <| Um J J <| aA (cI ((hi : Int)) (bW J J J) (by rw [IntKind.wrap_u64]; omega)) J <| aA (cI (((hi * 4294967296 : Nat) : Int)) (pY (s := 32) J J om) om) J <| Um J J <| aA (cI ((lo : Int)) (bW J J J) (by rw [IntKind.wrap_u64]; omega)) J <| aA (eQ (v := .int .u64 (((hi * 4294967296 + lo) : Nat) : Int)) J J (or_hi om hl)) J <| Ua J J <| Nk [2,8] J <| cH (z := 12) J kR <| Dm J J <| Dm J J <| aO (cI ((y : Int)) (bW J J J) (by rw [IntKind.wrap_u64]; omega)) J <| aO (cI ((Q : Int)) (oQuoU J J om om) (by rw [hQ])) J <| aO (cI ((Q : Int)) (bW J J J) (by rw [IntKind.wrap_u32]; omega)) J <| Dm J J <| Dm J J <| aO (cI ((y : Int)) (bW J J J) (by rw [IntKind.wrap_u64]; omega)) J <| aO (cI ((R : Int)) (oRemU J J om) (by rw [hR])) J ?_
 refine aO (cI ((R : Int)) (bW J J J) (by rw [IntKind.wrap_u32]; omega)) J <| aO (fZ J) J <| aO (fZ J) J <| bY (bH kR) J <| aK ?_
 exact post (n := 0) (.inr J) J (by rw [← hQ, ← hR]; rfl) (by simp)
theorem short_run (k0 : Nat) (xs : List Nat) (y : Nat) (hx : Dg B32 xs) (hy : 0 < y) (hy2 : y < 4294967296) (lx : xs.length < 1099511627776) : ∃ r, Run Try.prog T E0 (.call 220 [.sl k0 (xs.map d32), .v (.int .u32 (y : Int))] r) ∧ ∃ ds rest, r = .tup [.sl 1 (ds.map d32), .v (.int .u32 ((rest : Nat) : Int))] ∧ Dg B32 ds ∧ rest < y ∧ val B32 ds * y + rest = val B32 xs ∧ ds.length = xs.length := by
 refine nH Try.func220 J J (cW J) <| Rg 2 J <| Ua J J <| Ua J J <| Wn <| Rg 4 J <| Um J J <| aA (bC J J) J <| bB (oMk (a := xs.length) (b := xs.length) J J J J om om (by decide) om (by show 4 * xs.length ≤ _; omega) om) J <| Ua J J <| Wn <| Rg 1 J <| Ua J J <| Wn <| aC <| Rg 4 J <| Um J J <| aA (bC J J) J <| aA (cV J J om) J <| Ua J J <| Wn <| aJ <| aY (α := Nat × Nat × (List Nat)) (fun ⟨k, rest, us⟩ => [(0, .sl k0 (xs.map d32)), (1, .v (.int .u32 (y : Int))), (6, .ref (0 + 2 + 2) 1 0 us.length), (7, .v (.int .u32 (rest : Int))), (8, .v (.int .i64 ((k : Int) - 1)))]) (fun ⟨k, rest, us⟩ => [(0 + 2 + 2, { cells := (us.map d32).flatten, sz := 1, elem := 189, st := 0 })]) (fun ⟨k, rest, us⟩ n => k ≤ xs.length ∧ us.length = xs.length ∧ Dg B32 us ∧ rest < y ∧ val B32 (us.drop k) * y + rest = val B32 (xs.drop k)) (fun ⟨k, rest, us⟩ => k) (xs.length, 0, List.replicate xs.length 0) ⟨rfl, rfl, congrArg some (by rw [List.length_replicate]; rfl), rfl, rfl, trivial⟩ ⟨g0.trans (by rw [List.map_replicate]; rfl), trivial⟩ ⟨Nat.le_refl _, by simp, by intro d hd; simp at hd; rw [hd.2]; decide, hy, by simp [val]⟩ ?_
 rintro ⟨k, rest, us⟩ n hF
 change WC _ _ _ _ _ (_ :: _) (_ :: _) n _
 obtain ⟨hk, hul, hud, hrest, huv⟩ := hF
 refine aC <| Rg 2 J <| Um J J <| aA (iT J J) J <| bF (fun h16 => ?_) (fun h16 => ?_)
 rotate_left
 ·refine Wn <| aU J <| bA <| aP <| aQ J <| Rg 4 J <| Um J J <| Um J J <| Ua J J <| Ua J J <| Wn <| aK <| ⟨.tup [.sl 1 (us.map d32), .v (.int .u32 (rest : Int))], ⟨us, rest, rfl, hud, hrest, ?_, hul⟩, postA (n := 0) [(0 + 2 + 2, { cells := (us.map d32).flatten, sz := 1, elem := 189, st := 1 })] (.inr J) J (.own _ (by simp) J (by show (0 : Nat) ≠ 2; decide) J (by decide) (by simp [keys]) J fR cX (.data (by simp) .nil)) (by intro p hp; simp at hp; subst hp; exact ⟨_, rfl, by show (0 : Nat) ≠ 2; decide, rfl⟩)⟩
  have h0 : k = 0 := by omega
  subst h0
  simpa using huv
 refine Wn <| aS J <| aG <| aJ ?_
 have hxl : xs.getD (k - 1) default < 4294967296 := bL hx om
 have hq : (rest * 4294967296 + xs.getD (k - 1) default) / y < 4294967296 := by
  rw [Nat.div_lt_iff_lt_mul hy]; have := Nat.mul_le_mul_left 4294967296 (show rest + 1 ≤ y from hrest); omega
 refine aI (z := 15) J <| Um J J <| Um J J <| Um J J <| Um J J <| Um J J <| aA (cK (j := k - 1) J J J J om om J) J <| aA (dX J J J) J <| Um J J <| aA (aN J (div32_run rest (xs.getD (k - 1) default) y hrest hxl hy2) (by simp)) J <| Um J J <| aA (cS J J) J <| aA (cS J J) J <| aA (cZ (j := k - 1) J J J J om om J) J <| aW (fO (f := d32) (us := us) ((rest * 4294967296 + xs.getD (k - 1) default) / y) J J J g0 (fun _ => rfl) J J om J) <| Ua J J <| Wn <| aF <| Ck [0,1,6,7,8] J <| aI (z := 3) J <| Um J J <| aA (cI (((k - 1 : Nat) : Int) - 1) (cV J J om) om) J <| Ua J J <| dZ ?_
 refine aE ?_
 have hj : k - 1 + 1 = k := by omega
 refine ⟨⟨k - 1, (rest * 4294967296 + xs.getD (k - 1) default) % y, us.set (k - 1) ((rest * 4294967296 + xs.getD (k - 1) default) / y)⟩, ⟨rfl, rfl, congrArg some (by rw [List.length_set]), rfl, rfl, trivial⟩, ⟨g0, trivial⟩, ⟨om, by rw [List.length_set]; exact hul, hud.set _ hq, Nat.mod_lt _ hy, ?_⟩, by show k - 1 < k; omega⟩
 exact short_step hy (by rw [hj]; exact huv) om om
end Go.Proofs.Ytcblgjaomljikaa
namespace Go.Proofs.Ytcblgjaomljikaa
open Go.Ab Go.RowKit
theorem mM (k0 : Nat) (xs : List Nat) (sh : Nat) (hx : Dg B32 xs) (hn : sh < 32) (lx : xs.length < 1099511627776) : ∃ sz len ob, Run Try.prog T E0 (.callO 225 [.sl k0 (xs.map d32), .v (.int .i64 (sh : Int))] (.ref 0 sz 0 len) ob) ∧ ∃ ds, sz = 1 ∧ len = ds.length ∧ ob = { cells := (ds.map d32).flatten, sz := 1, elem := 189, st := 0 } ∧ Dg B32 ds ∧ val B32 ds = val B32 xs * 2 ^ sh ∧ ds.length = xs.length + 1 := by
 have hp : (2 : Nat) ^ sh ≤ 2 ^ 31 := Nat.pow_le_pow_right (by decide) om
 have hp0 : 0 < (2 : Nat) ^ sh := Nat.pow_pos (by decide)
 refine mkcallO Try.func225 J J (cW J) <| Rg 1 J <| Ua J J <| Wn <| Rg 5 J <| Um J J <| aA (bC J J) J <| aA (aR J J om) J <| bB (oMk (a := xs.length + 1) (b := xs.length + 1) J J J J om om (by decide) om (by show 4 * (xs.length + 1) ≤ _; omega) om) J <| Ua J J <| Wn <| aC <| Rg 3 J <| Um J J <| aA (bC J J) J <| Um J J <| Wn <| aJ <| aY (α := Nat × (List Nat)) (fun ⟨i, us⟩ => [(1, .v (.int .i64 (sh : Int))), (5, .ref (0 + 1 + 3) 1 0 us.length), (13, .sl k0 (xs.map d32)), (14, .v (.int .i64 (xs.length : Int))), (15, .v (.int .i64 (i : Int)))]) (fun ⟨i, us⟩ => [(0 + 1 + 3, { cells := (us.map d32).flatten, sz := 1, elem := 189, st := 0 })]) (fun ⟨i, us⟩ n => i ≤ xs.length ∧ us.length = xs.length + 1 ∧ Dg B32 us ∧ val B32 us = val B32 (xs.take i) * 2 ^ sh ∧ (∀ j, i < j → us.getD j default = 0) ∧ us.getD i default < 2 ^ sh) (fun ⟨i, us⟩ => xs.length - i) (0, List.replicate (xs.length + 1) 0) ⟨rfl, congrArg some (by rw [List.length_replicate]; rfl), rfl, rfl, rfl, trivial⟩ ⟨g0.trans (by rw [List.map_replicate]; rfl), trivial⟩ ⟨Nat.zero_le _, by simp, by intro d hd; simp at hd; rw [hd]; decide, by rw [mA]; simp [val], fun j _ => iM _ _, by rw [iM]; exact hp0⟩ ?_
 rintro ⟨i, us⟩ n hF
 change WC _ _ _ _ _ (_ :: _) (_ :: _) n _
 obtain ⟨hi, hul, hud, huv, huz, hlo⟩ := hF
 refine Rg 1 J <| aA (cC J J) J <| bF (fun h16 => ?_) (fun h16 => ?_)
 rotate_left
 ·refine Wn <| aU J <| bA <| aP <| aQ J <| Rg 2 J <| Um J J <| Ua J J <| Wn <| aK <| ⟨1, us.length, _, ⟨us, rfl, rfl, rfl, hud, ?_, hul⟩, .inr J, _, rfl, rfl, rfl, rfl, by intro c hc; obtain ⟨row, hr, hc⟩ := List.mem_flatten.1 hc; exact cX row hr c hc⟩
  rw [huv, List.take_of_length_le om]
 refine Wn <| aS J <| aG <| aJ <| Rg 5 J <| Um J J <| aA (cK J J J J J om J) J <| aA (dX J J J) J <| Ua J J <| Ua J J <| dZ ?_
 have hxl : xs.getD i default < 4294967296 := bL hx om
 have hw : (xs.getD i default * 2 ^ sh) < 9223372036854775808 := by
  have := Nat.mul_lt_mul_of_lt_of_le hxl hp (by decide); omega
 have hor := shift_or hn hlo hxl
 have hhi := shift_hi (n := sh) hxl
 have hol : us.getD i default < 4294967296 := by omega
 refine Rg 5 J <| Um J J <| aA (cI ((xs.getD i default : Int)) (bW J J J) (by rw [IntKind.wrap_u64]; omega)) J <| Um J J <| aA (cI ((((xs.getD i default * 2 ^ sh) : Nat) : Int)) (pY (s := sh) J J om) (by rw [show ((xs.getD i default : Nat) : Int) * 2 ^ sh = (((xs.getD i default * 2 ^ sh) : Nat) : Int) by simp]; omega)) J <| Ua J J <| Nk [1,5,6,8,13,14,15] J <| Rg 9 J <| Um J J <| Um J J <| aA (cZ J J J J J om J) J <| aA (gY (f := d32) (us := us) (j := i) J J g0 (fun _ => rfl) J (by decide) om J) J <| Um J J <| aA (cI ((((xs.getD i default * 2 ^ sh) % 4294967296 : Nat) : Int)) (bW J J J) (by rw [IntKind.wrap_u32]; omega)) J <| aA (eQ (v := .int .u32 (((us.getD i default + (xs.getD i default * 2 ^ sh) % 4294967296) : Nat) : Int)) J J ((or32 hol om).trans (by rw [hor.1]))) J <| aA (cZ J J J J J om J) J <| aW (fO (f := d32) (us := us) (us.getD i default + (xs.getD i default * 2 ^ sh) % 4294967296) J J J g0 (fun _ => rfl) J J om J) <| Nk [1,5,6,8,13,14,15] J <| aI (z := 8) J <| Um J J <| Um J J <| aA (cI (((i + 1 : Nat) : Int)) (aR J J om) om) J ?_
 refine Um J J <| aA (cI ((((xs.getD i default * 2 ^ sh) / 4294967296 : Nat) : Int)) (dR (s := 32) J J om) om) J <| aA (cI ((((xs.getD i default * 2 ^ sh) / 4294967296 : Nat) : Int)) (bW J J J) (by rw [IntKind.wrap_u32]; omega)) J <| aA (cZ J J J J J om J) J <| aW (fO (f := d32) (us := us.set i (us.getD i default + (xs.getD i default * 2 ^ sh) % 4294967296)) ((xs.getD i default * 2 ^ sh) / 4294967296) J J J g0 (fun _ => rfl) J J (by rw [List.length_set]; omega) J) <| Wn <| aF <| aI (z := 2) J <| aA (cI (((i + 1 : Nat) : Int)) (aR J J om) om) J <| Um J J <| Wn <| aE <| ⟨⟨i + 1, (us.set i (us.getD i default + (xs.getD i default * 2 ^ sh) % 4294967296)).set (i + 1) ((xs.getD i default * 2 ^ sh) / 4294967296)⟩, ⟨rfl, congrArg some (by rw [List.length_set, List.length_set]), rfl, rfl, rfl, trivial⟩, ⟨g0, trivial⟩, ⟨om, by rw [List.length_set, List.length_set]; exact hul, (hud.set _ hor.2).set _ (by show _ < 4294967296; omega), shift_step (by decide) huv om (huz _ om), ?_, ?_⟩, by show xs.length - (i + 1) < xs.length - i; omega⟩
 ·intro j hj
  rw [fW om, fW om]; exact huz j om
 ·have : ((us.set i (us.getD i default + (xs.getD i default * 2 ^ sh) % 4294967296)).set (i + 1) ((xs.getD i default * 2 ^ sh) / 4294967296)).getD (i + 1) default = (xs.getD i default * 2 ^ sh) / 4294967296 := by
   rw [List.getD_eq_getElem?_getD, List.getElem?_set_self (by simp; omega)]; rfl
  rw [this]; exact hhi
theorem len32_run (x : Nat) (hx : x < 4294967296) : Run Try.prog T E0 (.call 165 [.v (.int .u32 (x : Int))] (.v (.int .i64 ((blen x : Nat) : Int)))) := by
 refine aZ Try.func165 J J (cW J) ?_
 have J7 : ∀ (y k : Nat) (hy : y < 256) (hk : k ≤ 24) (he : blen x = blen y + k) (n : Nat) , WC Try.prog T E0 Try.f165.ntmps (codeR (codeR (codeR (codeOf Try.f165)))) [(0, .v (.int .u32 (y : Int))), (2, .v (.int .i64 (k : Int)))] [] n (Post T Try.f165.results.toList (.v (.int .i64 ((blen x : Nat) : Int)))) := by
  intro y k hy hk he n
  have hyb := mV (n := 8) hy
  refine Rg 7 J <| Um J J <| Um J J <| aA (cI ((y : Int)) (bW J J J) (by rw [IntKind.wrap_u8]; omega)) J <| aA (cI (((blen y : Nat) : Int)) (oIxS (bs := tab8) (n := (y : Int)) J kR J om (tab8_get hy)) (congrArg Int.ofNat (tab8_val hy))) J <| aA (cI (((blen y : Nat) : Int)) (bW J J J) (by rw [IntWalk.i64_in _ om])) J <| aA (aR J J om) J <| Ua J J <| Wn <| aK ?_
  exact post (n := 0) (.inr J) J (congrArg (fun z => LV.v (.int .i64 z)) om) (by simp)
 refine Rg 1 J <| Ua J J <| Wn <| aC <| Rg 2 J <| Um J J <| aA (iT J J) J <| bF (fun h4 => ?_) (fun h4 => ?_)
 rotate_left
 ·refine Wn <| aU J <| aG <| aC <| Rg 2 J <| Um J J <| aA (iT J J) J <| bF (fun h8 => ?_) (fun h8 => ?_)
  rotate_left
  ·refine Wn <| aU J <| aG <| Ck [0,2] J ?_
   first | exact J7 (x / 65536) 16 om om (fJ (x := x) (k := 16) om) _ | exact J7 x 0 om om rfl _
  refine Wn <| aS J <| aC <| Rg 3 J <| Um J J <| aA (cI (((x / 256 : Nat) : Int)) (rK (s := 8) J J om) om) J <| Ua J J <| Wn <| Rg 3 J <| Um J J <| aA (aR J J om) J <| Ua J J <| Nk [0,2] J ?_
  first | exact J7 (x / 65536 / 256) 24 om om (by rw [fJ (x := x) (k := 16) om, fJ (x := x / 2 ^ 16) (k := 8) om]) _ | exact J7 (x / 256) 8 om om (fJ (x := x) (k := 8) om) _
 refine Wn <| aS J <| aC <| Rg 3 J <| Um J J <| aA (cI (((x / 65536 : Nat) : Int)) (rK (s := 16) J J om) om) J <| Ua J J <| Wn <| Rg 1 J <| Ua J J <| Wn <| aC <| Rg 2 J <| Um J J <| aA (iT J J) J <| bF (fun h8 => ?_) (fun h8 => ?_)
 rotate_left
 ·refine Wn <| aU J <| aG <| Ck [0,2] J ?_
  first | exact J7 (x / 65536) 16 om om (fJ (x := x) (k := 16) om) _ | exact J7 x 0 om om rfl _
 refine Wn <| aS J <| aC <| Rg 3 J <| Um J J <| aA (cI (((x / 65536 / 256 : Nat) : Int)) (rK (s := 8) J J om) om) J <| Ua J J <| Wn <| Rg 3 J <| Um J J <| aA (aR J J om) J <| Ua J J <| Nk [0,2] J ?_
 first | exact J7 (x / 65536 / 256) 24 om om (by rw [fJ (x := x) (k := 16) om, fJ (x := x / 2 ^ 16) (k := 8) om]) _ | exact J7 (x / 256) 8 om om (fJ (x := x) (k := 8) om) _
theorem zeros32_run (x : Nat) (hx : x < 4294967296) : Run Try.prog T E0 (.call 224 [.v (.int .u32 (x : Int))] (.v (.int .i64 ((32 - blen x : Nat) : Int)))) := by
 have hb := mV (n := 32) hx
 refine aZ Try.func224 J J (cW J) <| Rg 1 J <| Ua J J <| Wn <| Rg 4 J <| Um J J <| aA (aN J (len32_run x hx) (by simp)) J <| aA (cV J J om) J <| Ua J J <| Wn <| aK ?_
 exact post (n := 0) (.inr J) J (congrArg (fun z => LV.v (.int .i64 z)) om) (by simp)
end Go.Proofs.Ytcblgjaomljikaa
