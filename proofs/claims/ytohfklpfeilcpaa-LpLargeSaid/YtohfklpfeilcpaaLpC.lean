/- Part C of the proof of lpLarge_holds: what it rests on. No condition. -/
import Derived.Test.YtohfklpfeilcpaaLpB
import Derived.Test.YtohfklpfeilcpaaProg
set_option linter.unusedVariables false
set_option linter.unusedSimpArgs false
namespace Go.Ab
open Go.RowKit
structure Tb.Ok (t : Tb) : Prop where
  bl : t.basic.length = t.cells.length
  gw : t.goal.length = t.out.length + 1
  rw : ∀ i, i < t.cells.length → (t.cells.getD i default).length = t.out.length + 1
  ml : t.cells.length ≤ 100000
  ol : t.out.length ≤ 100000
  nl : t.n ≤ 100000
  el : t.eqs.length ≤ 100000
  br : ∀ v, v ∈ t.basic → -1 ≤ v ∧ v ≤ 1000000
  or : ∀ v, v ∈ t.out → -1 ≤ v ∧ v ≤ 1000000
structure Tb.Bds (β : Nat) (t : Tb) : Prop where
  rw : ∀ i, i < t.cells.length → ∀ x, x ∈ t.cells.getD i default → Bd β x
  gl : ∀ x, x ∈ t.goal → Bd β x
structure Mvd (n0 n' m : Nat) (L L' : Lay) (H h' : Hp) : Prop where
  le : n0 ≤ n'
  qe : L'.q = L.q
  ids : ∀ j, j < 5 + m → L'.id j = L.id j ∨ n0 ≤ L'.id j
  keep : ∀ r o, r < n0 → (∀ k, k < 5 + m → L.id k ≠ r) → getH H r = some o → getH h' r = some o
theorem Mvd.refl {n m : Nat} {L : Lay} {h : Hp} : Mvd n n m L L h h := ⟨Nat.le_refl _, rfl, fun _ _ => .inl rfl, fun _ _ _ _ h => h⟩
theorem Mvd.le' {n0 n m n' : Nat} {L L' : Lay} {H h : Hp} (k : Mvd n0 n m L L' H h) (hn : n ≤ n') : Mvd n0 n' m L L' H h := ⟨Nat.le_trans k.le hn, k.qe, k.ids, k.keep⟩
theorem Mvd.trans {n0 n1 n2 m : Nat} {L L1 L2 : Lay} {H h1 h2 : Hp} (k : Mvd n0 n1 m L L1 H h1) (l : Mvd n1 n2 m L1 L2 h1 h2) : Mvd n0 n2 m L L2 H h2 :=
  ⟨Nat.le_trans k.le l.le, l.qe.trans k.qe, fun j hj => by
    rcases l.ids j hj with e | e
    · rcases k.ids j hj with e' | e'
      · exact .inl (e.trans e')
      · exact .inr om
    · exact .inr (Nat.le_trans k.le e),
   fun r o hr hq h => l.keep r o (Nat.lt_of_lt_of_le hr k.le) (fun j hj e => by
    rcases k.ids j hj with e' | e'
    · exact hq j hj om
    · omega) (k.keep r o hr hq h)⟩
variable {t : TX}
theorem mP (t : TX) (i : Nat) : t.tb.cells.getD i default = r1 (t.cells.getD i []) := by
  show (t.cells.map r1).getD i [] = _
  rw [List.getD_eq_getElem?_getD, List.getElem?_map, List.getD_eq_getElem?_getD]
  cases t.cells[i]? <;> rfl
theorem jY (t : TX) : t.tb.cells.length = t.cells.length := List.length_map ..
theorem Tb.Ok.xl (k : t.tb.Ok) {i : Nat} (hi : i < t.cells.length) : (t.cells.getD i []).length = t.out.length + 1 := by
  have h := k.rw i (by rw [jY]; exact hi)
  rw [mP, fC] at h
  exact h
theorem Tb.Ok.xb (k : t.tb.Ok) : t.basic.length = t.cells.length := k.bl.trans (jY t)
theorem Tb.Ok.xg (k : t.tb.Ok) : t.goal.length = t.out.length + 1 := by
  have h := k.gw
  show t.goal.length = _
  rw [← fC t.goal]; exact h
theorem Tb.Ok.xm (k : t.tb.Ok) : t.cells.length ≤ 100000 := by have h := k.ml; rw [jY] at h; exact h
theorem Tb.Bds.xr {β : Nat} (k : t.tb.Bds β) {i : Nat} (hi : i < t.cells.length) : ∀ x, x ∈ t.cells.getD i [] → Bd β x.1 := fun x hx =>
  k.rw i (by rw [jY]; exact hi) x.1 (by rw [mP]; exact List.mem_map_of_mem hx)
theorem Tb.Bds.xg {β : Nat} (k : t.tb.Bds β) : ∀ x, x ∈ t.goal → Bd β x.1 := fun x hx => k.gl x.1 (List.mem_map_of_mem hx)
theorem qH {β : Nat} {l : List X} {j : Nat} (hj : j < l.length) (h : ∀ x, x ∈ l → Bd β x.1) : Bd β (l.getD j default).1 := h _ (bN hj)
theorem frsR_bd {β k : Nat} {l : List X} (hk : k + 1 < l.length) (h : ∀ x, x ∈ l → Bd β x.1) (hp : (l.getD (k + 1) default).1 ≠ 0) (h1 : 1 ≤ β) : ∀ y, y ∈ frsR (r1 l) k → Bd (2 * β) y := fun y hy => by
  obtain ⟨c, hc, rfl⟩ := List.mem_iff_getElem.1 hy
  rw [iB, fC] at hc
  have e : (frsR (r1 l) k)[c]'(by rw [iB, fC]; exact hc) = (frsR (r1 l) k).getD c default := by
    rw [List.getD_eq_getElem?_getD, List.getElem?_eq_getElem (by rw [iB, fC]; exact hc)]; rfl
  rw [e, oL (by rw [fC]; exact hc), gI, gI]
  split
  · have := Bd1.div (qH hk h) hp
    exact this.mono om
  · have := ((qH hc h).div (qH hk h) hp).neg
    exact this.mono om
theorem piv_cells {t : TX} {cs : List (List X)} {i k : Nat} {f : List X} (hi : i < t.cells.length) (hl : cs.length = t.cells.length) (hf : r1 f = frsR (r1 (t.cells.getD i [])) k) (hci : cs.getD i [] = f) (hc : ∀ j, j < t.cells.length → j ≠ i → r1 (cs.getD j []) = rplR (r1 (t.cells.getD j [])) (r1 f) k) :
    cs.map r1 = (t.tb.piv i k).cells := by
  have e1 : (t.tb.piv i k).cells = ((t.cells.map r1).map fun l => rplR l (r1 f) k).set i (r1 f) := by
    show ((t.cells.map r1).map fun l => rplR l (frsR (t.tb.cells.getD i default) k) k).set i (frsR (t.tb.cells.getD i default) k) = _
    rw [mP, ← hf]
  rw [e1]
  have gd : ∀ {α : Type} (g : List X → List α) (R : List (List X)) (j : Nat), j < R.length → (R.map g).getD j default = g (R.getD j []) := fun g R j hj => by
    rw [List.getD_eq_getElem?_getD, List.getElem?_map, List.getD_eq_getElem?_getD, List.getElem?_eq_getElem hj]; rfl
  refine iO (by simp [hl]) fun j hj => ?_
  rw [List.length_map] at hj
  rw [gd r1 cs j hj, dH (by simp; omega)]
  by_cases e : i = j
  · subst e; rw [if_pos rfl, hci]
  · rw [if_neg e, List.map_map, gd _ t.cells j om]
    exact hc j om fun h => e h.symm
end Go.Ab
namespace Go.Ab
theorem Lay.id_new {L : Lay} {i f n0 : Nat} (hf : n0 ≤ f) : ∀ j, ({ L with a := fun j => if j = i then f else L.a j } : Lay).id j = L.id j ∨ n0 ≤ ({ L with a := fun j => if j = i then f else L.a j } : Lay).id j
  | 0 | 1 | 2 | 3 | 4 => .inl rfl
  | j + 5 => by
    show (if j = i then f else L.a j) = L.a j ∨ n0 ≤ (if j = i then f else L.a j)
    by_cases e : j = i
    · rw [if_pos e]; exact .inr hf
    · rw [if_neg e]; exact .inl rfl
theorem piv_tb {t : TX} {cs : List (List X)} {g f : List X} {i k : Nat} (hi : i < t.cells.length) (hl : cs.length = t.cells.length) (hf : r1 f = frsR (r1 (t.cells.getD i [])) k) (hci : cs.getD i [] = f) (hc : ∀ j, j < t.cells.length → j ≠ i → r1 (cs.getD j []) = rplR (r1 (t.cells.getD j [])) (r1 f) k)
    (hg : r1 g = rplR (r1 t.goal) (r1 f) k) : TX.tb ⟨t.n, t.eqs, t.basic.set i (t.out.getD k default), t.out.set k (t.basic.getD i default), cs, g⟩ = t.tb.piv i k := by
  have h1 := piv_cells hi hl hf hci hc
  have h2 : r1 g = (t.tb.piv i k).goal := by
    rw [hg]
    show _ = rplR (r1 t.goal) (frsR (t.tb.cells.getD i default) k) k
    rw [mP, ← hf]
  rw [show t.tb.piv i k = ⟨t.n, t.eqs, t.basic.set i (t.out.getD k default), t.out.set k (t.basic.getD i default), (t.tb.piv i k).cells, (t.tb.piv i k).goal⟩ from rfl, ← h1, ← h2]
  rfl
end Go.Ab
namespace Go.Ab
open Go.RowKit
theorem set_mem {α : Type} {l : List α} {i : Nat} {a v : α} (h : v ∈ l.set i a) : v ∈ l ∨ v = a := List.mem_or_eq_of_mem_set h
theorem Tb.Ok.piv {t : Tb} {i k : Nat} (h : t.Ok) (hi : i < t.cells.length) (hk : k < t.out.length) : (t.piv i k).Ok where
 bl := by show (t.basic.set i _).length = ((t.cells.map _).set i _).length; rw [List.length_set, List.length_set, List.length_map]; exact h.bl
 gw := by show (rplR t.goal _ k).length = (t.out.set k _).length + 1; rw [iG, List.length_set]; exact h.gw
 rw := fun j hj => by
  have hj : j < t.cells.length := by simpa [Tb.piv] using hj
  show (((t.cells.map fun l => rplR l (frsR (t.cells.getD i default) k) k).set i (frsR (t.cells.getD i default) k)).getD j default).length = (t.out.set k _).length + 1
  rw [List.length_set, dH (by rw [List.length_map]; exact hj)]
  by_cases e : i = j
  ·rw [if_pos e, iB]; exact h.rw i hi
  ·rw [if_neg e, List.getD_eq_getElem?_getD, List.getElem?_map, List.getElem?_eq_getElem hj]
   show (rplR _ _ k).length = _
   rw [iG]
   have := h.rw j hj
   rw [List.getD_eq_getElem?_getD, List.getElem?_eq_getElem hj] at this
   exact this
 ml := by show ((t.cells.map _).set i _).length ≤ _; rw [List.length_set, List.length_map]; exact h.ml
 ol := by show (t.out.set k _).length ≤ _; rw [List.length_set]; exact h.ol
 nl := h.nl
 el := h.el
 br := fun v hv => by
  rcases set_mem hv with hv | rfl
  ·exact h.br v hv
  ·exact h.or _ (bN hk)
 or := fun v hv => by
  rcases set_mem hv with hv | rfl
  ·exact h.or v hv
  ·exact h.br _ (bN (by rw [h.bl]; exact hi))
section
variable {P : Program} {T : TT} {E : TypeId → Bool} {N : Nat} {e : Env} {h : Hp} {oa : Array Oper} {i b : Nat} {Q : Env → Hp → Prop}
variable {x y : Operand} {bt xt : TypeId} {te : TI} {el el2 : TypeId} {k : Nat} {ty : TypeId} {pos : String} {af : Array Edge}
theorem WO.apX {α : Type} {f : α → List LV} {l : List Oper} {d q : Nat} {us : List α} {u : α} (hT : dsc T bt = some (.sl el)) (hT2 : dsc T xt = some (.sl el2)) (hE : T el = some te) (hx : evE e x = some (outV q te.size (us.map f))) (hy : evE e y = some (.sl k [f u])) (hf : ∀ a, (f a).length = te.size) (h0 : 0 < te.size)
  (hb : (2 * (us.length + 1) + 256) * te.bytes ≤ 2 ^ 48) (hb2 : us.length + 1 < 2 ^ 62) (hq : us ≠ [] → getH h q = some { cells := (us.map f).flatten, sz := te.size, elem := el, st := 0 }) (hd : Nat.blt d N = true)
  (kk : ∀ hX, getH hX (b + i) = some { cells := ((us ++ [u]).map f).flatten, sz := te.size, elem := el, st := 0 } → (∀ r o, r ≠ b + i → (us ≠ [] → r ≠ q) → getH h r = some o → getH hX r = some o) →
   WO P T E N oa l (i + 1) b ((d, .ref (b + i) te.size 0 (us ++ [u]).length) :: e) hX Q) :
  WO P T E N oa (⟨some d, .call { callee := .builtin .append, args := #[x, y], argTypes := #[bt, xt] }, ty, pos, af, none⟩ :: l) i b e h Q := by
 cases us with
 | nil =>
  refine bK (oApN hT hT2 hE hx hy h0 (by intro row hrow; simp at hrow; subst hrow; exact hf u) (by simp) (by simpa using hb) (by simp)) hd ?_
  exact kk _ (by simp only [List.nil_append, List.map_cons, List.map_nil, appH]; exact g0) (fun r o h1 _ hr => g1 (fun e => h1 e.symm) hr)
 | cons u0 us =>
  rw [fT (by simp), List.length_map] at hx
  refine bK (oApM hT hT2 hE hx hy hf h0 (hq (by simp)) hb hb2) hd ?_
  exact kk _ (by simp only [appH]; exact g0) (fun r o h1 h2 hr => by simp only [appH]; exact g1 (fun e => h1 e.symm) (g1 (fun e => h2 (by simp) e.symm) hr))
theorem oB {α : Type} {f : α → List LV} {l : List Oper} {acc : List Rec} {d q : Nat} {us : List α} {u : α} (hT : dsc T bt = some (.sl el)) (hT2 : dsc T xt = some (.sl el2)) (hE : T el = some te) (hx : evE e x = some (outV q te.size (us.map f))) (hy : evE e y = some (.sl k [f u])) (hf : ∀ a, (f a).length = te.size) (h0 : 0 < te.size)
  (hb : (2 * (us.length + 1) + 256) * te.bytes ≤ 2 ^ 48) (hb2 : us.length + 1 < 2 ^ 62) (hq : us ≠ [] → getH h q = some { cells := (us.map f).flatten, sz := te.size, elem := el, st := 0 }) (hd : Nat.blt d N = true)
  (kk : ∀ hX, getH hX (b + i) = some { cells := ((us ++ [u]).map f).flatten, sz := te.size, elem := el, st := 0 } → (∀ r o, r ≠ b + i → (us ≠ [] → r ≠ q) → getH h r = some o → getH hX r = some o) →
   WD P T E N oa l (i + 1) b ((d, .ref (b + i) te.size 0 (us ++ [u]).length) :: e) hX (⟨i, [q, b + i], [q], false⟩ :: acc) Q) :
  WD P T E N oa (⟨some d, .call { callee := .builtin .append, args := #[x, y], argTypes := #[bt, xt] }, ty, pos, af, none⟩ :: l) i b e h acc Q := by
 cases us with
 | nil =>
  refine WD.S' [q, b + i] [q] (oApN hT hT2 hE hx hy h0 (by intro row hrow; simp at hrow; subst hrow; exact hf u) (by simp) (by simpa using hb) (by simp)) hd (by simp [keys]) (by simp) ?_
  exact kk _ (by simp only [List.nil_append, List.map_cons, List.map_nil, appH]; exact g0) (fun r o h1 _ hr => g1 (fun e => h1 e.symm) hr)
 | cons u0 us =>
  rw [fT (by simp), List.length_map] at hx
  refine WD.S' [q, b + i] [q] (oApM hT hT2 hE hx hy hf h0 (hq (by simp)) hb hb2) hd (by simp [keys]) (by simp) ?_
  exact kk _ (by simp only [appH]; exact g0) (fun r o h1 h2 hr => by simp only [appH]; exact g1 (fun e => h1 e.symm) (g1 (fun e => h2 (by simp) e.symm) hr))
theorem oApS1 {dst : Option Tmp} {g : Option (Nat × Bool)} {id : Nat} {α : Type} {f : α → List LV} {us : List α} {u : α} (hT : dsc T bt = some (.sl el)) (hT2 : dsc T xt = some (.sl el2)) (hE : T el = some te) (hx : evE e x = some (.sl 2 [f u])) (hy : evE e y = some (.sl k (us.map f))) (hf : ∀ a, (f a).length = te.size) (h0 : 0 < te.size) (hne : us ≠ [])
  (hb : (2 * (us.length + 1) + 256) * te.bytes ≤ 2 ^ 48) (hb2 : us.length + 1 < 2 ^ 62) :
  OP P T E ⟨dst, .call { callee := .builtin .append, args := #[x, y], argTypes := #[bt, xt] }, ty, pos, af, g⟩ id e h (.ref id te.size 0 (u :: us).length) [(id, { cells := ((u :: us).map f).flatten, sz := te.size, elem := el, st := 0 })] [] := by
 have hl : 0 < us.length := List.length_pos_iff.2 hne
 have := oApS (P := P) (E := E) (h := h) (dst := dst) (ty := ty) (pos := pos) (af := af) (g := g) (id := id) hT hT2 hE hx hy h0 (by intro row hrow; simp at hrow; subst hrow; exact hf u) (cQ hf) (by simpa using hl) (by rw [List.length_map, List.length_singleton, Nat.add_comm 1]; exact hb) (by rw [List.length_map, List.length_singleton, Nat.add_comm 1]; exact hb2)
 rw [List.length_map, List.length_singleton, Nat.add_comm 1] at this
 simpa using this
end
theorem Lay.inj_of {L : Lay} {m : Nat} (h1 : L.q ≠ L.b ∧ L.q ≠ L.o ∧ L.q ≠ L.c ∧ L.q ≠ L.g) (h2 : L.b ≠ L.o ∧ L.b ≠ L.c ∧ L.b ≠ L.g) (h3 : L.o ≠ L.c ∧ L.o ≠ L.g ∧ L.c ≠ L.g)
  (ha : ∀ j, j < m → L.a j ≠ L.q ∧ L.a j ≠ L.b ∧ L.a j ≠ L.o ∧ L.a j ≠ L.c ∧ L.a j ≠ L.g) (hi : ∀ j k, j < m → k < m → L.a j = L.a k → j = k) : ∀ j k, j < 5 + m → k < 5 + m → L.id j = L.id k → j = k := by
 have key : ∀ j, j < 5 → L.id j = L.q ∧ j = 0 ∨ L.id j = L.b ∧ j = 1 ∨ L.id j = L.o ∧ j = 2 ∨ L.id j = L.c ∧ j = 3 ∨ L.id j = L.g ∧ j = 4 := fun j hj => by
  match j, hj with
  | 0, _ => exact .inl ⟨rfl, rfl⟩
  | 1, _ => exact .inr (.inl ⟨rfl, rfl⟩)
  | 2, _ => exact .inr (.inr (.inl ⟨rfl, rfl⟩))
  | 3, _ => exact .inr (.inr (.inr (.inl ⟨rfl, rfl⟩)))
  | 4, _ => exact .inr (.inr (.inr (.inr ⟨rfl, rfl⟩)))
 have big : ∀ j, 5 ≤ j → L.id j = L.a (j - 5) := fun j hj => by
  obtain ⟨k, rfl⟩ : ∃ k, j = k + 5 := ⟨j - 5, om⟩
  rfl
 intro j k hj hk e
 by_cases j5 : j < 5 <;> by_cases k5 : k < 5
 ·have := key j j5; have := key k k5; omega
 ·have := key j j5; have := ha (k - 5) om; rw [big k om] at e; omega
 ·have := key k k5; have := ha (j - 5) om; rw [big j om] at e; omega
 ·rw [big j om, big k om] at e; have := hi _ _ om om e; omega
def opX (n : Nat) (rws : List RW) (goal : List X) (add : X) : TX :=
 { n := n, eqs := rws.map (·.2.2), basic := tab rws.length fun i => ((n + i : Nat) : Int), out := tab n fun k => (k : Int), cells := rws.map fun r => r.2.1 :: r.1.2, goal := add :: goal }
theorem opX_tb (n : Nat) (rws : List RW) (goal : List X) (add : X) : (opX n rws goal add).tb = opn n (rws.map fun r => (r1 r.1.2, r.2.1.1, r.2.2)) (r1 goal) add.1 := by
 unfold opX TX.tb opn tab
 simp [List.map_map, Function.comp_def, r1]
theorem gmapN {α β : Type} [Inhabited α] (f : α → List β) {l : List α} {j : Nat} (hj : j < l.length) : (l.map f).getD j [] = f (l.getD j default) := by
 rw [List.getD_eq_getElem?_getD, List.getElem?_map, List.getD_eq_getElem?_getD, List.getElem?_eq_getElem hj]; rfl
theorem fK {α : Type} {f : α → List LV} {us : List α} {u : α} {q sz : Nat} : outV q sz ((us ++ [u]).map f) = .ref q sz 0 (us ++ [u]).length := by
 rw [fT (by simp), List.length_map]
theorem Lay.all_of {L : Lay} {m : Nat} {p : Nat → Prop} (h : p L.q ∧ p L.b ∧ p L.o ∧ p L.c ∧ p L.g) (ha : ∀ j, j < m → p (L.a j)) : ∀ j, j < 5 + m → p (L.id j)
 | 0, _ => h.1
 | 1, _ => h.2.1
 | 2, _ => h.2.2.1
 | 3, _ => h.2.2.2.1
 | 4, _ => h.2.2.2.2
 | j + 5, hj => ha j om
end Go.Ab
namespace Go.Ab
open Go.RowKit
theorem Tb.fr1_hit {t : Tb} {k j i : Nat} (h : t.sd (t.basic.getD i default) = true) (h2 : (t.cells.getD i default).getD (k + 1) default ≠ 0) : t.fr1 k (j + 1) i = t.piv i k := if_pos ⟨h, h2⟩
theorem Tb.fr1_miss {t : Tb} {k j i : Nat} (h : ¬ (t.sd (t.basic.getD i default) = true ∧ (t.cells.getD i default).getD (k + 1) default ≠ 0)) : t.fr1 k (j + 1) i = t.fr1 k j (i + 1) := if_neg h
theorem Tb.frs_skip {t : Tb} {k : Nat} (h : (t.n : Int) ≤ (t.frs k).out.getD k default) : t.frs (k + 1) = t.frs k := if_pos h
theorem Tb.frs_do {t : Tb} {k : Nat} (h : ¬ (t.n : Int) ≤ (t.frs k).out.getD k default) : t.frs (k + 1) = (t.frs k).fr1 k (t.frs k).basic.length 0 := if_neg h
theorem gmapDD {α β : Type} [Inhabited α] [Inhabited β] {f : α → β} (hf : f default = default) (l : List α) (j : Nat) : (l.map f).getD j default = f (l.getD j default) := by
 rw [List.getD_eq_getElem?_getD, List.getElem?_map, List.getD_eq_getElem?_getD]
 cases l[j]? with
 | none => exact hf.symm
 | some a => rfl
theorem sd_eq {t : TX} {rws : List RW} (he : t.eqs = rws.map (·.2.2)) (v : Int) : (decide ((t.n : Int) ≤ v) && !(decide ((t.n : Int) ≤ v) && decide (v < (t.n : Int) + (rws.length : Int)) && (rws.getD (v - t.n).toNat default).2.2)) = t.tb.sd v := by
 unfold Tb.sd Tb.eqn
 show _ = (decide ((t.n : Int) ≤ v) && !(decide ((t.n : Int) ≤ v) && decide (v < (t.n : Int) + (t.eqs.length : Int)) && t.eqs.getD (v - t.n).toNat default))
 have e := gmapDD (α := RW) (β := Bool) (f := fun r => r.2.2) rfl rws (v - t.n).toNat
 rw [he, List.length_map]
 exact congrArg (fun z => decide ((t.n : Int) ≤ v) && !(decide ((t.n : Int) ≤ v) && decide (v < (t.n : Int) + (rws.length : Int)) && z)) e.symm
theorem cellX (t : TX) (i c : Nat) : (t.tb.cells.getD i default).getD c default = ((t.cells.getD i []).getD c default).1 := by rw [mP, gI]
theorem goalX (t : TX) (c : Nat) : t.tb.goal.getD c default = (t.goal.getD c default).1 := gI _ _
theorem Mvd.le0 {n0 n1 n' m : Nat} {L L' : Lay} {H h : Hp} (k : Mvd n1 n' m L L' H h) (hn : n0 ≤ n1) : Mvd n0 n' m L L' H h :=
 ⟨Nat.le_trans hn k.le, k.qe, fun j hj => (k.ids j hj).imp id fun e => Nat.le_trans hn e, fun r o hr => k.keep r o (Nat.lt_of_lt_of_le hr hn)⟩
theorem Mvd.nrm {n0 n n' m : Nat} {L L' : Lay} {H h : Hp} (k : Mvd n0 n m L L' H h) (hn : n ≤ n') : Mvd n0 n' m L L' H (nrm h) :=
 ⟨Nat.le_trans k.le hn, k.qe, k.ids, fun r o hr hq h => nrm_get.trans (k.keep r o hr hq h)⟩
def Tb.pntS (t : Tb) (i : Nat) : List Rat := (List.range i).foldl (fun o i => if 0 ≤ t.basic.getD i default ∧ t.basic.getD i default < t.n then o.set (t.basic.getD i default).toNat ((t.cells.getD i default).getD 0 default) else o) (List.replicate t.n 0)
def Tb.mltS (t : Tb) (l : List Rat) (i : Nat) : List Rat := (List.range i).foldl (fun o k => if (t.n : Int) ≤ t.out.getD k default ∧ t.out.getD k default < (t.n : Int) + t.eqs.length then o.set (t.out.getD k default - t.n).toNat (l.getD (k + 1) default) else o) (List.replicate t.eqs.length 0)
theorem Tb.pntS_yes {t : Tb} {i : Nat} (h : 0 ≤ t.basic.getD i default ∧ t.basic.getD i default < t.n) : t.pntS (i + 1) = (t.pntS i).set (t.basic.getD i default).toNat ((t.cells.getD i default).getD 0 default) := by
 unfold Tb.pntS; rw [List.range_succ, List.foldl_append, List.foldl_cons, List.foldl_nil, if_pos h]
theorem Tb.pntS_no {t : Tb} {i : Nat} (h : ¬ (0 ≤ t.basic.getD i default ∧ t.basic.getD i default < t.n)) : t.pntS (i + 1) = t.pntS i := by
 unfold Tb.pntS; rw [List.range_succ, List.foldl_append, List.foldl_cons, List.foldl_nil, if_neg h]
theorem Tb.mltS_yes {t : Tb} {l : List Rat} {k : Nat} (h : (t.n : Int) ≤ t.out.getD k default ∧ t.out.getD k default < (t.n : Int) + t.eqs.length) : t.mltS l (k + 1) = (t.mltS l k).set (t.out.getD k default - t.n).toNat (l.getD (k + 1) default) := by
 unfold Tb.mltS; rw [List.range_succ, List.foldl_append, List.foldl_cons, List.foldl_nil, if_pos h]
theorem Tb.mltS_no {t : Tb} {l : List Rat} {k : Nat} (h : ¬ ((t.n : Int) ≤ t.out.getD k default ∧ t.out.getD k default < (t.n : Int) + t.eqs.length)) : t.mltS l (k + 1) = t.mltS l k := by
 unfold Tb.mltS; rw [List.range_succ, List.foldl_append, List.foldl_cons, List.foldl_nil, if_neg h]
theorem r1_rep (n : Nat) : r1 (List.replicate n x0) = List.replicate n 0 := by unfold r1; rw [List.map_replicate]; rfl
theorem r1_set (l : List X) (i : Nat) (x : X) : r1 (l.set i x) = (r1 l).set i x.1 := List.map_set
open Go.RowKit
inductive SnapZ (h : Hp) (S : List Nat) : List LV → List LV → Prop
 | nil : SnapZ h S [] []
 | cons {l l' : LV} {ls ls' : List LV} : l'.one = l.one → (∀ m, FitsM h m → Snap m (· ∈ S) l l') → SnapZ h S ls ls' → SnapZ h S (l :: ls) (l' :: ls')
variable {P : Program} {T : TT} {E : TypeId → Bool} {h : Hp}
theorem SnapZ.data {S : List Nat} {l : LV} {ls ls' : List LV} (hl : Data l) (k : SnapZ h S ls ls') : SnapZ h S (l :: ls) (l :: ls') := .cons rfl (fun m _ => .data _ hl) k
theorem SnapZ.datas {S : List Nat} : ∀ {ls ms ms' : List LV}, (∀ l, l ∈ ls → Data l) → SnapZ h S ms ms' → SnapZ h S (ls ++ ms) (ls ++ ms')
 | [], _, _, _, k => k
 | l :: ls, _, _, hl, k => .data (hl l (by simp)) (SnapZ.datas (fun x hx => hl x (by simp [hx])) k)
theorem SnapZ.own {S : List Nat} {q sz len : Nat} {ob : Ob} {ls ls' : List LV} (ys : List (List LV)) (hlen : len = ys.length) (hq : getH h q = some ob) (h2 : ob.st ≠ 2) (hz : ob.sz = sz) (h0 : 0 < sz) (hS : q ∈ S) (hc : ob.cells = ys.flatten) (hl : ∀ row, row ∈ ys → row.length = sz) (hd : ∀ row, row ∈ ys → ∀ c, c ∈ row → Data c) (k : SnapZ h S ls ls') :
  SnapZ h S (.ref q sz 0 len :: ls) (.sl 1 ys :: ls') := .cons rfl (fun m hm => by
 subst hlen
 exact mC (S := (· ∈ S)) hq h2 hz h0 hS hc hl hd m hm) k
theorem SnapZ.len {S : List Nat} {cs ds : List LV} (k : SnapZ h S cs ds) : cs.length = ds.length := by
 induction k with
 | nil => rfl
 | cons _ _ _ ih => simp [ih]
theorem SnapZ.one {S : List Nat} {cs ds : List LV} (k : SnapZ h S cs ds) : ∀ (i : Nat) (c d : LV), cs[i]? = some c → ds[i]? = some d → d.one = c.one := by
 induction k with
 | nil => intro i c d hc; simp at hc
 | cons h1 _ _ ih =>
  intro i c d hc hd
  cases i with
  | zero => simp at hc hd; subst hc; subst hd; exact h1
  | succ i => simp at hc hd; exact ih i c d hc hd
theorem SnapZ.snap {S : List Nat} {cs ds : List LV} {m : Mem} (hm : FitsM h m) (k : SnapZ h S cs ds) : ∀ (i : Nat) (c d : LV), cs[i]? = some c → ds[i]? = some d → Snap m (· ∈ S) c d := by
 induction k with
 | nil => intro i c d hc; simp at hc
 | cons _ h2 _ ih =>
  intro i c d hc hd
  cases i with
  | zero => simp at hc hd; subst hc; subst hd; exact h2 m hm
  | succ i => simp at hc hd; exact ih i c d hc hd
theorem qZ {rs : List ResultVar} {e : Env} {n : Nat} {x : Ex} {S : List Nat} {cs ds : List LV} (hx : x = .normal ∨ x = .ret) (hr : resE e T h rs = some [.agg cs]) (hs : SnapZ h S cs ds) (hl : Lent h S) : Post T rs (.agg ds) x e h n := by
 obtain ⟨d, h1, h2⟩ := hl.delta
 exact ⟨hx, _, hr, d, fun m hm => by rw [h1]; exact .agg _ _ hs.len hs.one (hs.snap hm), h2⟩
section
variable {N : Nat} {oa : Array Oper} {i b n : Nat} {e : Env} {acc : List Rec} {l : List Oper} {Q : Env → Hp → Nat → Prop}
theorem WX.weakM (a : Hp) (hs : subsM a h) (k : WX P T E N oa l i b e a n acc Q) : WX P T E N oa l i b e h n acc Q := fun hd s m h1 h2 => k hd s m h1 (fun t l hg => h2 t l (hs.get t l hg))
end
theorem jK {r : Rat} (h : 0 ≤ r) : 0 ≤ r.num.sign := by
 have h1 : 0 ≤ r.num := Rat.num_nonneg.2 h
 rcases Int.lt_or_eq_of_le h1 with h2 | h2
 ·rw [Int.sign_eq_one_of_pos h2]; decide
 ·rw [← h2]; decide
theorem opX_ok {n : Nat} {rws : List RW} {goal : List X} {add : X} (hn : n ≤ 100000) (hm : rws.length ≤ 100000) (hw : ∀ r, r ∈ rws → r.1.2.length = n) (hg : goal.length = n) : (opX n rws goal add).tb.Ok := by
 have hc : (opX n rws goal add).cells.length = rws.length := List.length_map ..
 have hol : (opX n rws goal add).tb.out.length = n := aX _ _
 constructor
 ·show (tab rws.length _).length = _; rw [aX, jY, hc]
 ·rw [hol]; show (r1 (add :: goal)).length = _; rw [fC, List.length_cons, hg]
 ·intro i hi
  rw [jY, hc] at hi
  rw [mP, fC, hol]
  show ((rws.map _).getD i []).length = _
  rw [gmapN _ hi, List.length_cons, hw _ (bN hi)]
 ·rw [jY, hc]; exact hm
 ·rw [hol]; exact hn
 ·exact hn
 ·show (rws.map _).length ≤ _; rw [List.length_map]; exact hm
 ·intro v hv
  obtain ⟨i, hi, rfl⟩ := dW.1 hv
  omega
 ·intro v hv
  obtain ⟨i, hi, rfl⟩ := dW.1 hv
  omega
end Go.Ab
namespace Go.Ab
open Go.RowKit
variable {P : Program} {T : TT} {E : TypeId → Bool} {N : Nat} {e : Env} {h : Hp}
theorem Fz.app {K : Env → Hp → Prop} {A B : List LV} {q sz r z el el2 : Nat} {L : Hp} {ys : List (List LV)} (a : Env) (hs : subs a e) (hrq : r ≠ q) (hq : getH h q = some { cells := ys.flatten, sz := sz, elem := el2, st := 0 }) (hr : getH h r = some { cells := A ++ (.ref q sz 0 ys.length :: B), sz := z, elem := el, st := 0 })
  (hL : ∀ t o, getH L t = some o → t ≠ q ∧ getH h t = some o) (h0 : 0 < sz) (hl : ∀ row, row ∈ ys → row.length = sz) (hd : ∀ row, row ∈ ys → ∀ c, c ∈ row → Data c) (k : K a ((r, { cells := A ++ (.sl 1 ys :: B), sz := z, elem := el, st := 0 }) :: L)) : Fz N e h K := by
 refine Fz.one ys a _ hq (by show ¬ (0 : Nat) = 2; decide) rfl h0 rfl hl hd (fun t l2 ht => ⟨l2, hs.get t l2 ht, .inl rfl⟩) (fun t o2 ht => ?_) k
 by_cases hrt : r = t
 ·subst hrt
  rw [g0] at ht
  cases ht
  refine ⟨hrq, _, hr, rfl, by simp, fun i c c2 h1 h2 => ?_⟩
  by_cases hi : i < A.length
  ·rw [List.getElem?_append_left hi] at h1 h2
   rw [h1] at h2; exact .inl (Option.some.inj h2).symm
  ·rw [List.getElem?_append_right om] at h1 h2
   by_cases hi2 : i - A.length = 0
   ·rw [hi2] at h1 h2
    simp at h1 h2
    exact .inr ⟨h1.symm, h2.symm⟩
   ·obtain ⟨j, hj⟩ : ∃ j, i - A.length = j + 1 := ⟨i - A.length - 1, om⟩
    rw [hj] at h1 h2
    simp at h1 h2
    rw [h1] at h2; exact .inl (Option.some.inj h2).symm
 ·have ht' : getH L t = some o2 := by rw [show getH ((r, _) :: L) t = getH L t from g1 hrt rfl] at ht; exact ht
  obtain ⟨h1, h2⟩ := hL t o2 ht'
  exact ⟨h1, o2, h2, rfl, rfl, fun i c c2 a1 a2 => by rw [a1] at a2; exact .inl (Option.some.inj a2).symm⟩
section
variable {oa : Array Oper} {i b : Nat} {Q : Env → Hp → Prop} {x y : Operand} {bt xt : TypeId} {te : TI} {el el2 : TypeId} {k : Nat} {ty : TypeId} {pos : String} {af : Array Edge}
theorem WO.apL {l : List Oper} {d q : Nat} {us : List (List LV)} {row : List LV} (hT : dsc T bt = some (.sl el)) (hT2 : dsc T xt = some (.sl el2)) (hE : T el = some te) (hx : evE e x = some (outV q te.size us)) (hy : evE e y = some (.sl k [row])) (hf : ∀ a, a ∈ us → a.length = te.size) (hrw : row.length = te.size) (h0 : 0 < te.size)
  (hb : (2 * (us.length + 1) + 256) * te.bytes ≤ 2 ^ 48) (hb2 : us.length + 1 < 2 ^ 62) (hq : us ≠ [] → getH h q = some { cells := us.flatten, sz := te.size, elem := el, st := 0 }) (hd : Nat.blt d N = true)
  (kk : ∀ hX, getH hX (b + i) = some { cells := us.flatten ++ row, sz := te.size, elem := el, st := 0 } → (∀ r o, r ≠ b + i → (us ≠ [] → r ≠ q) → getH h r = some o → getH hX r = some o) →
   WO P T E N oa l (i + 1) b ((d, .ref (b + i) te.size 0 (us.length + 1)) :: e) hX Q) :
  WO P T E N oa (⟨some d, .call { callee := .builtin .append, args := #[x, y], argTypes := #[bt, xt] }, ty, pos, af, none⟩ :: l) i b e h Q := by
 have hr1 : ∀ r, r ∈ [row] → r.length = te.size := by intro r hr; rw [List.mem_singleton] at hr; subst hr; exact hrw
 cases us with
 | nil =>
  refine bK (oApN hT hT2 hE hx hy h0 hr1 (by simp) (by simpa using hb) (by simp)) hd ?_
  exact kk _ (by simp only [List.flatten_nil, List.nil_append, List.flatten_cons, List.append_nil, appH]; exact g0) (fun r o h1 _ hr => g1 (fun e => h1 e.symm) hr)
 | cons u0 us =>
  rw [fT (by simp)] at hx
  refine bK (oApR hT hT2 hE hx hy h0 hr1 (by simp) (hq (by simp)) rfl rfl rfl rfl (gV hf) (by simpa using hb) (by simpa using hb2)) hd ?_
  refine kk _ ?_ ?_
  ·simp only [List.flatten_cons (l := row), List.flatten_nil, List.append_nil, appH]
   exact g0
  ·intro r o h1 h2 hr
   simp only [appH]
   exact g1 (fun e => h1 e.symm) (g1 (fun e => h2 (by simp) e.symm) hr)
end
def rowA (p : PB) (i : Nat) : RW := ((1, ((p.1.2.getD i default).2.map nx).map xneg), nx (p.2.1.2.getD i default), false)
def rowB (n k : Nat) : RW := ((1, (List.replicate n x0).set k (xint 1)), x0, false)
def rowsX (p : PB) : List RW := tab p.1.2.length (rowA p) ++ tab p.2.2.2.length (rowB p.2.2.2.length)
theorem drwc (r : RW) : ∀ c, c ∈ rwc r → Data c := by
 intro c hc
 simp only [rwc, List.mem_cons, List.not_mem_nil, or_false] at hc
 rcases hc with rfl | rfl | rfl | rfl | rfl | rfl
 ·exact .sl _ _ (bA kF)
 all_goals first | exact .v _ | exact kF r.2.1 _ (by simp [xc])
end Go.Ab
namespace Go.Ab
open Go.RowKit
def outs (l : List X) : Option (List NM) := l.mapM fun x => outN x.1
def tel (e : Int) (l : List X) : Int := if e = 0 then (if (outs l).isSome = true then 0 else 3) else e
def outsL (l : List X) : List NM := (outs l).getD []
def outsV (l : List X) : LV := .sl (kd (outsL l).length) ((outsL l).map mc)
theorem tel3 {a b c : List X} : tel (tel (tel 0 a) b) c = if (outs a).isSome = true ∧ (outs b).isSome = true ∧ (outs c).isSome = true then 0 else 3 := by
 unfold tel
 cases (outs a).isSome <;> cases (outs b).isSome <;> cases (outs c).isSome <;> decide
theorem outs1 {x : X} : (outsL [x]).length = 1 ↔ (outs [x]).isSome = true := by
 unfold outsL outs
 rw [List.mapM_cons]
 cases outN x.1 with
 | none => exact ⟨fun h => (by cases h), fun h => (by cases h)⟩
 | some a => exact ⟨fun _ => rfl, fun _ => rfl⟩
theorem douts (l : List X) : Data (outsV l) := .sl _ _ (bA gK)
end Go.Ab
namespace Go.Ab
open Go.RowKit
section
variable {P : Program} {T : TT} {E : TypeId → Bool} {e : Env} {h : Hp}
variable {dst : Option Tmp} {ty : TypeId} {pos : String} {af : Array Edge} {g : Option (Nat × Bool)} {id : Nat} {bt el : TypeId} {te ti : TI}
theorem oBdA {parts : Array (Nat × Operand)} {ps : List (Nat × LV)} {k : Nat} {cs : List LV} (hE : T bt = some ti) (hT : ti.desc = .arr k el) (hE2 : T el = some te) (hp : parts.toList.mapM (fun p => (evE e p.2).map fun l => (p.1, l)) = some ps)
  (hf : fillLV (fun i => some (i * te.size, te.size)) (ti.zero.map lz) ps = some cs) : OP P T E ⟨dst, .build bt parts, ty, pos, af, g⟩ id e h (.agg cs) [] [] := .mk fun s m hs _ => ⟨by
   have : parts.toList.map (fun p => (p.1, evS s p.2)) = ps := by
    clear hf
    generalize parts.toList = qs at hp
    induction qs generalizing ps with
    | nil => simp at hp; subst hp; rfl
    | cons q qs ih =>
     simp only [List.mapM_cons] at hp
     cases hq : evE e q.2 with
     | none => rw [hq] at hp; simp at hp
     | some l =>
      cases hr : qs.mapM (fun p => (evE e p.2).map fun l => (p.1, l)) with
      | none => rw [hq, hr] at hp; simp at hp
      | some rs => rw [hq, hr] at hp; simp at hp; subst hp; simp [hs _ _ hq, ih hr]
   simp [aop, hE, hT, hE2, this, hf], rfl⟩
end
theorem rA {cs ds : List LV} (h : ds.length = cs.length) : putCells cs 0 ds = some ds := by
 unfold putCells
 rw [if_pos om, List.take_zero, List.nil_append, Nat.zero_add, List.drop_eq_nil_of_le om, List.append_nil]
def lpT (p : PB) : Tb := opn p.2.2.2.length (((List.range p.1.2.length).map fun i => ((p.1.2.getD i default).2.map fun a => -(nx a).1, (nx (p.2.1.2.getD i default)).1, false)) ++ (List.range p.2.2.2.length).map fun k => ((List.replicate p.2.2.2.length (0 : Rat)).set k 1, (0 : Rat), false)) (p.2.2.2.map fun a => (nx a).1 * -1) (0 * -1)
def glX (p : PB) : RW := ((1, (p.2.2.2.map nx).map fun x => xmul x (xint (-1))), xmul x0 (xint (-1)), false)
theorem mK (p : PB) : opn p.2.2.2.length ((rowsX p).map fun r => (r1 r.1.2, r.2.1.1, r.2.2)) (r1 (glX p).1.2) (glX p).2.1.1 = lpT p := by
 unfold lpT
 have h1 : ((rowsX p).map fun r => (r1 r.1.2, r.2.1.1, r.2.2)) = ((List.range p.1.2.length).map fun i => ((p.1.2.getD i default).2.map fun a => -(nx a).1, (nx (p.2.1.2.getD i default)).1, false)) ++ (List.range p.2.2.2.length).map fun k => ((List.replicate p.2.2.2.length (0 : Rat)).set k 1, (0 : Rat), false) := by
  unfold rowsX tab
  rw [List.map_append, List.map_map, List.map_map]
  refine congr (congrArg _ (List.map_congr_left fun i _ => ?_)) (List.map_congr_left fun k _ => ?_)
  ·show (r1 (((p.1.2.getD i default).2.map nx).map xneg), _, _) = _
   unfold r1
   rw [List.map_map, List.map_map]
   rfl
  ·show (r1 ((List.replicate p.2.2.2.length x0).set k (xint 1)), _, _) = _
   rw [r1_set, r1_rep]
   rfl
 have h2 : r1 (glX p).1.2 = p.2.2.2.map fun a => (nx a).1 * -1 := by
  unfold glX r1
  rw [List.map_map, List.map_map]
  rfl
 rw [h1, h2]
 rfl
theorem rowsX_len (p : PB) : (rowsX p).length = p.1.2.length + p.2.2.2.length := by unfold rowsX; rw [List.length_append, aX, aX]
theorem rowsX_w {p : PB} (hw : ∀ r, r ∈ p.1.2 → r.2.length = p.2.2.2.length) : ∀ r, r ∈ rowsX p → r.1.2.length = p.2.2.2.length := by
 intro r hr
 rcases List.mem_append.1 hr with h | h
 ·obtain ⟨i, hi, rfl⟩ := dW.1 h
  show (((p.1.2.getD i default).2.map nx).map xneg).length = _
  rw [List.length_map, List.length_map]; exact hw _ (bN hi)
 ·obtain ⟨i, hi, rfl⟩ := dW.1 h
  show ((List.replicate _ x0).set i (xint 1)).length = _
  rw [List.length_set, List.length_replicate]
theorem rowsX_no (p : PB) : ∀ r, r ∈ rowsX p → r.2.2 = false := by
 intro r hr
 rcases List.mem_append.1 hr with h | h
 ·obtain ⟨i, hi, rfl⟩ := dW.1 h; rfl
 ·obtain ⟨i, hi, rfl⟩ := dW.1 h; rfl
def mxZ : List LV := [.v (.int .i64 0), .v (.int .i64 0), .v (.int .i64 0), .sl 0 [], .sl 0 [], .sl 0 []]
def mxR (T : Tb) (m : Nat) : LV :=
 match T.pnt.mapM outN, ((T.mlt T.goal).take m).mapM outN, outN (-(T.goal.getD 0 default)) with
 | some x, some y, some v => .tup [.agg (.v (.int .i64 2) :: (mc v ++ [.sl (kd x.length) (x.map mc), .sl (kd y.length) (y.map mc), .sl 0 []])), .v (.int .i64 0)]
 | _, _, _ => .tup [.agg mxZ, .v (.int .i64 3)]
theorem qY (l : List X) : outs l = (r1 l).mapM outN := (mapM_map' outN (fun x : X => x.1) l).symm
theorem mxR_of {T : Tb} {m : Nat} {v : X} {l1 l2 : List X} (hv : v.1 = T.goal.getD 0 default) (h1 : r1 l1 = T.pnt) (h2 : r1 l2 = T.mlt T.goal) :
  mxR T m = if (outs l1).isSome = true ∧ (outs (l2.take m)).isSome = true ∧ (outs [xneg v]).isSome = true then .tup [.agg (.v (.int .i64 2) :: (mc ((outsL [xneg v]).getD 0 default) ++ [outsV l1, outsV (l2.take m), .sl 0 []])), .v (.int .i64 0)] else .tup [.agg mxZ, .v (.int .i64 3)] := by
 have e1 : outs l1 = T.pnt.mapM outN := by rw [qY, h1]
 have e2 : outs (l2.take m) = ((T.mlt T.goal).take m).mapM outN := by
  rw [qY, ← h2]; unfold r1; rw [List.map_take]
 have e3 : outs [xneg v] = [-(T.goal.getD 0 default)].mapM outN := by
  rw [qY, ← hv]; rfl
 unfold outsV outsL mxR
 rw [e1, e2, e3]
 cases T.pnt.mapM outN with
 | none => rfl
 | some x =>
  cases ((T.mlt T.goal).take m).mapM outN with
  | none => rfl
  | some y =>
   rw [List.mapM_cons]
   cases outN (-(T.goal.getD 0 default)) with
   | none => rfl
   | some w => rfl
theorem oK {α β : Type} {f : List α → β → List α} (h : ∀ o b, (f o b).length = o.length) : ∀ (bs : List β) (o : List α), (bs.foldl f o).length = o.length
 | [], o => rfl
 | b :: bs, o => by rw [List.foldl_cons, oK h bs, h]
theorem pnt_len (t : Tb) : t.pnt.length = t.n := by
 unfold Tb.pnt
 rw [oK (fun o i => by split <;> simp), List.length_replicate]
theorem mlt_len (t : Tb) (l : List Rat) : (t.mlt l).length = t.eqs.length := by
 unfold Tb.mlt
 rw [oK (fun o i => by split <;> simp), List.length_replicate]
theorem fr1_n (t : Tb) (k : Nat) : ∀ j i, (t.fr1 k j i).n = t.n ∧ (t.fr1 k j i).eqs = t.eqs
 | 0, i => ⟨rfl, rfl⟩
 | j + 1, i => by
  unfold Tb.fr1
  split
  ·exact ⟨rfl, rfl⟩
  ·exact fr1_n t k j (i + 1)
theorem frs_n (t : Tb) : ∀ k, (t.frs k).n = t.n ∧ (t.frs k).eqs = t.eqs
 | 0 => ⟨rfl, rfl⟩
 | k + 1 => by
  unfold Tb.frs
  split
  ·exact frs_n t k
  ·have h1 := fr1_n (t.frs k) k (t.frs k).basic.length 0
   have h2 := frs_n t k
   exact ⟨h1.1.trans h2.1, h1.2.trans h2.2⟩
end Go.Ab
namespace Go.Ab
def bd2B (q : Rat) : Bool := decide (q.num.natAbs < 18446744073709551616) && decide (q.den < 18446744073709551616)
theorem bd2B_ok {q : Rat} (h : bd2B q = true) : Bd 2 q := by
 unfold bd2B at h
 rw [Bool.and_eq_true, decide_eq_true_eq, decide_eq_true_eq] at h
 exact ⟨fH (by simpa using h.1), fH (by simpa using h.2)⟩
def Tb.bdsB (t : Tb) : Bool := t.cells.all (fun l => l.all bd2B) && t.goal.all bd2B
theorem Tb.bdsB_ok {t : Tb} (h : t.bdsB = true) : t.Bds 2 := by
 unfold Tb.bdsB at h
 rw [Bool.and_eq_true, List.all_eq_true, List.all_eq_true] at h
 exact ⟨fun i hi x hx => bd2B_ok (List.all_eq_true.1 (h.1 _ (bN hi)) x hx), fun x hx => bd2B_ok (h.2 x hx)⟩
def exP : PB := ((2, [(1, [wI 1, wI 1]), (1, [wI 0, wI 1])]), (1, [wI 4, wI 3]), (1, [wI 1, wI 2]))
theorem exP_T : ((lpT exP).frs 2).pnt = [1, 3] := by decide +kernel
theorem exP_b : ∀ k, k ≤ 2 → ((lpT exP).frs k).bdsB = true := by decide +kernel
theorem exP_F : ∀ i, i < 2 + 2 → ((lpT exP).frs 2).sd (((lpT exP).frs 2).basic.getD i default) = true → 0 ≤ (((lpT exP).frs 2).cells.getD i default).getD 0 default := by decide +kernel
theorem exP_Z : ∀ k, k < 2 → ((lpT exP).frs 2).out.getD k default < ((2 : Nat) : Int) → ((lpT exP).frs 2).goal.getD (k + 1) default = 0 := by decide +kernel
theorem exP_D : ∀ c, c < 2 → ((lpT exP).frs 2).sd (((lpT exP).frs 2).out.getD c default) = true → 0 ≤ ((lpT exP).frs 2).goal.getD (c + 1) default := by decide +kernel
theorem exP_M : (((lpT exP).frs 2).mlt ((lpT exP).frs 2).goal).take 2 = [1, 1] ∧ ((lpT exP).frs 2).goal.getD 0 default = -7 := by decide +kernel
def exC : List LV := .v (.int .i64 2) :: (mc (wI 7) ++ [.sl 1 ([wI 1, wI 3].map mc), .sl 1 ([wI 1, wI 1].map mc), .sl 0 []])
theorem exP_R : mxR ((lpT exP).frs exP.2.2.2.length) exP.1.2.length = .tup [.agg exC, .v (.int .i64 0)] := by
 show mxR ((lpT exP).frs 2) 2 = _
 have e1 : ([1, 3] : List Rat).mapM outN = some [wI 1, wI 3] := by decide +kernel
 have e2 : ([1, 1] : List Rat).mapM outN = some [wI 1, wI 1] := by decide +kernel
 have e3 : outN (-(-7 : Rat)) = some (wI 7) := by decide +kernel
 unfold mxR
 rw [exP_T, exP_M.1, exP_M.2, e1, e2, e3]
 rfl
theorem exP_V : vP exP = true := by decide +kernel
theorem i64v (ns : List Int) (h : ∀ n, n ∈ ns → I64 n) : IV (ns.map wI) := by
 intro y hy
 obtain ⟨n, hn, rfl⟩ := List.mem_map.1 hy
 exact ⟨h n hn, by show I64 1; unfold I64; omega⟩
theorem exP_I : IP exP := ⟨by
  intro r hr
  simp only [exP, List.mem_cons, List.not_mem_nil, or_false] at hr
  rcases hr with rfl | rfl
  ·exact i64v [1, 1] (by intro n hn; simp at hn; unfold I64; omega)
  ·exact i64v [0, 1] (by intro n hn; simp at hn; unfold I64; omega), i64v [4, 3] (by intro n hn; simp at hn; unfold I64; omega), i64v [1, 2] (by intro n hn; simp at hn; unfold I64; omega), by decide, by decide, by decide, by decide⟩
end Go.Ab
namespace Go.Ab
open Go.RowKit
def wlgD (l : List Int) (i : Nat) : Int := l.getD i 0 % 10
def wlgN (l : List Int) : Nat → Int
 | 0 => wlgD l 0
 | i + 1 => wlgN l i + wlgD l (i + 1)
def wlgS (l : List Int) : Nat → Int
 | 0 => 0
 | k + 1 => wlgS l k + wlgN l k
def wlgR (l : List Int) (m c : Nat) : Int := if c = 0 then wlgN l m else if c ≤ m + 1 then -1 else 0
def wlgL (l : List Int) (n k i c : Nat) : Int :=
 if i < n then (if i ≤ k then wlgR l i c else if c = 0 then wlgD l i else if c = i + 1 then -1 else if c = i then 1 else 0)
 else if i - n < k then wlgR l (i - n) c else if c = i - n + 1 then 1 else 0
def wlgG (l : List Int) (k c : Nat) : Int := if c = 0 then -wlgS l k else if c ≤ k then (k : Int) - ((c : Int) - 1) else -1
def wlgT (l : List Int) (n k : Nat) : Tb :=
 { n := n, eqs := List.replicate (n + n) false, basic := tab (n + n) fun i => if i < k then (i : Int) else ((n + i : Nat) : Int), out := tab n fun j => if j < k then ((n + j : Nat) : Int) else (j : Int), cells := tab (n + n) fun i => tab (n + 1) fun c => ((wlgL l n k i c : Int) : Rat), goal := tab (n + 1) fun c => ((wlgG l k c : Int) : Rat) }
theorem frsR_tab {m k : Nat} {f : Nat → Rat} (hk : k + 1 < m) : frsR (tab m f) k = tab m fun c => if c = k + 1 then 1 / f (k + 1) else -(f c / f (k + 1)) := by
 refine lO (by rw [iB, aX, aX]) fun c hc => ?_
 rw [iB, aX] at hc
 rw [oL (by rw [aX]; exact hc), cC _ hc, cC _ hk, cC _ hc]
theorem rplR_tab {m k : Nat} {a b : Nat → Rat} (hk : k + 1 < m) : rplR (tab m a) (tab m b) k = tab m fun c => (if c = k + 1 then 0 else a c) + a (k + 1) * b c := by
 refine lO (by rw [iG, aX, aX]) fun c hc => ?_
 rw [iG, aX] at hc
 rw [oV (by rw [aX]; exact hc), cC _ hc, cC _ hk, cC _ hc, cC _ hc]
theorem rJ {l : List Int} {n k : Nat} (hk : k < n) (c : Nat) : wlgL l n k k c = wlgR l k c ∧ wlgL l n (k + 1) k c = wlgR l k c := by
 unfold wlgL
 rw [if_pos hk, if_pos (Nat.le_refl k), if_pos hk, if_pos (Nat.le_succ k)]
 exact ⟨rfl, rfl⟩
theorem pA (l : List Int) (k : Nat) : wlgR l k (k + 1) = -1 := by unfold wlgR; rw [if_neg om, if_pos (Nat.le_refl _)]
theorem wlg_key {l : List Int} {n k i c : Nat} (hk : k < n) (hi : i < n + n) (hik : i ≠ k) (hc : c < n + 1) : (if c = k + 1 then 0 else wlgL l n k i c) + wlgL l n k i (k + 1) * wlgR l k c = wlgL l n (k + 1) i c := by
 have hN : wlgN l (k + 1) = wlgN l k + wlgD l (k + 1) := rfl
 unfold wlgL
 by_cases h1 : i < n
 ·rw [if_pos h1, if_pos h1, if_pos h1]
  by_cases h2 : i ≤ k
  ·rw [if_pos h2, if_pos h2, if_pos (show i ≤ k + 1 by omega)]
   have : wlgR l i (k + 1) = 0 := by unfold wlgR; rw [if_neg om, if_neg om]
   rw [this, Int.zero_mul, Int.add_zero]
   split
   ·rename_i e; subst e; exact this.symm
   ·rfl
  ·rw [if_neg h2, if_neg h2, if_neg (show ¬ k + 1 = 0 by omega), if_neg (show ¬ k + 1 = i + 1 by omega)]
   by_cases h3 : i = k + 1
   ·subst h3
    rw [if_pos rfl, if_pos (Nat.le_refl _), Int.one_mul]
    unfold wlgR
    by_cases h4 : c = 0
    ·subst h4
     rw [if_neg om, if_pos rfl, if_pos rfl, if_pos rfl, hN]; omega
    ·rw [if_neg h4, if_neg h4]
     by_cases h5 : c = k + 1
     ·subst h5; rw [if_pos rfl, if_pos (Nat.le_refl _), if_neg h4, if_pos om]; omega
     ·rw [if_neg h5, if_neg h5, if_neg h4]
      by_cases h6 : c = k + 1 + 1
      ·subst h6; rw [if_pos rfl, if_neg om, if_pos (Nat.le_refl _)]; omega
      ·rw [if_neg h6]
       by_cases h7 : c ≤ k + 1
       ·rw [if_pos h7, if_pos om]; omega
       ·rw [if_neg h7, if_neg om]; omega
   ·rw [if_neg (show ¬ k + 1 = i by omega), if_neg (show ¬ i ≤ k + 1 by omega), Int.zero_mul, Int.add_zero]
    by_cases h5 : c = k + 1
    ·subst h5; rw [if_pos rfl, if_neg om, if_neg om, if_neg om]
    ·rw [if_neg h5]
 ·rw [if_neg h1, if_neg h1, if_neg h1]
  by_cases h2 : i - n < k
  ·rw [if_pos h2, if_pos h2, if_pos (show i - n < k + 1 by omega)]
   have : wlgR l (i - n) (k + 1) = 0 := by unfold wlgR; rw [if_neg om, if_neg om]
   rw [this, Int.zero_mul, Int.add_zero]
   split
   ·rename_i e; subst e; exact this.symm
   ·rfl
  ·rw [if_neg h2, if_neg h2]
   by_cases h3 : i - n = k
   ·rw [h3, if_pos (rfl : k + 1 = k + 1), if_pos (show k < k + 1 by omega), Int.one_mul]
    split
    ·omega
    ·omega
   ·rw [if_neg (show ¬ k + 1 = i - n + 1 by omega), if_neg (show ¬ i - n < k + 1 by omega), Int.zero_mul, Int.add_zero]
    by_cases h5 : c = k + 1
    ·subst h5; rw [if_pos rfl, if_neg om]
    ·rw [if_neg h5]
theorem wlg_keyG {l : List Int} {n k c : Nat} (hk : k < n) (hc : c < n + 1) : (if c = k + 1 then 0 else wlgG l k c) + wlgG l k (k + 1) * wlgR l k c = wlgG l (k + 1) c := by
 have hS : wlgS l (k + 1) = wlgS l k + wlgN l k := rfl
 unfold wlgG
 rw [if_neg (show ¬ k + 1 = 0 by omega), if_neg (show ¬ k + 1 ≤ k by omega)]
 unfold wlgR
 by_cases h4 : c = 0
 ·subst h4; rw [if_neg om, if_pos rfl, if_pos rfl, if_pos rfl, hS]; omega
 ·rw [if_neg h4, if_neg h4, if_neg h4]
  by_cases h5 : c = k + 1
  ·subst h5; rw [if_pos rfl, if_pos (Nat.le_refl _), if_pos (Nat.le_refl _)]; omega
  ·rw [if_neg h5]
   by_cases h6 : c ≤ k
   ·rw [if_pos h6, if_pos om, if_pos om]; omega
   ·rw [if_neg h6, if_neg om, if_neg om]; omega
theorem rat_inv1 : 1 / ((-1 : Int) : Rat) = ((-1 : Int) : Rat) := by decide +kernel
theorem rat_neg1 (x : Rat) : -(x / ((-1 : Int) : Rat)) = x := by
 have : ((-1 : Int) : Rat) = -1 := rfl
 rw [this]; grind
theorem wlgT_piv {l : List Int} {n k : Nat} (hk : k < n) : (wlgT l n k).piv k k = wlgT l n (k + 1) := by
 have hrow : (wlgT l n k).cells.getD k default = tab (n + 1) fun c => ((wlgR l k c : Int) : Rat) := by
  refine (cC _ om).trans (cW fun c _ => ?_)
  rw [(rJ hk c).1]
 have hf : frsR ((wlgT l n k).cells.getD k default) k = tab (n + 1) fun c => ((wlgR l k c : Int) : Rat) := by
  rw [hrow, frsR_tab om]
  refine cW fun c hc => ?_
  rw [pA]
  by_cases e : c = k + 1
  ·subst e; rw [if_pos rfl, pA]; exact rat_inv1
  ·rw [if_neg e, rat_neg1]
 have h1 : (wlgT l n k).basic.set k ((wlgT l n k).out.getD k default) = (wlgT l n (k + 1)).basic := by
  have e : (wlgT l n k).out.getD k default = (k : Int) := (cC _ hk).trans (if_neg om)
  rw [e]
  refine (kN _ _).trans (cW fun i hi => ?_)
  unfold fset
  dsimp only
  by_cases h : i = k
  ·subst h; rw [if_pos rfl, if_pos om]
  ·rw [if_neg h]
   by_cases h2 : i < k
   ·rw [if_pos h2, if_pos om]
   ·rw [if_neg h2, if_neg om]
 have h2 : (wlgT l n k).out.set k ((wlgT l n k).basic.getD k default) = (wlgT l n (k + 1)).out := by
  have e : (wlgT l n k).basic.getD k default = ((n + k : Nat) : Int) := (cC _ om).trans (if_neg om)
  rw [e]
  refine (kN _ _).trans (cW fun i hi => ?_)
  unfold fset
  dsimp only
  by_cases h : i = k
  ·subst h; rw [if_pos rfl, if_pos om]
  ·rw [if_neg h]
   by_cases h2 : i < k
   ·rw [if_pos h2, if_pos om]
   ·rw [if_neg h2, if_neg om]
 have h3 : ((wlgT l n k).cells.map fun r => rplR r (frsR ((wlgT l n k).cells.getD k default) k) k).set k (frsR ((wlgT l n k).cells.getD k default) k) = (wlgT l n (k + 1)).cells := by
  rw [hf]
  have e : ((wlgT l n k).cells.map fun r => rplR r (tab (n + 1) fun c => ((wlgR l k c : Int) : Rat)) k) = tab (n + n) fun i => rplR (tab (n + 1) fun c => ((wlgL l n k i c : Int) : Rat)) (tab (n + 1) fun c => ((wlgR l k c : Int) : Rat)) k := by
   show (tab _ _).map _ = _
   unfold tab
   rw [List.map_map]; rfl
  rw [e, kN]
  refine cW fun i hi => ?_
  unfold fset
  by_cases h : i = k
  ·subst h
   rw [if_pos rfl]
   exact cW fun c _ => by rw [(rJ hk c).2]
  ·rw [if_neg h]
   dsimp only
   rw [rplR_tab om]
   refine cW fun c hc => ?_
   rw [← wlg_key hk hi h hc, Rat.intCast_add, Rat.intCast_mul]
   congr 1
   split <;> rfl
 have h4 : rplR (wlgT l n k).goal (frsR ((wlgT l n k).cells.getD k default) k) k = (wlgT l n (k + 1)).goal := by
  rw [hf]
  refine (rplR_tab om).trans (cW fun c hc => ?_)
  rw [← wlg_keyG hk hc, Rat.intCast_add, Rat.intCast_mul]
  congr 1
  split <;> rfl
 show Tb.mk n (List.replicate (n + n) false) _ _ _ _ = Tb.mk n (List.replicate (n + n) false) _ _ _ _
 rw [h1, h2, h3, h4]
 rfl
theorem jJ {l : List Int} {n k i : Nat} (hi : i < n + n) : (wlgT l n k).basic.getD i default = if i < k then (i : Int) else ((n + i : Nat) : Int) := cC _ hi
theorem pB {l : List Int} {n k j : Nat} (hj : j < n) : (wlgT l n k).out.getD j default = if j < k then ((n + j : Nat) : Int) else (j : Int) := cC _ hj
theorem mT {l : List Int} {n k i c : Nat} (hi : i < n + n) (hc : c < n + 1) : ((wlgT l n k).cells.getD i default).getD c default = ((wlgL l n k i c : Int) : Rat) := by
 rw [show (wlgT l n k).cells.getD i default = tab (n + 1) fun c => ((wlgL l n k i c : Int) : Rat) from cC _ hi]
 exact cC _ hc
theorem mU {l : List Int} {n k c : Nat} (hc : c < n + 1) : (wlgT l n k).goal.getD c default = ((wlgG l k c : Int) : Rat) := cC _ hc
theorem wlgT_sd {l : List Int} {n k : Nat} (v : Int) : (wlgT l n k).sd v = decide ((n : Int) ≤ v) := by
 have h : (wlgT l n k).eqn v = false := by
  unfold Tb.eqn
  have : (wlgT l n k).eqs.getD (v - (wlgT l n k).n).toNat default = false := by
   show (List.replicate (n + n) false).getD _ false = false
   rw [List.getD_eq_getElem?_getD, List.getElem?_replicate]
   split <;> rfl
  rw [this, Bool.and_false]
 unfold Tb.sd
 rw [h, Bool.not_false, Bool.and_true]
 rfl
theorem qE {l : List Int} {n k : Nat} : (wlgT l n k).basic.length = n + n := aX _ _
theorem wlgT_fr1 {l : List Int} {n k : Nat} (hk : k < n) : ∀ d j i, i + d = k → i + j = n + n → (wlgT l n k).fr1 k j i = wlgT l n (k + 1)
 | 0, j, i, h1, h2 => by
  obtain rfl : i = k := by omega
  obtain ⟨j, rfl⟩ : ∃ z, j = z + 1 := ⟨j - 1, om⟩
  rw [Tb.fr1_hit, wlgT_piv hk]
  ·rw [jJ om, if_neg om, wlgT_sd]; exact decide_eq_true om
  ·rw [mT om om, (rJ hk _).1, pA]; decide +kernel
 | d + 1, j, i, h1, h2 => by
  obtain ⟨j, rfl⟩ : ∃ z, j = z + 1 := ⟨j - 1, om⟩
  rw [Tb.fr1_miss, wlgT_fr1 hk d j (i + 1) om om]
  rintro ⟨h, -⟩
  rw [jJ om, if_pos om, wlgT_sd, decide_eq_true_eq] at h
  omega
theorem mE {l : List Int} {n : Nat} : ∀ k, k ≤ n → (wlgT l n 0).frs k = wlgT l n k
 | 0, _ => rfl
 | k + 1, hk => by
  rw [Tb.frs_do, mE k om, qE]
  ·exact wlgT_fr1 om k (n + n) 0 om om
  ·rw [mE k om, pB om, if_neg om]
   show ¬ (n : Int) ≤ (k : Int)
   omega
theorem kO (l : List Int) (i : Nat) : 0 ≤ wlgD l i ∧ wlgD l i ≤ 9 := by unfold wlgD; omega
theorem gZ (l : List Int) : ∀ i, 0 ≤ wlgN l i ∧ wlgN l i ≤ 9 * (i + 1)
 | 0 => by have := kO l 0; show 0 ≤ wlgD l 0 ∧ wlgD l 0 ≤ 9 * (((0 : Nat) : Int) + 1); omega
 | i + 1 => by
  have h1 := gZ l i; have h2 := kO l (i + 1)
  show 0 ≤ wlgN l i + wlgD l (i + 1) ∧ wlgN l i + wlgD l (i + 1) ≤ 9 * (((i + 1 : Nat) : Int) + 1)
  omega
theorem kQ (l : List Int) {n : Nat} (hn : n ≤ 40) : ∀ k, k ≤ n → 0 ≤ wlgS l k ∧ wlgS l k ≤ 400 * k
 | 0, _ => by show 0 ≤ (0 : Int) ∧ (0 : Int) ≤ 400 * ((0 : Nat) : Int); omega
 | k + 1, hk => by
  have h1 := kQ l hn k om; have h2 := gZ l k
  show 0 ≤ wlgS l k + wlgN l k ∧ wlgS l k + wlgN l k ≤ 400 * ((k + 1 : Nat) : Int)
  omega
theorem wlgR_bd (l : List Int) {m c : Nat} (hm : m ≤ 40) : (wlgR l m c).natAbs < 18446744073709551616 := by
 have := gZ l m
 unfold wlgR
 split
 ·omega
 ·split <;> decide
theorem wlgL_bd (l : List Int) {n k i c : Nat} (hn : n ≤ 40) (hi : i < n + n) : (wlgL l n k i c).natAbs < 18446744073709551616 := by
 have := kO l i
 unfold wlgL
 split
 ·split
  ·exact wlgR_bd l om
  ·split
   ·omega
   ·split
    ·decide
    ·split <;> decide
 ·split
  ·exact wlgR_bd l om
  ·split <;> decide
theorem wlgG_bd (l : List Int) {n k c : Nat} (hn : n ≤ 40) (hk : k ≤ n) : (wlgG l k c).natAbs < 18446744073709551616 := by
 have := kQ l hn k hk
 unfold wlgG
 split
 ·omega
 ·split
  ·omega
  ·decide
theorem wlgT_bds {l : List Int} {n k : Nat} (hn : n ≤ 40) (hk : k ≤ n) : (wlgT l n k).Bds 2 := by
 constructor
 ·intro i hi x hx
  have hi : i < n + n := by have : (wlgT l n k).cells.length = n + n := aX _ _; omega
  rw [show (wlgT l n k).cells.getD i default = tab (n + 1) fun c => ((wlgL l n k i c : Int) : Rat) from cC _ hi] at hx
  obtain ⟨c, hc, rfl⟩ := dW.1 hx
  exact qG (wlgL_bd l hn hi)
 ·intro x hx
  obtain ⟨c, hc, rfl⟩ := dW.1 hx
  exact qG (wlgG_bd l hn hk)
theorem jL {z : Int} (h : 0 ≤ z) : 0 ≤ (z : Rat) := Rat.intCast_nonneg.2 h
theorem wlgT_F {l : List Int} {n : Nat} : ∀ i, i < n + n → (wlgT l n n).sd ((wlgT l n n).basic.getD i default) = true → 0 ≤ ((wlgT l n n).cells.getD i default).getD 0 default := by
 intro i hi h
 rw [mT hi om]
 refine jL ?_
 unfold wlgL wlgR
 by_cases h1 : i < n
 ·rw [if_pos h1, if_pos om, if_pos rfl]; exact (gZ l i).1
 ·rw [if_neg h1, if_pos om, if_pos rfl]; exact (gZ l _).1
theorem wlgT_Z {l : List Int} {n : Nat} : ∀ k, k < n → (wlgT l n n).out.getD k default < (n : Int) → (wlgT l n n).goal.getD (k + 1) default = 0 := by
 intro k hk h
 rw [pB hk, if_pos hk] at h
 omega
theorem wlgT_D {l : List Int} {n : Nat} : ∀ c, c < n → (wlgT l n n).sd ((wlgT l n n).out.getD c default) = true → 0 ≤ (wlgT l n n).goal.getD (c + 1) default := by
 intro c hc _
 rw [mU om]
 refine jL ?_
 unfold wlgG
 rw [if_neg om, if_pos om]
 omega
open Go.RowKit
def wlgA (i c : Nat) : Int := if c = i then 1 else if c + 1 = i then -1 else 0
def wlgM (l : List Int) : Nat → Int
 | 0 => 0
 | i + 1 => wlgN l i
theorem kP (l : List Int) : ∀ i, wlgM l i + wlgD l i = wlgM l (i + 1)
 | 0 => by show 0 + wlgD l 0 = wlgD l 0; omega
 | i + 1 => rfl
theorem qD (l : List Int) (i : Nat) : wlgS l i + wlgM l (i + 1) = wlgS l (i + 1) := rfl
def wRow (n i : Nat) : M1 := (1, tab n fun c => (wlgA i c, 1))
def wP (l : List Int) (n : Nat) : PB := ((kd n, tab n (wRow n)), (kd n, tab n fun i => (wlgD l i, 1)), (kd n, tab n fun _ => (1, 1)))
theorem nx_int (z : Int) : (nx (z, 1)).1 = (z : Rat) := jV z
theorem tab_cons {α : Type} (n : Nat) (f : Nat → α) : tab (n + 1) f = f 0 :: tab n fun c => f (c + 1) := by
 unfold tab
 rw [List.range_succ_eq_map, List.map_cons, List.map_map]; rfl
theorem kL {α β : Type} (n : Nat) (f : Nat → α) (g : α → β) : (tab n f).map g = tab n fun c => g (f c) := by
 unfold tab; rw [List.map_map]; rfl
theorem tab_app {α : Type} (n m : Nat) (f g : Nat → α) : tab n f ++ tab m g = tab (n + m) fun i => if i < n then f i else g (i - n) := by
 unfold tab
 rw [List.range_add, List.map_append, List.map_map]
 refine congr (congrArg _ (List.map_congr_left fun i hi => ?_)) (List.map_congr_left fun i hi => ?_)
 ·rw [if_pos (List.mem_range.1 hi)]
 ·show g i = if n + i < n then _ else _
  rw [if_neg om, Nat.add_sub_cancel_left]
theorem wP_T (l : List Int) (n : Nat) : lpT (wP l n) = wlgT l n 0 := by
 have hn : (wP l n).2.2.2.length = n := aX _ _
 have hm : (wP l n).1.2.length = n := aX _ _
 unfold lpT
 rw [hn, hm]
 have hA : ((List.range n).map fun i => (((wP l n).1.2.getD i default).2.map fun a => -(nx a).1, (nx ((wP l n).2.1.2.getD i default)).1, false)) = tab n fun i => ((tab n fun c => -((wlgA i c : Int) : Rat)), ((wlgD l i : Int) : Rat), false) := by
  refine cW fun i hi => ?_
  have e1 : (wP l n).1.2.getD i default = wRow n i := cC _ hi
  have e2 : (wP l n).2.1.2.getD i default = (wlgD l i, 1) := cC _ hi
  rw [e1, e2, nx_int]
  have e3 : ((wRow n i).2.map fun a => -(nx a).1) = tab n fun c => -((wlgA i c : Int) : Rat) := (kL _ _ _).trans (cW fun c _ => by rw [nx_int])
  rw [e3]
 have hB : ((List.range n).map fun k => ((List.replicate n (0 : Rat)).set k 1, (0 : Rat), false)) = tab n fun k => ((tab n fun c => if c = k then (1 : Rat) else 0), (0 : Rat), false) := by
  refine cW fun k _ => ?_
  rw [kK, kN]; rfl
 have hG : ((wP l n).2.2.2.map fun a => (nx a).1 * -1) = tab n fun _ => ((-1 : Int) : Rat) := (kL _ _ _).trans (cW fun c _ => by rw [nx_int]; decide +kernel)
 rw [hA, hB, hG, tab_app]
 unfold opn wlgT
 have h1 : ((tab (n + n) fun i => if i < n then ((tab n fun c => -((wlgA i c : Int) : Rat)), ((wlgD l i : Int) : Rat), false) else ((tab n fun c => if c = i - n then (1 : Rat) else 0), (0 : Rat), false)).map fun r : List Rat × Rat × Bool => r.2.2) = List.replicate (n + n) false := by
  rw [kL, kK]
  refine cW fun i _ => ?_
  split <;> rfl
 have h2 : ((tab (n + n) fun i => if i < n then ((tab n fun c => -((wlgA i c : Int) : Rat)), ((wlgD l i : Int) : Rat), false) else ((tab n fun c => if c = i - n then (1 : Rat) else 0), (0 : Rat), false)).map fun r : List Rat × Rat × Bool => r.2.1 :: r.1) = tab (n + n) fun i => tab (n + 1) fun c => ((wlgL l n 0 i c : Int) : Rat) := by
  rw [kL]
  refine cW fun i hi => ?_
  rw [tab_cons]
  by_cases h : i < n
  ·rw [if_pos h]
   refine congr (congrArg _ ?_) (cW fun c _ => ?_)
   ·show ((wlgD l i : Int) : Rat) = _
    congr 1
    unfold wlgL wlgR
    rw [if_pos h]
    by_cases h0 : i ≤ 0
    ·rw [if_pos h0, if_pos rfl]
     obtain rfl : i = 0 := by omega
     rfl
    ·rw [if_neg h0, if_pos rfl]
   ·show -((wlgA i c : Int) : Rat) = _
    rw [← Rat.intCast_neg]
    congr 1
    unfold wlgL wlgR wlgA
    rw [if_pos h]
    by_cases h0 : i ≤ 0
    ·rw [if_pos h0, if_neg (show ¬ c + 1 = 0 by omega)]
     by_cases h1 : c = i
     ·rw [if_pos h1, if_pos om]
     ·rw [if_neg h1, if_neg (show ¬ c + 1 = i by omega), if_neg om]; rfl
    ·rw [if_neg h0, if_neg (show ¬ c + 1 = 0 by omega)]
     by_cases h1 : c = i
     ·rw [if_pos h1, if_pos (show c + 1 = i + 1 by omega)]
     ·rw [if_neg h1, if_neg (show ¬ c + 1 = i + 1 by omega)]
      by_cases h2 : c + 1 = i
      ·rw [if_pos h2, if_pos h2]; rfl
      ·rw [if_neg h2, if_neg h2]; rfl
  ·rw [if_neg h]
   refine congr (congrArg _ ?_) (cW fun c _ => ?_)
   ·show (0 : Rat) = _
    unfold wlgL
    rw [if_neg h, if_neg (Nat.not_lt_zero _), if_neg om]; rfl
   ·show (if c = i - n then (1 : Rat) else 0) = _
    unfold wlgL
    rw [if_neg h, if_neg (Nat.not_lt_zero _)]
    by_cases h1 : c = i - n
    ·rw [if_pos h1, if_pos om]; rfl
    ·rw [if_neg h1, if_neg om]; rfl
 have h3 : (0 * -1 : Rat) :: (tab n fun _ => ((-1 : Int) : Rat)) = tab (n + 1) fun c => ((wlgG l 0 c : Int) : Rat) := by
  rw [tab_cons]
  refine congr (congrArg _ ?_) (cW fun c _ => ?_)
  ·show (0 * -1 : Rat) = ((wlgG l 0 0 : Int) : Rat); unfold wlgG; rw [if_pos rfl]; show (0 * -1 : Rat) = ((-(0 : Int) : Int) : Rat); decide +kernel
  ·unfold wlgG; rw [if_neg om, if_neg om]
 have h4 : (tab (n + n) fun i => if i < n then ((tab n fun c => -((wlgA i c : Int) : Rat)), ((wlgD l i : Int) : Rat), false) else ((tab n fun c => if c = i - n then (1 : Rat) else 0), (0 : Rat), false)).length = n + n := aX _ _
 have h5 : ((List.range (n + n)).map fun i => ((n + i : Nat) : Int)) = tab (n + n) fun i => if i < 0 then (i : Int) else ((n + i : Nat) : Int) := cW fun i _ => by rw [if_neg (Nat.not_lt_zero _)]
 have h6 : ((List.range n).map fun k : Nat => (k : Int)) = tab n fun j => if j < 0 then ((n + j : Nat) : Int) else (j : Int) := cW fun i _ => by rw [if_neg (Nat.not_lt_zero _)]
 rw [h1, h2, h3, h4, h5, h6]
theorem wlgL_c0 {l : List Int} {n i : Nat} (hi : i < n) : wlgL l n n i 0 = wlgN l i := by
 unfold wlgL wlgR; rw [if_pos hi, if_pos om, if_pos rfl]
theorem wpnt {l : List Int} {n : Nat} : ∀ i, i ≤ n → (wlgT l n n).pntS i = tab n fun j => if j < i then ((wlgN l j : Int) : Rat) else 0
 | 0, _ => by
  show List.replicate n (0 : Rat) = _
  rw [kK]; exact cW fun j _ => by rw [if_neg om]
 | i + 1, hi => by
  have hb : (wlgT l n n).basic.getD i default = (i : Int) := (jJ om).trans (if_pos om)
  rw [Tb.pntS_yes (by rw [hb]; exact ⟨om, by show (i : Int) < (n : Int); omega⟩), hb, wpnt i om, mT om om, wlgL_c0 om, Int.toNat_natCast, kN]
  refine cW fun j _ => ?_
  unfold fset
  dsimp only
  by_cases h : j = i
  ·subst h; rw [if_pos rfl, if_pos om]
  ·rw [if_neg h]
   by_cases h2 : j < i
   ·rw [if_pos h2, if_pos om]
   ·rw [if_neg h2, if_neg om]
theorem wpnt2 {l : List Int} {n : Nat} : ∀ d, d ≤ n → (wlgT l n n).pntS (n + d) = tab n fun j => ((wlgN l j : Int) : Rat)
 | 0, _ => (wpnt n (Nat.le_refl n)).trans (cW fun j hj => if_pos hj)
 | d + 1, hd => by
  have hb : (wlgT l n n).basic.getD (n + d) default = ((n + (n + d) : Nat) : Int) := (jJ om).trans (if_neg om)
  rw [← Nat.add_assoc, Tb.pntS_no, wpnt2 d om]
  rw [hb]
  rintro ⟨-, h⟩
  have h : ((n + (n + d) : Nat) : Int) < (n : Int) := h
  omega
theorem wlgT_pnt (l : List Int) (n : Nat) : (wlgT l n n).pnt = tab n fun j => ((wlgN l j : Int) : Rat) := by
 have := wpnt2 (l := l) n (Nat.le_refl n)
 rw [← this]
 unfold Tb.pnt Tb.pntS
 rw [qE]
theorem wmlt {l : List Int} {n : Nat} : ∀ k, k ≤ n → (wlgT l n n).mltS (wlgT l n n).goal k = tab (n + n) fun j => if j < k then (((n : Int) - (j : Int) : Int) : Rat) else 0
 | 0, _ => by
  show List.replicate (List.replicate (n + n) false).length (0 : Rat) = _
  rw [List.length_replicate, kK]; exact cW fun j _ => by rw [if_neg om]
 | k + 1, hk => by
  have hb : (wlgT l n n).out.getD k default = ((n + k : Nat) : Int) := (pB om).trans (if_pos om)
  have he : (wlgT l n n).eqs.length = n + n := List.length_replicate
  have hg : (wlgT l n n).goal.getD (k + 1) default = (((n : Int) - (k : Int) : Int) : Rat) := by
   rw [mU om]
   congr 1
   unfold wlgG
   rw [if_neg om, if_pos om]; omega
  rw [Tb.mltS_yes (by rw [hb, he]; exact ⟨by show (n : Int) ≤ _; omega, by show _ < (n : Int) + _; omega⟩), hb, wmlt k om, hg]
  rw [show (((n + k : Nat) : Int) - ((wlgT l n n).n : Int)).toNat = k by show (((n + k : Nat) : Int) - (n : Int)).toNat = k; omega, kN]
  refine cW fun j _ => ?_
  unfold fset
  dsimp only
  by_cases h : j = k
  ·subst h; rw [if_pos rfl, if_pos om]
  ·rw [if_neg h]
   by_cases h2 : j < k
   ·rw [if_pos h2, if_pos om]
   ·rw [if_neg h2, if_neg om]
theorem wlgT_mlt (l : List Int) (n : Nat) : ((wlgT l n n).mlt (wlgT l n n).goal).take n = tab n fun j => (((n : Int) - (j : Int) : Int) : Rat) := by
 have := wmlt (l := l) n (Nat.le_refl n)
 have e : (wlgT l n n).mlt (wlgT l n n).goal = (wlgT l n n).mltS (wlgT l n n).goal n := by
  unfold Tb.mlt Tb.mltS
  rw [show (wlgT l n n).out.length = n from aX _ _]
 rw [e, this]
 unfold tab
 rw [← List.map_take, List.take_range, show min n (n + n) = n by omega]
 exact List.map_congr_left fun j hj => if_pos (List.mem_range.1 hj)
theorem oA {z : Int} (h1 : -1152921504606846976 ≤ z) (h2 : z ≤ 1152921504606846976) : VN (z, 1) := ⟨by show (1 : Int) ≤ 1; decide, by show (1 : Int) ≤ 1152921504606846976; decide, h2, h1, Int.gcd_one_right z⟩
theorem pR {n : Nat} {f : Nat → Int} (h : ∀ j, j < n → -1152921504606846976 ≤ f j ∧ f j ≤ 1152921504606846976) : (tab n fun j => ((f j : Int) : Rat)).mapM outN = some (tab n fun j => (f j, 1)) := by
 have := outs_nq (r := tab n fun j => (f j, (1 : Int))) (fun y hy => by
  obtain ⟨j, hj, rfl⟩ := dW.1 hy
  exact oA (h j hj).1 (h j hj).2)
 rw [kL] at this
 rw [← this]
 congr 1
 exact cW fun j _ => (jV _).symm
def qwX (l : List Int) (n : Nat) : List NM := tab n fun j => (wlgN l j, 1)
def qwY (n : Nat) : List NM := tab n fun j => ((n : Int) - (j : Int), 1)
def qwR (l : List Int) (n : Nat) : RS := (2, (wlgS l n, 1), (kd n, qwX l n), (kd n, qwY n), (0, []))
theorem qwR_eq (l : List Int) {n : Nat} (hn : n ≤ 40) : mxR ((lpT (wP l n)).frs n) n = .tup [lvRs (qwR l n), .v (.int .i64 0)] := by
 rw [wP_T, mE n (Nat.le_refl n)]
 unfold mxR
 have hg : -(wlgT l n n).goal.getD 0 default = ((wlgS l n : Int) : Rat) := by
  rw [mU om]
  unfold wlgG
  rw [if_pos rfl, Rat.intCast_neg, Rat.neg_neg]
 have hS := kQ l hn n (Nat.le_refl n)
 have ho : outN ((wlgS l n : Int) : Rat) = some (wlgS l n, 1) := by
  rw [← jV]; exact outN_nq (oA om om)
 rw [wlgT_pnt, wlgT_mlt, hg, pR (fun j hj => by have := gZ l j; omega), pR (fun j hj => by omega), ho]
 show LV.tup [.agg (.v (.int .i64 2) :: (mc (wlgS l n, 1) ++ [.sl (kd (tab n _).length) _, .sl (kd (tab n _).length) _, .sl 0 []])), _] = _
 rw [aX, aX]
 rfl
theorem dt_int {n : Nat} {f g s : Nat → Int} (h0 : s 0 = 0) (hs : ∀ i, i < n → s (i + 1) = s i + f i * g i) : ∀ m, m ≤ n → dt (tab n fun j => ((f j : Int) : Rat)) (tab n fun j => ((g j : Int) : Rat)) m = ((s m : Int) : Rat)
 | 0, _ => by rw [h0]; rfl
 | m + 1, hm => by
  show dt _ _ m + _ * _ = _
  rw [dt_int h0 hs m om, hs m om, Rat.intCast_add, Rat.intCast_mul, cC _ om, cC _ om]
theorem nq_tab (n : Nat) (f : Nat → Int) : (tab n fun j => (f j, (1 : Int))).map nq = tab n fun j => ((f j : Int) : Rat) := (kL _ _ _).trans (cW fun c _ => jV _)
theorem qO {n : Nat} {f g s : Nat → Int} (h0 : s 0 = 0) (hs : ∀ i, i < n → s (i + 1) = s i + f i * g i) : dtN (tab n fun j => (f j, 1)) (tab n fun j => (g j, 1)) = ((s n : Int) : Rat) := by
 unfold dtN
 rw [nq_tab, nq_tab, aX]
 exact dt_int h0 hs n (Nat.le_refl n)
theorem posS_tab {n : Nat} {f : Nat → Int} (h : ∀ j, j < n → 0 ≤ f j ∧ f j ≤ 1152921504606846976) : posS (tab n fun j => (f j, 1)) n = true := by
 unfold posS
 rw [aX, decide_eq_true rfl, Bool.true_and, List.all_eq_true]
 intro x hx
 obtain ⟨j, hj, rfl⟩ := dW.1 hx
 unfold posN vn
 rw [decide_eq_true (oA (by have := h j hj; omega) (h j hj).2), decide_eq_true (h j hj).1]; rfl
theorem wdot_row {l : List Int} {n i : Nat} (hi : i < n) : dtN (wRow n i).2 (qwX l n) = ((wlgD l i : Int) : Rat) := by
 have h := qO (n := n) (f := fun c => wlgA i c) (g := fun j => wlgN l j) (s := fun m => (if i < m then wlgN l i else 0) - (if i ≤ m ∧ 1 ≤ i then wlgN l (i - 1) else 0)) (by
  rw [if_neg om, if_neg om]; rfl) (fun m hm => by
  unfold wlgA
  by_cases h1 : m = i
  ·subst h1
   rw [if_pos rfl, if_pos (show m < m + 1 by omega), if_neg (show ¬ m < m by omega)]
   by_cases h2 : 1 ≤ m
   ·rw [if_pos om, if_pos om]; omega
   ·rw [if_neg om, if_neg om]; omega
  ·rw [if_neg h1]
   by_cases h2 : m + 1 = i
   ·subst h2
    rw [if_pos rfl, if_neg om, if_pos om, if_neg om, if_neg om, Nat.add_sub_cancel]; omega
   ·rw [if_neg h2, Int.zero_mul, Int.add_zero]
    by_cases h3 : i < m
    ·rw [if_pos om, if_pos h3]
     by_cases h4 : 1 ≤ i
     ·rw [if_pos om, if_pos om]
     ·rw [if_neg om, if_neg om]
    ·rw [if_neg om, if_neg h3, if_neg om, if_neg om])
 unfold wRow qwX
 rw [h]
 congr 1
 rw [if_pos hi]
 cases i with
 | zero => rw [if_neg om]; show wlgD l 0 - 0 = _; omega
 | succ i => rw [if_pos om]; show wlgN l i + wlgD l (i + 1) - wlgN l i = _; omega
theorem wdot_goal (l : List Int) (n : Nat) : dtN (wP l n).2.2.2 (qwX l n) = ((wlgS l n : Int) : Rat) :=
 qO (n := n) (f := fun _ => 1) (g := fun j => wlgN l j) (s := fun m => wlgS l m) rfl (fun m _ => by show wlgS l m + wlgN l m = _; omega)
theorem wdot_right (l : List Int) (n : Nat) : dtN (wP l n).2.1.2 (qwY n) = ((wlgS l n : Int) : Rat) := by
 have h := qO (n := n) (f := fun j => wlgD l j) (g := fun j => (n : Int) - (j : Int)) (s := fun m => wlgS l m + ((n : Int) - (m : Int)) * wlgM l m) (by show (0 : Int) + _ * 0 = 0; omega) (fun m _ => by
  have h1 : wlgM l (m + 1) = wlgN l m := rfl
  have h2 := kP l m
  have h3 : wlgS l (m + 1) = wlgS l m + wlgN l m := rfl
  rw [h3, ← h1, ← h2]
  have e : ((m + 1 : Nat) : Int) = (m : Int) + 1 := by omega
  rw [e]
  grind)
 show dtN (tab n fun i => (wlgD l i, 1)) (tab n fun j => ((n : Int) - (j : Int), 1)) = _
 rw [h]
 congr 1
 rw [Int.sub_self, Int.zero_mul, Int.add_zero]
theorem wcol {l : List Int} {n k : Nat} (hk : k < n) : ∀ i, i ≤ n → colS (wP l n) (qwY n) k i = (((if k < i then (n : Int) - (k : Int) else 0) - (if k + 1 < i then (n : Int) - (k : Int) - 1 else 0) : Int) : Rat)
 | 0, _ => by rw [if_neg om, if_neg om]; rfl
 | i + 1, hi => by
  show colS (wP l n) (qwY n) k i + _ * _ = _
  have e1 : (wP l n).1.2.getD i default = wRow n i := cC _ om
  have e2 : (wRow n i).2.getD k default = (wlgA i k, 1) := cC _ hk
  have e3 : (qwY n).getD i default = ((n : Int) - (i : Int), 1) := cC _ om
  rw [wcol hk i om, e1, e2, e3, jV, jV, ← Rat.intCast_mul, ← Rat.intCast_add]
  congr 1
  unfold wlgA
  by_cases h1 : k = i
  ·subst h1
   rw [if_pos rfl, if_neg om, if_neg om, if_pos om, if_neg om]; omega
  ·rw [if_neg h1]
   by_cases h2 : k + 1 = i
   ·subst h2
    rw [if_pos rfl, if_pos om, if_neg om, if_pos om, if_pos om]; omega
   ·rw [if_neg h2, Int.zero_mul, Int.add_zero]
    by_cases h3 : k < i
    ·rw [if_pos h3, if_pos (show k + 1 < i by omega), if_pos om, if_pos om]
    ·rw [if_neg h3, if_neg om, if_neg om, if_neg om]
theorem wchk {l : List Int} {n : Nat} (hn : n ≤ 40) : chkS (wP l n) (qwR l n) = true := by
 have hS := kQ l hn n (Nat.le_refl n)
 have hm : (wP l n).1.2.length = n := aX _ _
 have hg : (wP l n).2.2.2.length = n := aX _ _
 unfold chkS
 rw [if_neg (by show ¬ (2 : Int) = 0; decide), if_neg (by show ¬ (2 : Int) = 1; decide), if_pos (by rfl)]
 unfold chk2
 have h1 : vn (qwR l n).2.1 = true := decide_eq_true (oA om om)
 have hX : posS (qwX l n) n = true := posS_tab fun j hj => by have := gZ l j; omega
 have h3 : feaS (wP l n) (qwX l n) = true := by
  unfold feaS
  rw [hg, hX, Bool.true_and, List.all_eq_true, hm]
  intro i hi
  rw [List.mem_range] at hi
  unfold feaR
  have e1 : (wP l n).1.2.getD i default = wRow n i := cC _ hi
  have e2 : (wP l n).2.1.2.getD i default = (wlgD l i, 1) := cC _ hi
  rw [e1, e2, wdot_row hi, jV]
  exact decide_eq_true Rat.le_refl
 have h4 : posS (qwY n) n = true := posS_tab fun j hj => by omega
 have h5 : covS (wP l n) (qwY n) ((wP l n).2.2.2.map nq) = true := by
  unfold covS
  rw [List.all_eq_true, hg]
  intro k hk
  rw [List.mem_range] at hk
  unfold covK
  rw [hm, wcol hk n (Nat.le_refl n)]
  have e1 : ((wP l n).2.2.2.map nq).getD k default = ((1 : Int) : Rat) := by
   show ((tab n fun _ => ((1 : Int), (1 : Int))).map nq).getD k default = _
   rw [nq_tab]; exact cC _ hk
  rw [e1, if_pos hk]
  refine decide_eq_true ?_
  have e2 : ((n : Int) - (k : Int)) - (if k + 1 < n then (n : Int) - (k : Int) - 1 else 0) = 1 := by
   by_cases h : k + 1 < n
   ·rw [if_pos h]; omega
   ·rw [if_neg h]; omega
  rw [e2]; exact Rat.le_refl
 show (vn (qwR l n).2.1 && decide (([] : List NM).length = 0) && feaS (wP l n) (qwX l n) && posS (qwY n) (wP l n).1.2.length && decide (dtN (wP l n).2.2.2 (qwX l n) = nq (wlgS l n, 1)) && decide (dtN (wP l n).2.1.2 (qwY n) = nq (wlgS l n, 1)) && covS (wP l n) (qwY n) ((wP l n).2.2.2.map nq)) = true
 rw [h1, h3, hm, h4, wdot_goal, wdot_right, jV, h5, decide_eq_true rfl]
 rfl
theorem wVV {n : Nat} {f : Nat → Int} (hn : n ≤ 40) (h : ∀ j, j < n → -10 ≤ f j ∧ f j ≤ 10) : VV (tab n fun j => (f j, 1)) = true := by
 unfold VV
 rw [aX, decide_eq_true om, Bool.true_and, List.all_eq_true]
 intro x hx
 obtain ⟨j, hj, rfl⟩ := dW.1 hx
 exact decide_eq_true (oA (by have := h j hj; omega) (by have := h j hj; omega))
theorem wlgA_bd (i c : Nat) : -10 ≤ wlgA i c ∧ wlgA i c ≤ 10 := by
 unfold wlgA
 split
 ·decide
 ·split <;> decide
theorem wvP {l : List Int} {n : Nat} (hn : n ≤ 40) : vP (wP l n) = true := by
 refine mQ.2 ⟨?_, ?_, ?_, ?_, ?_, ?_, ?_⟩
 ·show VM (tab n (wRow n)) = true
  unfold VM
  rw [aX, decide_eq_true om, Bool.true_and, List.all_eq_true]
  intro r hr
  obtain ⟨i, hi, rfl⟩ := dW.1 hr
  unfold VMr
  rw [show ((tab n (wRow n)).getD 0 default) = wRow n 0 from cC _ om]
  rw [show VV (wRow n i).2 = true from wVV hn fun j _ => wlgA_bd i j, Bool.and_true]
  refine decide_eq_true ?_
  show (tab n _).length = (tab n _).length
  rw [aX, aX]
 ·show (tab n _).length ≤ 40; rw [aX]; exact hn
 ·exact wVV hn fun j _ => by have := kO l j; omega
 ·show (tab n _).length = (tab n _).length; rw [aX, aX]
 ·exact wVV hn fun j _ => by omega
 ·show (tab n _).length ≤ 40; rw [aX]; exact hn
 ·intro r hr
  obtain ⟨i, hi, rfl⟩ := dW.1 hr
  show (tab n _).length = (tab n _).length
  rw [aX, aX]
theorem lN {n : Nat} {f : Nat → Int} (h : ∀ j, j < n → -1000000 ≤ f j ∧ f j ≤ 1000000) : IV (tab n fun j => (f j, 1)) := by
 intro x hx
 obtain ⟨j, hj, rfl⟩ := dW.1 hx
 have := h j hj
 exact ⟨by show I64 (f j); unfold I64; omega, by show I64 1; unfold I64; omega⟩
theorem wIP {l : List Int} {n : Nat} (hn : n ≤ 40) : IP (wP l n) := by
 refine ⟨?_, ?_, ?_, ?_, ?_, ?_, ?_⟩
 ·intro r hr
  obtain ⟨i, hi, rfl⟩ := dW.1 hr
  exact lN fun j _ => by have := wlgA_bd i j; omega
 ·exact lN fun j _ => by have := kO l j; omega
 ·exact lN fun j _ => by omega
 ·show (tab n _).length < _; rw [aX]; omega
 ·intro r hr
  obtain ⟨i, hi, rfl⟩ := dW.1 hr
  show (tab n _).length < _; rw [aX]; omega
 ·show (tab n _).length < _; rw [aX]; omega
 ·show (tab n _).length < _; rw [aX]; omega
theorem wIR {l : List Int} {n : Nat} (hn : n ≤ 40) : IR (qwR l n) := by
 have hS := kQ l hn n (Nat.le_refl n)
 refine ⟨⟨by show I64 (wlgS l n); unfold I64; omega, by show I64 1; unfold I64; omega⟩, ?_, ?_, ?_, ?_, ?_, ?_⟩
 ·exact lN fun j _ => by have := gZ l j; omega
 ·exact lN fun j _ => by omega
 ·intro x hx; cases hx
 ·show (tab n _).length < _; rw [aX]; omega
 ·show (tab n _).length < _; rw [aX]; omega
 ·show 0 < _; decide
open Go.RowKit
section
variable {P : Program} {T : TT} {E : TypeId → Bool} {N : Nat} {e : Env} {h : Hp} {oa : Array Oper} {i b : Nat} {Q : Env → Hp → Prop} {x y : Operand} {bt xt : TypeId} {te : TI} {el el2 : TypeId} {k : Nat} {ty : TypeId} {pos : String} {af : Array Edge}
theorem WD.apL {l : List Oper} {acc : List Rec} {d q : Nat} {us : List (List LV)} {row : List LV} (hT : dsc T bt = some (.sl el)) (hT2 : dsc T xt = some (.sl el2)) (hE : T el = some te) (hx : evE e x = some (outV q te.size us)) (hy : evE e y = some (.sl k [row])) (hf : ∀ a, a ∈ us → a.length = te.size) (hrw : row.length = te.size) (h0 : 0 < te.size)
  (hb : (2 * (us.length + 1) + 256) * te.bytes ≤ 2 ^ 48) (hb2 : us.length + 1 < 2 ^ 62) (hq : us ≠ [] → getH h q = some { cells := us.flatten, sz := te.size, elem := el, st := 0 }) (hd : Nat.blt d N = true)
  (kk : ∀ hX, getH hX (b + i) = some { cells := us.flatten ++ row, sz := te.size, elem := el, st := 0 } → (∀ r o, r ≠ b + i → (us ≠ [] → r ≠ q) → getH h r = some o → getH hX r = some o) →
   WD P T E N oa l (i + 1) b ((d, .ref (b + i) te.size 0 (us.length + 1)) :: e) hX (⟨i, [q, b + i], [q], false⟩ :: acc) Q) :
  WD P T E N oa (⟨some d, .call { callee := .builtin .append, args := #[x, y], argTypes := #[bt, xt] }, ty, pos, af, none⟩ :: l) i b e h acc Q := by
 have hr1 : ∀ r, r ∈ [row] → r.length = te.size := by intro r hr; rw [List.mem_singleton] at hr; subst hr; exact hrw
 cases us with
 | nil =>
  refine WD.S' [q, b + i] [q] (oApN hT hT2 hE hx hy h0 hr1 (by simp) (by simpa using hb) (by simp)) hd (by simp [keys]) (by simp) ?_
  exact kk _ (by simp only [List.flatten_nil, List.nil_append, List.flatten_cons, List.append_nil, appH]; exact g0) (fun r o h1 _ hr => g1 (fun e => h1 e.symm) hr)
 | cons u0 us =>
  rw [fT (by simp)] at hx
  refine WD.S' [q, b + i] [q] (oApR hT hT2 hE hx hy h0 hr1 (by simp) (hq (by simp)) rfl rfl rfl rfl (gV hf) (by simpa using hb) (by simpa using hb2)) hd (by simp [keys]) (by simp) ?_
  refine kk _ ?_ ?_
  ·simp only [List.flatten_cons (l := row), List.flatten_nil, List.append_nil, appH]
   exact g0
  ·intro r o h1 h2 hr
   simp only [appH]
   exact g1 (fun e => h1 e.symm) (g1 (fun e => h2 (by simp) e.symm) hr)
end
theorem wrow_pos {n i : Nat} {us : List NM} (hl : us.length = n) (hu : ∀ j, j < n → us.getD j default = (0, 1)) (hi : i < n) (h0 : 0 < i) : (us.set i (1, (us.getD i default).2)).set (i - 1) (-1, ((us.set i (1, (us.getD i default).2)).getD (i - 1) default).2) = (wRow n i).2 := by
 refine iO (by rw [List.length_set, List.length_set, hl]; exact (aX _ _).symm) fun j hj => ?_
 rw [List.length_set, List.length_set, hl] at hj
 have e1 : (wRow n i).2.getD j default = (wlgA i j, 1) := cC _ hj
 rw [e1, dH (by rw [List.length_set, hl]; omega), dH om, dH om, hu i hi, hu (i - 1) om, hu j hj]
 unfold wlgA
 by_cases h1 : i - 1 = j
 ·rw [if_pos h1, if_neg (show ¬ j = i by omega), if_pos (show j + 1 = i by omega), if_neg om]
 ·rw [if_neg h1]
  by_cases h2 : i = j
  ·rw [if_pos h2, if_pos h2.symm]
  ·rw [if_neg h2, if_neg (fun h => h2 h.symm), if_neg om]
theorem wrow_zero {n i : Nat} {us : List NM} (hl : us.length = n) (hu : ∀ j, j < n → us.getD j default = (0, 1)) (hi : i < n) (h0 : ¬ 0 < i) : us.set i (1, (us.getD i default).2) = (wRow n i).2 := by
 refine iO (by rw [List.length_set, hl]; exact (aX _ _).symm) fun j hj => ?_
 rw [List.length_set, hl] at hj
 have e1 : (wRow n i).2.getD j default = (wlgA i j, 1) := cC _ hj
 rw [e1, dH om, hu i hi, hu j hj]
 unfold wlgA
 by_cases h2 : i = j
 ·rw [if_pos h2, if_pos h2.symm]
 ·rw [if_neg h2, if_neg (fun h => h2 h.symm), if_neg om]
theorem callP {h : Hp} {l : List Int} {n q1 q2 q3 s : Nat} {e1 e2 e3 : TypeId} (hs : s ≠ 2) (h12 : q1 ≠ q2) (h13 : q1 ≠ q3) (h23 : q2 ≠ q3) (g1' : (wP l n).1.2.map fM ≠ [] → getH h q1 = some { cells := ((wP l n).1.2.map fM).flatten, sz := 1, elem := e1, st := s })
  (g2' : (wP l n).2.1.2.map mc ≠ [] → getH h q2 = some { cells := ((wP l n).2.1.2.map mc).flatten, sz := 2, elem := e2, st := s }) (g3' : (wP l n).2.2.2.map mc ≠ [] → getH h q3 = some { cells := ((wP l n).2.2.2.map mc).flatten, sz := 2, elem := e3, st := s }) :
  ∃ d : Delta, (∀ m, FitsM h m → Snap m (· ∈ keys d) (.agg [outV q1 1 ((wP l n).1.2.map fM), outV q2 2 ((wP l n).2.1.2.map mc), outV q3 2 ((wP l n).2.2.2.map mc)]) (lvPb (wP l n))) ∧
   (∀ x, x ∈ d → ∃ o, getH h x.1 = some o ∧ o.st ≠ 2 ∧ x.2 = { o with st := 1 }) ∧ (∀ r o, r ≠ q1 → r ≠ q2 → r ≠ q3 → getH h r = some o → getH (appH d h) r = some o) ∧
   ((wP l n).1.2.map fM ≠ [] → getH (appH d h) q1 = some { cells := ((wP l n).1.2.map fM).flatten, sz := 1, elem := e1, st := 1 }) ∧ ((wP l n).2.1.2.map mc ≠ [] → getH (appH d h) q2 = some { cells := ((wP l n).2.1.2.map mc).flatten, sz := 2, elem := e2, st := 1 }) ∧
   ((wP l n).2.2.2.map mc ≠ [] → getH (appH d h) q3 = some { cells := ((wP l n).2.2.2.map mc).flatten, sz := 2, elem := e3, st := 1 }) := by
 have l1 : (wP l n).1.2.length = n := aX _ _
 have l2 : (wP l n).2.1.2.length = n := aX _ _
 have l3 : (wP l n).2.2.2.length = n := aX _ _
 have ne : ∀ {α : Type} {f : α → List LV} {us : List α}, us.length = n → n ≠ 0 → us.map f ≠ [] := fun hl hn he => hn (by have h := congrArg List.length he; rw [List.length_map, hl] at h; exact h)
 cases n with
 | zero =>
  refine ⟨[], fun m hm => show Snap m _ (lvPb (wP l 0)) (lvPb (wP l 0)) from .data _ (.agg _ (lT _)), fun x hx => (by cases hx), fun r o _ _ _ hr => hr, fun h => absurd rfl h, fun h => absurd rfl h, fun h => absurd rfl h⟩
 | succ n =>
  have k1 := ne (f := fM) l1 om
  have k2 := ne (f := mc) l2 om
  have k3 := ne (f := mc) l3 om
  have a1 := g1' k1; have a2 := g2' k2; have a3 := g3' k3
  rw [fT k1, fT k2, fT k3]
  refine ⟨[(q1, { cells := ((wP l (n + 1)).1.2.map fM).flatten, sz := 1, elem := e1, st := 1 }), (q2, { cells := ((wP l (n + 1)).2.1.2.map mc).flatten, sz := 2, elem := e2, st := 1 }), (q3, { cells := ((wP l (n + 1)).2.2.2.map mc).flatten, sz := 2, elem := e3, st := 1 })], fun m hm => ?_, ?_, ?_, fun _ => ?_, fun _ => ?_, fun _ => ?_⟩
  ·have hz : SnapZ h [q1, q2, q3] [.ref q1 1 0 ((wP l (n + 1)).1.2.map fM).length, .ref q2 2 0 ((wP l (n + 1)).2.1.2.map mc).length, .ref q3 2 0 ((wP l (n + 1)).2.2.2.map mc).length] (pbc (wP l (n + 1))) :=
    .own _ rfl a1 hs rfl (by decide) (by simp) rfl (cQ (f := fM) fun _ => rfl) (bA dfM) (.own _ rfl a2 hs rfl (by decide) (by simp) rfl (cQ (f := mc) fun _ => rfl) (bA gK) (.own _ rfl a3 hs rfl (by decide) (by simp) rfl (cQ (f := mc) fun _ => rfl) (bA gK) .nil))
   exact .agg _ _ hz.len hz.one (hz.snap hm)
  ·intro x hx
   simp only [List.mem_cons, List.not_mem_nil, or_false] at hx
   rcases hx with rfl | rfl | rfl
   ·exact ⟨_, a1, hs, rfl⟩
   ·exact ⟨_, a2, hs, rfl⟩
   ·exact ⟨_, a3, hs, rfl⟩
  ·intro r o n1 n2 n3 hr
   simp only [appH]
   exact g1 (fun e => n3 e.symm) (g1 (fun e => n2 e.symm) (g1 (fun e => n1 e.symm) hr))
  ·simp only [appH]; exact g1 (fun e => h13 e.symm) (g1 (fun e => h12 e.symm) g0)
  ·simp only [appH]; exact g1 (fun e => h23 e.symm) g0
  ·simp only [appH]; exact g0
end Go.Ab
set_option maxRecDepth 100000
namespace Go.Proofs.Ytohfklpfeilcpaa
open Go.Ab Go.RowKit
def ti1 : TI := ⟨1, 8, [.nilFunc], .func⟩
def ti2 : TI := ⟨1, 8, [.int .i64 0], (.int .i64)⟩
def ti3 : TI := ⟨1, 8, [.int .i64 0], (.int .i64)⟩
def ti4 : TI := ⟨1, 1, [.bool false], .bool⟩
def ti5 : TI := ⟨1, 1, [.int .u8 0], (.int .u8)⟩
def ti6 : TI := ⟨1, 1, [.int .u8 0], (.int .u8)⟩
def ti7 : TI := ⟨4, 24, [.int .i64 0, .int .i64 0, .bool false, .int .u8 0], (.st [(0, 2), (1, 3), (2, 4), (3, 6)])⟩
def ti8 : TI := ⟨4, 24, [.int .i64 0, .int .i64 0, .bool false, .int .u8 0], (.st [(0, 2), (1, 3), (2, 4), (3, 6)])⟩
def ti9 : TI := ⟨1, 16, [.string ⟨#[]⟩], .str⟩
def ti10 : TI := ⟨1, 16, [.string ⟨#[]⟩], .str⟩
def ti11 : TI := ⟨1, 16, [.string ⟨#[]⟩], .str⟩
def ti12 : TI := ⟨1, 8, [.int .u64 0], (.int .u64)⟩
def ti13 : TI := ⟨2, 24, [.string ⟨#[]⟩, .int .u64 0], (.st [(0, 9), (1, 12)])⟩
def ti14 : TI := ⟨2, 24, [.string ⟨#[]⟩, .int .u64 0], (.st [(0, 9), (1, 12)])⟩
def ti15 : TI := ⟨1, 8, [.pointer none], .ptr⟩
def ti16 : TI := ⟨1, 8, [.pointer none], .ptr⟩
def ti17 : TI := ⟨1, 8, [.pointer none], .ptr⟩
def ti21 : TI := ⟨1, 4, [.int .i32 0], (.int .i32)⟩
def ti22 : TI := ⟨1, 24, [.slice none 0 0], (.sl 5)⟩
def ti23 : TI := ⟨1, 8, [.nilFunc], .func⟩
def ti24 : TI := ⟨1, 24, [.slice none 0 0], (.sl 25)⟩
def ti25 : TI := ⟨1, 24, [.slice none 0 0], (.sl 29)⟩
def ti26 : TI := ⟨3, 72, [.slice none 0 0, .slice none 0 0, .slice none 0 0], (.st [(0, 24), (1, 25), (2, 25)])⟩
def ti27 : TI := ⟨3, 72, [.slice none 0 0, .slice none 0 0, .slice none 0 0], (.st [(0, 24), (1, 25), (2, 25)])⟩
def ti28 : TI := ⟨2, 16, [.int .i64 0, .int .i64 0], (.st [(0, 3), (1, 3)])⟩
def ti29 : TI := ⟨2, 16, [.int .i64 0, .int .i64 0], (.st [(0, 3), (1, 3)])⟩
def ti30 : TI := ⟨6, 96, [.int .i64 0, .int .i64 0, .int .i64 0, .slice none 0 0, .slice none 0 0, .slice none 0 0], (.st [(0, 3), (1, 29), (3, 25), (4, 25), (5, 25)])⟩
def ti31 : TI := ⟨6, 96, [.int .i64 0, .int .i64 0, .int .i64 0, .slice none 0 0, .slice none 0 0, .slice none 0 0], (.st [(0, 3), (1, 29), (3, 25), (4, 25), (5, 25)])⟩
def ti32 : TI := ⟨1, 8, [.int .i64 0], (.int .i64)⟩
def ti34 : TI := ⟨1, 8, [.nilFunc], .func⟩
def ti36 : TI := ⟨1, 8, [.nilFunc], .func⟩
def ti37 : TI := ⟨1, 8, [.nilFunc], .func⟩
def ti38 : TI := ⟨1, 8, [.nilFunc], .func⟩
def ti39 : TI := ⟨1, 8, [.nilFunc], .func⟩
def ti40 : TI := ⟨1, 8, [.nilFunc], .func⟩
def ti41 : TI := ⟨1, 24, [.slice none 0 0], (.sl 46)⟩
def ti42 : TI := ⟨1, 24, [.slice none 0 0], (.sl 99)⟩
def ti43 : TI := ⟨2, 32, [.int .i64 0, .slice none 0 0], (.st [(0, 3), (1, 42)])⟩
def ti44 : TI := ⟨2, 32, [.int .i64 0, .slice none 0 0], (.st [(0, 3), (1, 42)])⟩
def ti45 : TI := ⟨4, 64, [.int .i64 0, .slice none 0 0, .int .i64 0, .slice none 0 0], (.st [(0, 44), (2, 44)])⟩
def ti46 : TI := ⟨4, 64, [.int .i64 0, .slice none 0 0, .int .i64 0, .slice none 0 0], (.st [(0, 44), (2, 44)])⟩
def ti47 : TI := ⟨6, 96, [.slice none 0 0, .int .i64 0, .slice none 0 0, .int .i64 0, .slice none 0 0, .bool false], (.st [(0, 41), (1, 46), (5, 4)])⟩
def ti48 : TI := ⟨6, 96, [.slice none 0 0, .int .i64 0, .slice none 0 0, .int .i64 0, .slice none 0 0, .bool false], (.st [(0, 41), (1, 46), (5, 4)])⟩
def ti49 : TI := ⟨1, 8, [.nilFunc], .func⟩
def ti50 : TI := ⟨1, 8, [.nilFunc], .func⟩
def ti51 : TI := ⟨1, 8, [.nilFunc], .func⟩
def ti52 : TI := ⟨8, 144, [.int .i64 0, .int .i64 0, .slice none 0 0, .int .i64 0, .slice none 0 0, .slice none 0 0, .slice none 0 0, .slice none 0 0], (.st [(0, 3), (1, 46), (5, 41), (6, 41), (7, 41)])⟩
def ti53 : TI := ⟨8, 144, [.int .i64 0, .int .i64 0, .slice none 0 0, .int .i64 0, .slice none 0 0, .slice none 0 0, .slice none 0 0, .slice none 0 0], (.st [(0, 3), (1, 46), (5, 41), (6, 41), (7, 41)])⟩
def ti54 : TI := ⟨1, 8, [.nilFunc], .func⟩
def ti55 : TI := ⟨1, 24, [.slice none 0 0], (.sl 48)⟩
def ti56 : TI := ⟨1, 8, [.nilFunc], .func⟩
def ti57 : TI := ⟨1, 8, [.int .i64 0], (.st [(0, 32)])⟩
def ti58 : TI := ⟨1, 8, [.int .i64 0], (.st [(0, 32)])⟩
def ti59 : TI := ⟨1, 8, [.nilFunc], .func⟩
def ti60 : TI := ⟨1, 8, [.nilFunc], .func⟩
def ti61 : TI := ⟨1, 8, [.nilFunc], .func⟩
def ti62 : TI := ⟨3, 24, [.nilFunc, .nilFunc, .nilFunc], (.arr 3 60)⟩
def ti63 : TI := ⟨1, 8, [.nilFunc], .func⟩
def ti64 : TI := ⟨1, 8, [.nilFunc], .func⟩
def ti65 : TI := ⟨1, 8, [.nilFunc], .func⟩
def ti66 : TI := ⟨1, 8, [.nilFunc], .func⟩
def ti67 : TI := ⟨1, 8, [.nilFunc], .func⟩
def ti68 : TI := ⟨1, 8, [.nilFunc], .func⟩
def ti69 : TI := ⟨1, 8, [.nilFunc], .func⟩
def ti70 : TI := ⟨1, 8, [.nilFunc], .func⟩
def ti71 : TI := ⟨1, 8, [.nilFunc], .func⟩
def ti72 : TI := ⟨1, 8, [.nilFunc], .func⟩
def ti73 : TI := ⟨1, 24, [.slice none 0 0], (.sl 3)⟩
def ti74 : TI := ⟨1, 8, [.nilFunc], .func⟩
def ti75 : TI := ⟨1, 8, [.nilFunc], .func⟩
def ti76 : TI := ⟨1, 8, [.nilFunc], .func⟩
def ti77 : TI := ⟨1, 8, [.pointer none], .ptr⟩
def ti78 : TI := ⟨1, 8, [.nilFunc], .func⟩
def ti80 : TI := ⟨1, 8, [.nilFunc], .func⟩
def ti81 : TI := ⟨1, 24, [.slice none 0 0], (.sl 41)⟩
def ti82 : TI := ⟨6, 128, [.int .i64 0, .slice none 0 0, .slice none 0 0, .slice none 0 0, .slice none 0 0, .slice none 0 0], (.st [(0, 3), (1, 55), (2, 73), (3, 73), (4, 81), (5, 41)])⟩
def ti83 : TI := ⟨6, 128, [.int .i64 0, .slice none 0 0, .slice none 0 0, .slice none 0 0, .slice none 0 0, .slice none 0 0], (.st [(0, 3), (1, 55), (2, 73), (3, 73), (4, 81), (5, 41)])⟩
def ti84 : TI := ⟨1, 8, [.nilFunc], .func⟩
def ti85 : TI := ⟨1, 8, [.nilFunc], .func⟩
def ti86 : TI := ⟨1, 8, [.nilFunc], .func⟩
def ti87 : TI := ⟨1, 8, [.pointer none], .ptr⟩
def ti89 : TI := ⟨1, 8, [.nilFunc], .func⟩
def ti90 : TI := ⟨1, 8, [.nilFunc], .func⟩
def ti91 : TI := ⟨1, 8, [.nilFunc], .func⟩
def ti92 : TI := ⟨1, 8, [.nilFunc], .func⟩
def ti94 : TI := ⟨1, 8, [.nilFunc], .func⟩
def ti95 : TI := ⟨1, 8, [.nilFunc], .func⟩
def ti96 : TI := ⟨1, 8, [.nilFunc], .func⟩
def ti97 : TI := ⟨1, 8, [.nilFunc], .func⟩
def ti98 : TI := ⟨1, 8, [.int .u64 0], (.int .u64)⟩
def ti99 : TI := ⟨1, 4, [.int .u32 0], (.int .u32)⟩
def ti100 : TI := ⟨1, 8, [.int .u64 0], (.int .u64)⟩
def ti101 : TI := ⟨1, 8, [.nilFunc], .func⟩
def ti102 : TI := ⟨1, 8, [.nilFunc], .func⟩
def ti103 : TI := ⟨1, 8, [.nilFunc], .func⟩
def ti104 : TI := ⟨1, 8, [.nilFunc], .func⟩
def ti105 : TI := ⟨1, 8, [.nilFunc], .func⟩
def ti106 : TI := ⟨1, 8, [.nilFunc], .func⟩
def ti107 : TI := ⟨1, 8, [.nilFunc], .func⟩
def ti109 : TI := ⟨1, 8, [.nilFunc], .func⟩
def ti110 : TI := ⟨1, 8, [.nilFunc], .func⟩
def ti112 : TI := ⟨1, 8, [.nilFunc], .func⟩
def ti114 : TI := ⟨1, 8, [.nilFunc], .func⟩
def ti116 : TI := ⟨1, 8, [.nilFunc], .func⟩
def ti117 : TI := ⟨1, 8, [.nilFunc], .func⟩
def ti118 : TI := ⟨1, 8, [.nilFunc], .func⟩
def ti119 : TI := ⟨1, 8, [.nilFunc], .func⟩
def ti120 : TI := ⟨1, 8, [.nilFunc], .func⟩
def ti122 : TI := ⟨1, 8, [.nilFunc], .func⟩
def ti124 : TI := ⟨1, 8, [.nilFunc], .func⟩
def ti125 : TI := ⟨1, 8, [.nilFunc], .func⟩
def ti127 : TI := ⟨1, 8, [.nilFunc], .func⟩
def ti128 : TI := ⟨1, 8, [.nilFunc], .func⟩
def ti129 : TI := ⟨1, 8, [.nilFunc], .func⟩
def ti132 : TI := ⟨1, 8, [.pointer none], .ptr⟩
def ti133 : TI := ⟨1, 8, [.nilFunc], .func⟩
def ti139 : TI := ⟨1, 1, [.int .u8 0], (.int .u8)⟩
def ti140 : TI := ⟨1, 1, [.int .u8 0], (.int .u8)⟩
def ti141 : TI := ⟨1, 8, [.nilFunc], .func⟩
def ti142 : TI := ⟨1, 8, [.pointer none], .ptr⟩
def ti143 : TI := ⟨1, 4, [.int .i32 0], (.int .i32)⟩
def ti144 : TI := ⟨1, 4, [.int .i32 0], (.int .i32)⟩
def ti147 : TI := ⟨1, 16, [.string ⟨#[]⟩], (.st [(0, 9)])⟩
def ti148 : TI := ⟨1, 16, [.string ⟨#[]⟩], (.st [(0, 9)])⟩
theorem tok1 : TypeOk Try.prog 1 ti1 := aD (z := (.nilFunc)) (by kernel_rfl) rfl Try.underlying1 ⟨_, _, _, rfl⟩ rfl (by decide)
theorem tok2 : TypeOk Try.prog 2 ti2 := aD (z := (.int .i64 0)) (by kernel_rfl) rfl Try.underlying2 rfl rfl (by decide)
theorem tok3 : TypeOk Try.prog 3 ti3 := aD (z := (.int .i64 0)) (by kernel_rfl) rfl Try.underlying3 rfl rfl (by decide)
theorem tok4 : TypeOk Try.prog 4 ti4 := aD (z := (.bool false)) (by kernel_rfl) rfl Try.underlying4 rfl rfl (by decide)
theorem tok5 : TypeOk Try.prog 5 ti5 := aD (z := (.int .u8 0)) (by kernel_rfl) rfl Try.underlying5 rfl rfl (by decide)
theorem tok6 : TypeOk Try.prog 6 ti6 := aD (z := (.int .u8 0)) (by kernel_rfl) rfl Try.underlying6 rfl rfl (by decide)
theorem tok7 : TypeOk Try.prog 7 ti7 := aD (z := (.agg #[.int .i64 0, .int .i64 0, .bool false, .int .u8 0])) (by kernel_rfl) rfl Try.underlying7 ⟨_, rfl, rfl⟩ rfl (by decide)
theorem tok8 : TypeOk Try.prog 8 ti8 := aD (z := (.agg #[.int .i64 0, .int .i64 0, .bool false, .int .u8 0])) (by kernel_rfl) rfl Try.underlying8 ⟨_, rfl, rfl⟩ rfl (by decide)
theorem tok9 : TypeOk Try.prog 9 ti9 := aD (z := (.string ⟨#[]⟩)) (by kernel_rfl) rfl Try.underlying9 rfl rfl (by decide)
theorem tok10 : TypeOk Try.prog 10 ti10 := aD (z := (.string ⟨#[]⟩)) (by kernel_rfl) rfl Try.underlying10 rfl rfl (by decide)
theorem tok11 : TypeOk Try.prog 11 ti11 := aD (z := (.string ⟨#[]⟩)) (by kernel_rfl) rfl Try.underlying11 rfl rfl (by decide)
theorem tok12 : TypeOk Try.prog 12 ti12 := aD (z := (.int .u64 0)) (by kernel_rfl) rfl Try.underlying12 rfl rfl (by decide)
theorem tok13 : TypeOk Try.prog 13 ti13 := aD (z := (.agg #[.string ⟨#[]⟩, .int .u64 0])) (by kernel_rfl) rfl Try.underlying13 ⟨_, rfl, rfl⟩ rfl (by decide)
theorem tok14 : TypeOk Try.prog 14 ti14 := aD (z := (.agg #[.string ⟨#[]⟩, .int .u64 0])) (by kernel_rfl) rfl Try.underlying14 ⟨_, rfl, rfl⟩ rfl (by decide)
theorem tok15 : TypeOk Try.prog 15 ti15 := aD (z := (.pointer none)) (by kernel_rfl) rfl Try.underlying15 ⟨_, rfl⟩ rfl (by decide)
theorem tok16 : TypeOk Try.prog 16 ti16 := aD (z := (.pointer none)) (by kernel_rfl) rfl Try.underlying16 ⟨_, rfl⟩ rfl (by decide)
theorem tok17 : TypeOk Try.prog 17 ti17 := aD (z := (.pointer none)) (by kernel_rfl) rfl Try.underlying17 ⟨_, rfl⟩ rfl (by decide)
theorem tok21 : TypeOk Try.prog 21 ti21 := aD (z := (.int .i32 0)) (by kernel_rfl) rfl Try.underlying21 rfl rfl (by decide)
theorem tok22 : TypeOk Try.prog 22 ti22 := aD (z := (.slice none 0 0)) (by kernel_rfl) rfl Try.underlying22 rfl rfl (by decide)
theorem tok23 : TypeOk Try.prog 23 ti23 := aD (z := (.nilFunc)) (by kernel_rfl) rfl Try.underlying23 ⟨_, _, _, rfl⟩ rfl (by decide)
theorem tok24 : TypeOk Try.prog 24 ti24 := aD (z := (.slice none 0 0)) (by kernel_rfl) rfl Try.underlying24 rfl rfl (by decide)
theorem tok25 : TypeOk Try.prog 25 ti25 := aD (z := (.slice none 0 0)) (by kernel_rfl) rfl Try.underlying25 rfl rfl (by decide)
theorem tok26 : TypeOk Try.prog 26 ti26 := aD (z := (.agg #[.slice none 0 0, .slice none 0 0, .slice none 0 0])) (by kernel_rfl) rfl Try.underlying26 ⟨_, rfl, rfl⟩ rfl (by decide)
theorem tok27 : TypeOk Try.prog 27 ti27 := aD (z := (.agg #[.slice none 0 0, .slice none 0 0, .slice none 0 0])) (by kernel_rfl) rfl Try.underlying27 ⟨_, rfl, rfl⟩ rfl (by decide)
theorem tok28 : TypeOk Try.prog 28 ti28 := aD (z := (.agg #[.int .i64 0, .int .i64 0])) (by kernel_rfl) rfl Try.underlying28 ⟨_, rfl, rfl⟩ rfl (by decide)
theorem tok29 : TypeOk Try.prog 29 ti29 := aD (z := (.agg #[.int .i64 0, .int .i64 0])) (by kernel_rfl) rfl Try.underlying29 ⟨_, rfl, rfl⟩ rfl (by decide)
theorem tok30 : TypeOk Try.prog 30 ti30 := aD (z := (.agg #[.int .i64 0, .int .i64 0, .int .i64 0, .slice none 0 0, .slice none 0 0, .slice none 0 0])) (by kernel_rfl) rfl Try.underlying30 ⟨_, rfl, rfl⟩ rfl (by decide)
theorem tok31 : TypeOk Try.prog 31 ti31 := aD (z := (.agg #[.int .i64 0, .int .i64 0, .int .i64 0, .slice none 0 0, .slice none 0 0, .slice none 0 0])) (by kernel_rfl) rfl Try.underlying31 ⟨_, rfl, rfl⟩ rfl (by decide)
theorem tok32 : TypeOk Try.prog 32 ti32 := aD (z := (.int .i64 0)) (by kernel_rfl) rfl Try.underlying32 rfl rfl (by decide)
theorem tok34 : TypeOk Try.prog 34 ti34 := aD (z := (.nilFunc)) (by kernel_rfl) rfl Try.underlying34 ⟨_, _, _, rfl⟩ rfl (by decide)
theorem tok36 : TypeOk Try.prog 36 ti36 := aD (z := (.nilFunc)) (by kernel_rfl) rfl Try.underlying36 ⟨_, _, _, rfl⟩ rfl (by decide)
theorem tok37 : TypeOk Try.prog 37 ti37 := aD (z := (.nilFunc)) (by kernel_rfl) rfl Try.underlying37 ⟨_, _, _, rfl⟩ rfl (by decide)
theorem tok38 : TypeOk Try.prog 38 ti38 := aD (z := (.nilFunc)) (by kernel_rfl) rfl Try.underlying38 ⟨_, _, _, rfl⟩ rfl (by decide)
theorem tok39 : TypeOk Try.prog 39 ti39 := aD (z := (.nilFunc)) (by kernel_rfl) rfl Try.underlying39 ⟨_, _, _, rfl⟩ rfl (by decide)
theorem tok40 : TypeOk Try.prog 40 ti40 := aD (z := (.nilFunc)) (by kernel_rfl) rfl Try.underlying40 ⟨_, _, _, rfl⟩ rfl (by decide)
theorem tok41 : TypeOk Try.prog 41 ti41 := aD (z := (.slice none 0 0)) (by kernel_rfl) rfl Try.underlying41 rfl rfl (by decide)
theorem tok42 : TypeOk Try.prog 42 ti42 := aD (z := (.slice none 0 0)) (by kernel_rfl) rfl Try.underlying42 rfl rfl (by decide)
theorem tok43 : TypeOk Try.prog 43 ti43 := aD (z := (.agg #[.int .i64 0, .slice none 0 0])) (by kernel_rfl) rfl Try.underlying43 ⟨_, rfl, rfl⟩ rfl (by decide)
theorem tok44 : TypeOk Try.prog 44 ti44 := aD (z := (.agg #[.int .i64 0, .slice none 0 0])) (by kernel_rfl) rfl Try.underlying44 ⟨_, rfl, rfl⟩ rfl (by decide)
theorem tok45 : TypeOk Try.prog 45 ti45 := aD (z := (.agg #[.int .i64 0, .slice none 0 0, .int .i64 0, .slice none 0 0])) (by kernel_rfl) rfl Try.underlying45 ⟨_, rfl, rfl⟩ rfl (by decide)
theorem tok46 : TypeOk Try.prog 46 ti46 := aD (z := (.agg #[.int .i64 0, .slice none 0 0, .int .i64 0, .slice none 0 0])) (by kernel_rfl) rfl Try.underlying46 ⟨_, rfl, rfl⟩ rfl (by decide)
theorem tok47 : TypeOk Try.prog 47 ti47 := aD (z := (.agg #[.slice none 0 0, .int .i64 0, .slice none 0 0, .int .i64 0, .slice none 0 0, .bool false])) (by kernel_rfl) rfl Try.underlying47 ⟨_, rfl, rfl⟩ rfl (by decide)
theorem tok48 : TypeOk Try.prog 48 ti48 := aD (z := (.agg #[.slice none 0 0, .int .i64 0, .slice none 0 0, .int .i64 0, .slice none 0 0, .bool false])) (by kernel_rfl) rfl Try.underlying48 ⟨_, rfl, rfl⟩ rfl (by decide)
theorem tok49 : TypeOk Try.prog 49 ti49 := aD (z := (.nilFunc)) (by kernel_rfl) rfl Try.underlying49 ⟨_, _, _, rfl⟩ rfl (by decide)
theorem tok50 : TypeOk Try.prog 50 ti50 := aD (z := (.nilFunc)) (by kernel_rfl) rfl Try.underlying50 ⟨_, _, _, rfl⟩ rfl (by decide)
theorem tok51 : TypeOk Try.prog 51 ti51 := aD (z := (.nilFunc)) (by kernel_rfl) rfl Try.underlying51 ⟨_, _, _, rfl⟩ rfl (by decide)
theorem tok52 : TypeOk Try.prog 52 ti52 := aD (z := (.agg #[.int .i64 0, .int .i64 0, .slice none 0 0, .int .i64 0, .slice none 0 0, .slice none 0 0, .slice none 0 0, .slice none 0 0])) (by kernel_rfl) rfl Try.underlying52 ⟨_, rfl, rfl⟩ rfl (by decide)
theorem tok53 : TypeOk Try.prog 53 ti53 := aD (z := (.agg #[.int .i64 0, .int .i64 0, .slice none 0 0, .int .i64 0, .slice none 0 0, .slice none 0 0, .slice none 0 0, .slice none 0 0])) (by kernel_rfl) rfl Try.underlying53 ⟨_, rfl, rfl⟩ rfl (by decide)
theorem tok54 : TypeOk Try.prog 54 ti54 := aD (z := (.nilFunc)) (by kernel_rfl) rfl Try.underlying54 ⟨_, _, _, rfl⟩ rfl (by decide)
theorem tok55 : TypeOk Try.prog 55 ti55 := aD (z := (.slice none 0 0)) (by kernel_rfl) rfl Try.underlying55 rfl rfl (by decide)
theorem tok56 : TypeOk Try.prog 56 ti56 := aD (z := (.nilFunc)) (by kernel_rfl) rfl Try.underlying56 ⟨_, _, _, rfl⟩ rfl (by decide)
theorem tok57 : TypeOk Try.prog 57 ti57 := aD (z := (.agg #[.int .i64 0])) (by kernel_rfl) rfl Try.underlying57 ⟨_, rfl, rfl⟩ rfl (by decide)
theorem tok58 : TypeOk Try.prog 58 ti58 := aD (z := (.agg #[.int .i64 0])) (by kernel_rfl) rfl Try.underlying58 ⟨_, rfl, rfl⟩ rfl (by decide)
theorem tok59 : TypeOk Try.prog 59 ti59 := aD (z := (.nilFunc)) (by kernel_rfl) rfl Try.underlying59 ⟨_, _, _, rfl⟩ rfl (by decide)
theorem tok60 : TypeOk Try.prog 60 ti60 := aD (z := (.nilFunc)) (by kernel_rfl) rfl Try.underlying60 ⟨_, _, _, rfl⟩ rfl (by decide)
theorem tok61 : TypeOk Try.prog 61 ti61 := aD (z := (.nilFunc)) (by kernel_rfl) rfl Try.underlying61 ⟨_, _, _, rfl⟩ rfl (by decide)
theorem tok62 : TypeOk Try.prog 62 ti62 := aD (z := (.agg #[.nilFunc, .nilFunc, .nilFunc])) (by kernel_rfl) rfl Try.underlying62 rfl rfl (by decide)
theorem tok63 : TypeOk Try.prog 63 ti63 := aD (z := (.nilFunc)) (by kernel_rfl) rfl Try.underlying63 ⟨_, _, _, rfl⟩ rfl (by decide)
theorem tok64 : TypeOk Try.prog 64 ti64 := aD (z := (.nilFunc)) (by kernel_rfl) rfl Try.underlying64 ⟨_, _, _, rfl⟩ rfl (by decide)
theorem tok65 : TypeOk Try.prog 65 ti65 := aD (z := (.nilFunc)) (by kernel_rfl) rfl Try.underlying65 ⟨_, _, _, rfl⟩ rfl (by decide)
theorem tok66 : TypeOk Try.prog 66 ti66 := aD (z := (.nilFunc)) (by kernel_rfl) rfl Try.underlying66 ⟨_, _, _, rfl⟩ rfl (by decide)
theorem tok67 : TypeOk Try.prog 67 ti67 := aD (z := (.nilFunc)) (by kernel_rfl) rfl Try.underlying67 ⟨_, _, _, rfl⟩ rfl (by decide)
theorem tok68 : TypeOk Try.prog 68 ti68 := aD (z := (.nilFunc)) (by kernel_rfl) rfl Try.underlying68 ⟨_, _, _, rfl⟩ rfl (by decide)
theorem tok69 : TypeOk Try.prog 69 ti69 := aD (z := (.nilFunc)) (by kernel_rfl) rfl Try.underlying69 ⟨_, _, _, rfl⟩ rfl (by decide)
theorem tok70 : TypeOk Try.prog 70 ti70 := aD (z := (.nilFunc)) (by kernel_rfl) rfl Try.underlying70 ⟨_, _, _, rfl⟩ rfl (by decide)
theorem tok71 : TypeOk Try.prog 71 ti71 := aD (z := (.nilFunc)) (by kernel_rfl) rfl Try.underlying71 ⟨_, _, _, rfl⟩ rfl (by decide)
theorem tok72 : TypeOk Try.prog 72 ti72 := aD (z := (.nilFunc)) (by kernel_rfl) rfl Try.underlying72 ⟨_, _, _, rfl⟩ rfl (by decide)
theorem tok73 : TypeOk Try.prog 73 ti73 := aD (z := (.slice none 0 0)) (by kernel_rfl) rfl Try.underlying73 rfl rfl (by decide)
theorem tok74 : TypeOk Try.prog 74 ti74 := aD (z := (.nilFunc)) (by kernel_rfl) rfl Try.underlying74 ⟨_, _, _, rfl⟩ rfl (by decide)
theorem tok75 : TypeOk Try.prog 75 ti75 := aD (z := (.nilFunc)) (by kernel_rfl) rfl Try.underlying75 ⟨_, _, _, rfl⟩ rfl (by decide)
theorem tok76 : TypeOk Try.prog 76 ti76 := aD (z := (.nilFunc)) (by kernel_rfl) rfl Try.underlying76 ⟨_, _, _, rfl⟩ rfl (by decide)
theorem tok77 : TypeOk Try.prog 77 ti77 := aD (z := (.pointer none)) (by kernel_rfl) rfl Try.underlying77 ⟨_, rfl⟩ rfl (by decide)
theorem tok78 : TypeOk Try.prog 78 ti78 := aD (z := (.nilFunc)) (by kernel_rfl) rfl Try.underlying78 ⟨_, _, _, rfl⟩ rfl (by decide)
theorem tok80 : TypeOk Try.prog 80 ti80 := aD (z := (.nilFunc)) (by kernel_rfl) rfl Try.underlying80 ⟨_, _, _, rfl⟩ rfl (by decide)
theorem tok81 : TypeOk Try.prog 81 ti81 := aD (z := (.slice none 0 0)) (by kernel_rfl) rfl Try.underlying81 rfl rfl (by decide)
theorem tok82 : TypeOk Try.prog 82 ti82 := aD (z := (.agg #[.int .i64 0, .slice none 0 0, .slice none 0 0, .slice none 0 0, .slice none 0 0, .slice none 0 0])) (by kernel_rfl) rfl Try.underlying82 ⟨_, rfl, rfl⟩ rfl (by decide)
theorem tok83 : TypeOk Try.prog 83 ti83 := aD (z := (.agg #[.int .i64 0, .slice none 0 0, .slice none 0 0, .slice none 0 0, .slice none 0 0, .slice none 0 0])) (by kernel_rfl) rfl Try.underlying83 ⟨_, rfl, rfl⟩ rfl (by decide)
theorem tok84 : TypeOk Try.prog 84 ti84 := aD (z := (.nilFunc)) (by kernel_rfl) rfl Try.underlying84 ⟨_, _, _, rfl⟩ rfl (by decide)
theorem tok85 : TypeOk Try.prog 85 ti85 := aD (z := (.nilFunc)) (by kernel_rfl) rfl Try.underlying85 ⟨_, _, _, rfl⟩ rfl (by decide)
theorem tok86 : TypeOk Try.prog 86 ti86 := aD (z := (.nilFunc)) (by kernel_rfl) rfl Try.underlying86 ⟨_, _, _, rfl⟩ rfl (by decide)
theorem tok87 : TypeOk Try.prog 87 ti87 := aD (z := (.pointer none)) (by kernel_rfl) rfl Try.underlying87 ⟨_, rfl⟩ rfl (by decide)
theorem tok89 : TypeOk Try.prog 89 ti89 := aD (z := (.nilFunc)) (by kernel_rfl) rfl Try.underlying89 ⟨_, _, _, rfl⟩ rfl (by decide)
theorem tok90 : TypeOk Try.prog 90 ti90 := aD (z := (.nilFunc)) (by kernel_rfl) rfl Try.underlying90 ⟨_, _, _, rfl⟩ rfl (by decide)
theorem tok91 : TypeOk Try.prog 91 ti91 := aD (z := (.nilFunc)) (by kernel_rfl) rfl Try.underlying91 ⟨_, _, _, rfl⟩ rfl (by decide)
theorem tok92 : TypeOk Try.prog 92 ti92 := aD (z := (.nilFunc)) (by kernel_rfl) rfl Try.underlying92 ⟨_, _, _, rfl⟩ rfl (by decide)
theorem tok94 : TypeOk Try.prog 94 ti94 := aD (z := (.nilFunc)) (by kernel_rfl) rfl Try.underlying94 ⟨_, _, _, rfl⟩ rfl (by decide)
theorem tok95 : TypeOk Try.prog 95 ti95 := aD (z := (.nilFunc)) (by kernel_rfl) rfl Try.underlying95 ⟨_, _, _, rfl⟩ rfl (by decide)
theorem tok96 : TypeOk Try.prog 96 ti96 := aD (z := (.nilFunc)) (by kernel_rfl) rfl Try.underlying96 ⟨_, _, _, rfl⟩ rfl (by decide)
theorem tok97 : TypeOk Try.prog 97 ti97 := aD (z := (.nilFunc)) (by kernel_rfl) rfl Try.underlying97 ⟨_, _, _, rfl⟩ rfl (by decide)
theorem tok98 : TypeOk Try.prog 98 ti98 := aD (z := (.int .u64 0)) (by kernel_rfl) rfl Try.underlying98 rfl rfl (by decide)
theorem tok99 : TypeOk Try.prog 99 ti99 := aD (z := (.int .u32 0)) (by kernel_rfl) rfl Try.underlying99 rfl rfl (by decide)
theorem tok100 : TypeOk Try.prog 100 ti100 := aD (z := (.int .u64 0)) (by kernel_rfl) rfl Try.underlying100 rfl rfl (by decide)
theorem tok101 : TypeOk Try.prog 101 ti101 := aD (z := (.nilFunc)) (by kernel_rfl) rfl Try.underlying101 ⟨_, _, _, rfl⟩ rfl (by decide)
theorem tok102 : TypeOk Try.prog 102 ti102 := aD (z := (.nilFunc)) (by kernel_rfl) rfl Try.underlying102 ⟨_, _, _, rfl⟩ rfl (by decide)
theorem tok103 : TypeOk Try.prog 103 ti103 := aD (z := (.nilFunc)) (by kernel_rfl) rfl Try.underlying103 ⟨_, _, _, rfl⟩ rfl (by decide)
theorem tok104 : TypeOk Try.prog 104 ti104 := aD (z := (.nilFunc)) (by kernel_rfl) rfl Try.underlying104 ⟨_, _, _, rfl⟩ rfl (by decide)
theorem tok105 : TypeOk Try.prog 105 ti105 := aD (z := (.nilFunc)) (by kernel_rfl) rfl Try.underlying105 ⟨_, _, _, rfl⟩ rfl (by decide)
theorem tok106 : TypeOk Try.prog 106 ti106 := aD (z := (.nilFunc)) (by kernel_rfl) rfl Try.underlying106 ⟨_, _, _, rfl⟩ rfl (by decide)
theorem tok107 : TypeOk Try.prog 107 ti107 := aD (z := (.nilFunc)) (by kernel_rfl) rfl Try.underlying107 ⟨_, _, _, rfl⟩ rfl (by decide)
theorem tok109 : TypeOk Try.prog 109 ti109 := aD (z := (.nilFunc)) (by kernel_rfl) rfl Try.underlying109 ⟨_, _, _, rfl⟩ rfl (by decide)
theorem tok110 : TypeOk Try.prog 110 ti110 := aD (z := (.nilFunc)) (by kernel_rfl) rfl Try.underlying110 ⟨_, _, _, rfl⟩ rfl (by decide)
theorem tok112 : TypeOk Try.prog 112 ti112 := aD (z := (.nilFunc)) (by kernel_rfl) rfl Try.underlying112 ⟨_, _, _, rfl⟩ rfl (by decide)
theorem tok114 : TypeOk Try.prog 114 ti114 := aD (z := (.nilFunc)) (by kernel_rfl) rfl Try.underlying114 ⟨_, _, _, rfl⟩ rfl (by decide)
theorem tok116 : TypeOk Try.prog 116 ti116 := aD (z := (.nilFunc)) (by kernel_rfl) rfl Try.underlying116 ⟨_, _, _, rfl⟩ rfl (by decide)
theorem tok117 : TypeOk Try.prog 117 ti117 := aD (z := (.nilFunc)) (by kernel_rfl) rfl Try.underlying117 ⟨_, _, _, rfl⟩ rfl (by decide)
theorem tok118 : TypeOk Try.prog 118 ti118 := aD (z := (.nilFunc)) (by kernel_rfl) rfl Try.underlying118 ⟨_, _, _, rfl⟩ rfl (by decide)
theorem tok119 : TypeOk Try.prog 119 ti119 := aD (z := (.nilFunc)) (by kernel_rfl) rfl Try.underlying119 ⟨_, _, _, rfl⟩ rfl (by decide)
theorem tok120 : TypeOk Try.prog 120 ti120 := aD (z := (.nilFunc)) (by kernel_rfl) rfl Try.underlying120 ⟨_, _, _, rfl⟩ rfl (by decide)
theorem tok122 : TypeOk Try.prog 122 ti122 := aD (z := (.nilFunc)) (by kernel_rfl) rfl Try.underlying122 ⟨_, _, _, rfl⟩ rfl (by decide)
theorem tok124 : TypeOk Try.prog 124 ti124 := aD (z := (.nilFunc)) (by kernel_rfl) rfl Try.underlying124 ⟨_, _, _, rfl⟩ rfl (by decide)
theorem tok125 : TypeOk Try.prog 125 ti125 := aD (z := (.nilFunc)) (by kernel_rfl) rfl Try.underlying125 ⟨_, _, _, rfl⟩ rfl (by decide)
theorem tok127 : TypeOk Try.prog 127 ti127 := aD (z := (.nilFunc)) (by kernel_rfl) rfl Try.underlying127 ⟨_, _, _, rfl⟩ rfl (by decide)
theorem tok128 : TypeOk Try.prog 128 ti128 := aD (z := (.nilFunc)) (by kernel_rfl) rfl Try.underlying128 ⟨_, _, _, rfl⟩ rfl (by decide)
theorem tok129 : TypeOk Try.prog 129 ti129 := aD (z := (.nilFunc)) (by kernel_rfl) rfl Try.underlying129 ⟨_, _, _, rfl⟩ rfl (by decide)
theorem tok132 : TypeOk Try.prog 132 ti132 := aD (z := (.pointer none)) (by kernel_rfl) rfl Try.underlying132 ⟨_, rfl⟩ rfl (by decide)
theorem tok133 : TypeOk Try.prog 133 ti133 := aD (z := (.nilFunc)) (by kernel_rfl) rfl Try.underlying133 ⟨_, _, _, rfl⟩ rfl (by decide)
theorem tok139 : TypeOk Try.prog 139 ti139 := aD (z := (.int .u8 0)) (by kernel_rfl) rfl Try.underlying139 rfl rfl (by decide)
theorem tok140 : TypeOk Try.prog 140 ti140 := aD (z := (.int .u8 0)) (by kernel_rfl) rfl Try.underlying140 rfl rfl (by decide)
theorem tok141 : TypeOk Try.prog 141 ti141 := aD (z := (.nilFunc)) (by kernel_rfl) rfl Try.underlying141 ⟨_, _, _, rfl⟩ rfl (by decide)
theorem tok142 : TypeOk Try.prog 142 ti142 := aD (z := (.pointer none)) (by kernel_rfl) rfl Try.underlying142 ⟨_, rfl⟩ rfl (by decide)
theorem tok143 : TypeOk Try.prog 143 ti143 := aD (z := (.int .i32 0)) (by kernel_rfl) rfl Try.underlying143 rfl rfl (by decide)
theorem tok144 : TypeOk Try.prog 144 ti144 := aD (z := (.int .i32 0)) (by kernel_rfl) rfl Try.underlying144 rfl rfl (by decide)
theorem tok147 : TypeOk Try.prog 147 ti147 := aD (z := (.agg #[.string ⟨#[]⟩])) (by kernel_rfl) rfl Try.underlying147 ⟨_, rfl, rfl⟩ rfl (by decide)
theorem tok148 : TypeOk Try.prog 148 ti148 := aD (z := (.agg #[.string ⟨#[]⟩])) (by kernel_rfl) rfl Try.underlying148 ⟨_, rfl, rfl⟩ rfl (by decide)
def tbl : List (Nat × TI) := [(1, ti1), (2, ti2), (3, ti3), (4, ti4), (5, ti5), (6, ti6), (7, ti7), (8, ti8), (9, ti9), (10, ti10), (11, ti11), (12, ti12), (13, ti13), (14, ti14), (15, ti15), (16, ti16), (17, ti17), (21, ti21), (22, ti22), (23, ti23), (24, ti24), (25, ti25), (26, ti26), (27, ti27), (28, ti28), (29, ti29), (30, ti30), (31, ti31), (32, ti32), (34, ti34), (36, ti36), (37, ti37), (38, ti38), (39, ti39), (40, ti40), (41, ti41), (42, ti42), (43, ti43), (44, ti44), (45, ti45), (46, ti46), (47, ti47), (48, ti48), (49, ti49), (50, ti50), (51, ti51), (52, ti52), (53, ti53), (54, ti54), (55, ti55), (56, ti56), (57, ti57), (58, ti58), (59, ti59), (60, ti60), (61, ti61), (62, ti62), (63, ti63), (64, ti64), (65, ti65), (66, ti66), (67, ti67), (68, ti68), (69, ti69), (70, ti70), (71, ti71), (72, ti72), (73, ti73), (74, ti74), (75, ti75), (76, ti76), (77, ti77), (78, ti78), (80, ti80), (81, ti81), (82, ti82), (83, ti83), (84, ti84), (85, ti85), (86, ti86), (87, ti87), (89, ti89), (90, ti90), (91, ti91), (92, ti92), (94, ti94), (95, ti95), (96, ti96), (97, ti97), (98, ti98), (99, ti99), (100, ti100), (101, ti101), (102, ti102), (103, ti103), (104, ti104), (105, ti105), (106, ti106), (107, ti107), (109, ti109), (110, ti110), (112, ti112), (114, ti114), (116, ti116), (117, ti117), (118, ti118), (119, ti119), (120, ti120), (122, ti122), (124, ti124), (125, ti125), (127, ti127), (128, ti128), (129, ti129), (132, ti132), (133, ti133), (139, ti139), (140, ti140), (141, ti141), (142, ti142), (143, ti143), (144, ti144), (147, ti147), (148, ti148)]
def T : TT := getT tbl
theorem typesOk : TypesOk Try.prog T := oZ (by simp only [tbl, List.forall_mem_cons]; exact ⟨tok1, tok2, tok3, tok4, tok5, tok6, tok7, tok8, tok9, tok10, tok11, tok12, tok13, tok14, tok15, tok16, tok17, tok21, tok22, tok23, tok24, tok25, tok26, tok27, tok28, tok29, tok30, tok31, tok32, tok34, tok36, tok37, tok38, tok39, tok40, tok41, tok42, tok43, tok44, tok45, tok46, tok47, tok48, tok49, tok50, tok51, tok52, tok53, tok54, tok55, tok56, tok57, tok58, tok59, tok60, tok61, tok62, tok63, tok64, tok65, tok66, tok67, tok68, tok69, tok70, tok71, tok72, tok73, tok74, tok75, tok76, tok77, tok78, tok80, tok81, tok82, tok83, tok84, tok85, tok86, tok87, tok89, tok90, tok91, tok92, tok94, tok95, tok96, tok97, tok98, tok99, tok100, tok101, tok102, tok103, tok104, tok105, tok106, tok107, tok109, tok110, tok112, tok114, tok116, tok117, tok118, tok119, tok120, tok122, tok124, tok125, tok127, tok128, tok129, tok132, tok133, tok139, tok140, tok141, tok142, tok143, tok144, tok147, tok148, by simp⟩)
end Go.Proofs.Ytohfklpfeilcpaa
namespace Go.Proofs.Ytohfklpfeilcpaa
open Go.Ab Go.RowKit
abbrev E0 : TypeId → Bool := fun t => Nat.beq t 29
theorem kA (k : Nat) (ds : List Nat) (hk : k ≤ 2) (hl : ds.length < 4611686018427387904) : Run Try.prog T E0 (.call 89 [.sl k (ds.map d32)] (.sl (if k = 0 then 0 else 1) ((trim ds).map d32))) := by
 refine bM Try.func89 J J (dK J) <| Rg 1 J <| Ua J J <| Wn <| aI <| bI (α := Nat × (List Nat)) (fun ⟨k1, es⟩ => [(0, .sl k1 (es.map d32))]) (fun ⟨k1, es⟩ => []) (fun ⟨k1, es⟩ n => (k1 = k ∨ k = 2 ∧ k1 = 1) ∧ trim es = trim ds ∧ es.length < 4611686018427387904) (fun ⟨k1, es⟩ => es.length) (k, ds) ⟨J, trivial⟩ trivial ⟨.inl J, rfl, hl⟩ ?_
 rintro ⟨k1, es⟩ n hF
 change WC _ _ _ _ _ (_ :: _) ([]) n _
 obtain ⟨hk1, hds, hel⟩ := hF
 refine aB <| Rg 12 J <| Um J J <| aA (bO J J) J <| aA (lB J J) J <| bL (fun h5 => ?_) (fun h5 => ?_)
 rotate_left
 ·refine Um J J <| K1 J J <| K1 J J <| K1 J J <| K1 J J <| K1 J J <| K1 J J <| K1 J J <| aA (bU J J) J <| Wn <| bC J <| bB <| aW <| aQ J <| Rg 2 J <| Um J J <| Ua J J <| Nk [2] J <| aP <| postW (n := 0) (.inr J) J ?_ (by simp)
  have ht : trim es = es := pZ om
  rw [← hds, ht]
  rcases hk1 with rfl | ⟨rfl, rfl⟩
  ·have : k1 = 0 ∨ k1 = 1 ∨ k1 = 2 := by omega
   rcases this with rfl | rfl | rfl
   ·exact .same _
   ·exact .same _
   ·exact .two _
  ·exact .same _
 refine Um J J <| aM J (dQ J) J <| aM J (dQ J) J <| aM J (bO J J) J <| aM J (cY J J om) J <| aM J (cZ (j := es.length - 1) J J J J om om J) J <| aM J (gC J J J) J <| aM J (fS J J) J <| bL (fun h13 => ?_) (fun h13 => ?_)
 ·refine aA (bT J J) J <| Wn <| bF J <| aG <| dM <| aL (z := 6) J <| Um J J <| Um J J <| aA (bO J J) J <| aA (cY J J om) J <| aA (oSlH (j := es.length - 1) J J J gT J om (by simp)) J <| Ua J J <| Wn <| gJ <| aF <| ⟨⟨if k1 = 2 then 1 else k1, es.take (es.length - 1)⟩, ⟨congrArg some ?_, trivial⟩, trivial, ⟨?_, ?_, ?_⟩, ?_⟩
  ·have h9 : es.length - 1 < es.length := by omega
   simp [h9]
  ·split <;> omega
  ·rw [trim_step om om]; exact hds
  ·simp; omega
  ·simp; omega
 refine aA (bT J J) J <| Wn <| bC J <| bB <| aW <| aQ J <| Rg 2 J <| Um J J <| Ua J J <| Nk [2] J <| aP <| postW (n := 0) (.inr J) J ?_ (by simp)
 have ht : trim es = es := pZ om
 rw [← hds, ht]
 rcases hk1 with rfl | ⟨rfl, rfl⟩
 ·have : k1 = 0 ∨ k1 = 1 ∨ k1 = 2 := by omega
  rcases this with rfl | rfl | rfl
  ·exact .same _
  ·exact .same _
  ·exact .two _
 ·exact .same _
theorem iU (v : Int) : Run Try.prog T E0 (.call 48 [lvI v] (.v (.int .i64 v.sign))) := by
 refine bM Try.func48 J J (dK J) <| Rg 2 J <| bK (gF J J) J <| Ua J J <| Wn <| aI <| Rg 4 J <| aA (aV J J J J J) J <| aA (aH J J J J J) J <| aA (lB J J) J <| bL (fun h6 => ?_) (fun h6 => ?_)
 ·refine Ua J J <| Wn <| cU J <| Rg 1 J <| Ua J J <| Wn <| aP <| bH <| post (n := 0) (.inr J) J (congrArg (fun z => LV.v (.int .i64 z)) ?_) (by simp)
  exact (Int.sign_eq_one_of_pos ((ia_pos v).1 h6)).symm
 refine Ua J J <| Wn <| cD J <| Rg 4 J <| aA (aV J J J J J) J <| aA (aH J J J J J) J <| aA (bX J J) J <| bL (fun h10 => ?_) (fun h10 => ?_)
 ·refine Ua J J <| Wn <| cU J <| Rg 1 J <| Ua J J <| Wn <| aP <| bH <| post (n := 0) (.inr J) J (congrArg (fun z => LV.v (.int .i64 z)) ?_) (by simp)
  exact (Int.sign_eq_neg_one_of_neg ((qQ v).1 h10)).symm
 refine Ua J J <| Wn <| cD J <| cE <| aE <| Rg 1 J <| Ua J J <| Wn <| aP <| post (n := 0) (.inr J) J (congrArg (fun z => LV.v (.int .i64 z)) ?_) (by simp)
 have h1 := ia_pos v
 have h2 := qQ v
 have : v = 0 := by omega
 subst this; rfl
theorem nX (v : Int) : Run Try.prog T E0 (.call 44 [lvI v] (lvI (-v))) := by
 have hb := nC v
 refine bM Try.func44 J J (dK J) <| Rg 2 J <| bK (gF J J) J <| bK (gE J) J <| Wn <| Rg 7 J <| aA (aV J J J J J) J <| aA (aH J J J J J) J <| aA (oT J om) J <| aA (aV J J J J J) J <| aA (aH J J J J J) J <| aA (iF (cs := [_, _]) J J J J J) J <| bG (cV (cs' := [_, _]) J J J J J J J J) <| Wn <| aP <| post (n := 0) (.inr J) J ?_ (by simp)
 simp only [lvI, ia_negate, ik_negate, idg_negate]; rfl
theorem abs_run (v : Int) : Run Try.prog T E0 (.call 74 [lvI v] (lvI v.natAbs)) := by
 refine bM Try.func74 J J (dK J) <| Rg 2 J <| bK (gF J J) J <| bK (gE J) J <| Wn <| aB <| Rg 3 J <| aA (aV J J J J J) J <| aA (aH J J J J J) J <| aA (bX J J) J <| bL (fun h5 => ?_) (fun h5 => ?_)
 rotate_left
 ·refine Wn <| bC J <| aG <| Rg 2 J <| aA (aH (l := .agg [_, _]) J J J J J) J <| bG (cV (cs' := [_, _]) J J J J J J J J) <| Wn <| aP <| post (n := 0) (.inr J) J ?_ (by simp)
  have h1 := qQ v
  have : (v.natAbs : Int) = v := by omega
  rw [this]; rfl
 refine Wn <| bF J <| aB <| Rg 3 J <| aA (aH (l := .agg [_, _]) J J J J J) J <| aA (aJ J (nX _) (by simp)) J <| bG (cV (cs' := [_, _]) J J J J J J J J) <| Wn <| bQ <| post (n := 0) (.inr J) J ?_ (by simp)
 have h1 := (qQ v).1 h5
 have : (v.natAbs : Int) = -v := by omega
 rw [this]; rfl
theorem one_run  : Run Try.prog T E0 (.call 81 [] (lvI 1)) := by
 refine bM Try.func81 J J (dK J) <| Rg 1 J <| bK (gE J) J <| Wn <| Rg 2 J <| aA (iF (cs := [_, _]) J J J J J) J <| bG (cV (cs' := [_, _]) J J J J J J J J) <| Wn <| aP ?_
 exact post (n := 0) (.inr J) J J (by simp)
theorem mN (v : Int) (hv : -9223372036854775808 ≤ v ∧ v ≤ 9223372036854775807) : Run Try.prog T E0 (.call 34 [.v (.int .i64 v)] (lvI v)) := by
 refine bM Try.func34 J J (dK J) <| Rg 1 J <| bK (gE J) J <| Wn <| aB <| Rg 6 J <| Um J J <| aA (lB J J) J <| bL (fun h6 => ?_) (fun h6 => ?_)
 rotate_left
 ·refine Um J J <| K1 J J <| K1 J J <| aA (bU J J) J <| Wn <| bC J <| aG <| Rg 1 J <| Ua J J <| Wn <| Rg 3 J <| Um J J <| aA (cI (v % 18446744073709551616) (bZ J J J) (IntKind.wrap_u64 _)) J <| Ua J J <| Wn <| aB <| Rg 2 J <| Um J J <| aA (bX J J) J <| bL (fun h16 => ?_) (fun h16 => ?_)
  rotate_left
  ·refine Wn <| bC J <| aG <| Rg 9 J <| Um J J <| Um J J <| aA (cI (((v.natAbs % 4294967296 : Nat) : Int)) (bZ J J J) (by rw [IntKind.wrap_u32]; omega)) J <| Um J J <| aA (cI (((v.natAbs / 4294967296 : Nat) : Int)) (eX (s := 32) J J om) om) J <| aA (cI (((v.natAbs / 4294967296 : Nat) : Int)) (bZ J J J) (by rw [IntKind.wrap_u32]; omega)) J <| aA (eV (cs := [_, _]) (rows := [[_], [_]]) J J (by decide) J J J) J <| aA (iF (cs := [_, _]) J J J J J) J <| bG (cV (cs' := [_, _]) J J J J J J J J) <| Nk [2] J <| aP ?_
   omega
  refine Wn <| bF J <| Rg 4 J <| Um J J <| aA (cI (((v.natAbs : Nat) : Int)) (oNeg J) (by rw [IntKind.wrap_u64]; omega)) J <| Ua J J <| Ua J J <| Nk [2,3,4] J <| Rg 9 J <| Um J J <| Um J J <| aA (cI (((v.natAbs % 4294967296 : Nat) : Int)) (bZ J J J) (by rw [IntKind.wrap_u32]; omega)) J <| Um J J <| aA (cI (((v.natAbs / 4294967296 : Nat) : Int)) (eX (s := 32) J J om) om) J <| aA (cI (((v.natAbs / 4294967296 : Nat) : Int)) (bZ J J J) (by rw [IntKind.wrap_u32]; omega)) J <| aA (eV (cs := [_, _]) (rows := [[_], [_]]) J J (by decide) J J J) J <| aA (iF (cs := [_, _]) J J J J J) J <| bG (cV (cs' := [_, _]) J J J J J J J J) <| Wn <| aP <| postW (n := 0) (l := .agg [_, _]) (.inr J) J ?_ (by simp)
  have hns : ¬ small v := by unfold small; omega
  rw [nW hns, Int.sign_eq_neg_one_of_neg h16, ← rH (m := v.natAbs) om om]
  exact .int _ _
 refine Um J J <| aM J (dQ J) J <| aM J (bX J J) J <| bL (fun h9 => ?_) (fun h9 => ?_)
 ·refine aA (bT J J) J <| Wn <| bF J <| aB <| Rg 3 J <| Um J J <| aA (iF (cs := [_, _]) J J J J J) J <| bG (cV (cs' := [_, _]) J J J J J J J J) <| Wn <| bQ <| post (n := 0) (.inr J) J ?_ (by simp)
  rw [iQ ⟨h6, h9⟩]; rfl
 refine aA (bT J J) J <| Wn <| bC J <| aG <| Rg 1 J <| Ua J J <| Wn <| Rg 3 J <| Um J J <| aA (cI (v % 18446744073709551616) (bZ J J J) (IntKind.wrap_u64 _)) J <| Ua J J <| Wn <| aB <| Rg 2 J <| Um J J <| aA (bX J J) J <| bL (fun h16 => ?_) (fun h16 => ?_)
 rotate_left
 ·refine Wn <| bC J <| aG <| Rg 9 J <| Um J J <| Um J J <| aA (cI (((v.natAbs % 4294967296 : Nat) : Int)) (bZ J J J) (by rw [IntKind.wrap_u32]; omega)) J <| Um J J <| aA (cI (((v.natAbs / 4294967296 : Nat) : Int)) (eX (s := 32) J J om) om) J <| aA (cI (((v.natAbs / 4294967296 : Nat) : Int)) (bZ J J J) (by rw [IntKind.wrap_u32]; omega)) J <| aA (eV (cs := [_, _]) (rows := [[_], [_]]) J J (by decide) J J J) J <| aA (iF (cs := [_, _]) J J J J J) J <| bG (cV (cs' := [_, _]) J J J J J J J J) <| Nk [2] J <| aP <| postW (n := 0) (l := .agg [_, _]) (.inr J) J ?_ (by simp)
  have hns : ¬ small v := by unfold small; omega
  rw [nW hns, Int.sign_eq_one_of_pos om, ← rH (m := v.natAbs) om om]
  exact .int _ _
 refine Wn <| bF J <| Rg 4 J <| Um J J <| aA (cI (((v.natAbs : Nat) : Int)) (oNeg J) (by rw [IntKind.wrap_u64]; omega)) J <| Ua J J <| Ua J J <| Nk [2,3,4] J <| Rg 9 J <| Um J J <| Um J J <| aA (cI (((v.natAbs % 4294967296 : Nat) : Int)) (bZ J J J) (by rw [IntKind.wrap_u32]; omega)) J <| Um J J <| aA (cI (((v.natAbs / 4294967296 : Nat) : Int)) (eX (s := 32) J J om) om) J <| aA (cI (((v.natAbs / 4294967296 : Nat) : Int)) (bZ J J J) (by rw [IntKind.wrap_u32]; omega)) J <| aA (eV (cs := [_, _]) (rows := [[_], [_]]) J J (by decide) J J J) J <| aA (iF (cs := [_, _]) J J J J J) J <| bG (cV (cs' := [_, _]) J J J J J J J J) <| Wn <| aP <| postW (n := 0) (l := .agg [_, _]) (.inr J) J ?_ (by simp)
 have hns : ¬ small v := by unfold small; omega
 rw [nW hns, Int.sign_eq_neg_one_of_neg h16, ← rH (m := v.natAbs) om om]
 exact .int _ _
theorem nU (v b : Int) (hb : 0 ≤ b ∧ b < 4611686018427387904) : Run Try.prog T E0 (.call 51 [lvI v, .v (.int .i64 b)] (.tup [.v (.int .i64 (if -b ≤ v ∧ v ≤ b then v else 0)), .v (.bool (decide (-b ≤ v ∧ v ≤ b)))])) := by
 refine bM Try.func51 J J (dK J) <| Rg 3 J <| bK (gF J J) J <| Ua J J <| Ua J J <| Wn <| aB <| Rg 16 J <| aA (aV J J J J J) J <| aA (aH J J J J J) J <| aA (oNilN J J) J <| fN (fun h8 => ?_) (fun h8 => ?_)
 ·refine Um J J <| K1 J J <| K1 J J <| K1 J J <| K1 J J <| aA (bT J J) J <| Um J J <| K1 J J <| K1 J J <| K1 J J <| K1 J J <| K1 J J <| aA (bT J J) J <| Nk [2,21] J <| bF J <| aB <| Rg 2 J <| Ua J J <| Ua J J <| Wn <| bQ <| post (n := 0) (.inr J) J ?_ (by simp)
  have hs := ik_eq'.1 h8
  have hn : ¬ (-b ≤ v ∧ v ≤ b) := by unfold small at hs; omega
  rw [if_neg hn, decide_eq_false hn]; rfl
 refine Um J J <| aM J (aV J J J J J) J <| aM J (aH J J J J J) J <| aM J (dQ J) J <| aM J (lB J J) J <| bL (fun h13 => ?_) (fun h13 => ?_)
 ·refine aA (bU J J) J <| Um J J <| K1 J J <| K1 J J <| K1 J J <| K1 J J <| K1 J J <| aA (bT J J) J <| Nk [2,21] J <| bF J <| aB <| Rg 2 J <| Ua J J <| Ua J J <| Wn <| bQ <| post (n := 0) (.inr J) J ?_ (by simp)
  have hs := dB (oO.1 h8)
  have hn : ¬ (-b ≤ v ∧ v ≤ b) := by omega
  rw [if_neg hn, decide_eq_false hn]; rfl
 refine aA (bU J J) J <| Um J J <| aM J (aV J J J J J) J <| aM J (aH J J J J J) J <| aM J (dQ J) J <| aM J (oT J om) J <| aM J (bX J J) J <| bL (fun h20 => ?_) (fun h20 => ?_)
 ·refine aA (bU J J) J <| Nk [2,21] J <| bF J <| aB <| Rg 2 J <| Ua J J <| Ua J J <| Wn <| bQ <| post (n := 0) (.inr J) J ?_ (by simp)
  have hs := dB (oO.1 h8)
  have hn : ¬ (-b ≤ v ∧ v ≤ b) := by omega
  rw [if_neg hn, decide_eq_false hn]; rfl
 refine aA (bU J J) J <| Nk [2,21] J <| bC J <| aG <| Rg 4 J <| aA (aV J J J J J) J <| aA (aH J J J J J) J <| Ua J J <| Ua J J <| Wn <| aP <| post (n := 0) (.inr J) J ?_ (by simp)
 have hs := dB (oO.1 h8)
 have hn : -b ≤ v ∧ v ≤ b := by omega
 rw [if_pos hn, decide_eq_true hn]
 exact congrArg (fun z => LV.tup [.v (.int .i64 z), .v (.bool true)]) hs
theorem fG (v : Int) : Run Try.prog T E0 (.call 79 [lvI v] (.tup [.v (.int .i64 v.sign), .sl 1 ((dgs B32 v.natAbs).map d32)])) := by
 have hb := nC v
 refine bM Try.func79 J J (dK J) <| Rg 3 J <| bK (gF J J) J <| Ua J J <| Ua J J <| Wn <| aB <| Rg 3 J <| aA (aV J J J J J) J <| aA (aH J J J J J) J <| aA (oNilN J J) J <| fN (fun h8 => ?_) (fun h8 => ?_)
 ·refine Wn <| bF J <| aB <| bS (z := 6) J kR <| aC (aV J J J J J) J <| aC (aH J J J J J) J <| aC (aV J J J J J) J <| aC (aH J J J J J) J <| aC (iS J) J <| aC (iS J) J <| bJ (aT kR) J <| bQ <| post (n := 0) (.inr J) J ?_ (by simp)
  have hs := ik_eq'.1 h8
  rw [mH hs, ik_big hs, idg_big hs]; rfl
 have hs := oO.1 h8
 have hia := dB hs
 refine Wn <| bC J <| aG <| Rg 2 J <| Ua J J <| Ua J J <| Wn <| aI <| Rg 4 J <| aA (aV J J J J J) J <| aA (aH J J J J J) J <| aA (lB J J) J <| bL (fun h16 => ?_) (fun h16 => ?_)
 ·refine Ua J J <| Wn <| cU J <| dC (z := 5) J kR <| aC (aV J J J J J) J <| aC (aH J J J J J) J <| aC (cI (((v.natAbs : Nat) : Int)) (bZ J J J) (by rw [IntKind.wrap_u64]; omega)) J <| aC (iS J) J <| aC (iS J) J <| bJ (aT kR) J <| aE <| Ck [4,5] J <| Rg 10 J <| Um J J <| Um J J <| aA (cI (((v.natAbs % 4294967296 : Nat) : Int)) (bZ J J J) (by rw [IntKind.wrap_u32]; omega)) J <| Um J J <| aA (cI (((v.natAbs / 4294967296 : Nat) : Int)) (eX (s := 32) J J om) om) J <| aA (cI (((v.natAbs / 4294967296 : Nat) : Int)) (bZ J J J) (by rw [IntKind.wrap_u32]; omega)) J <| aA (eV (cs := [_, _]) (rows := [[_], [_]]) J J (by decide) J J J) J <| aA (aJ J (kA 2 [v.natAbs % 4294967296, v.natAbs / 4294967296] om (by simp)) (by simp)) J <| Ua J J <| Ua J J <| dR ?_
  refine aP <| post (n := 0) (.inr J) J ?_ (by simp)
  rw [← rI (m := v.natAbs) om, Int.sign_eq_one_of_pos om]; rfl
 refine Ua J J <| Wn <| cD J <| Rg 4 J <| aA (aV J J J J J) J <| aA (aH J J J J J) J <| aA (bX J J) J <| bL (fun h23 => ?_) (fun h23 => ?_)
 rotate_left
 ·refine Ua J J <| Nk [1,4,5,20] J <| cD J <| cE <| aE <| Rg 10 J <| Um J J <| Um J J <| aA (cI (((v.natAbs % 4294967296 : Nat) : Int)) (bZ J J J) (by rw [IntKind.wrap_u32]; omega)) J <| Um J J <| aA (cI (((v.natAbs / 4294967296 : Nat) : Int)) (eX (s := 32) J J om) om) J <| aA (cI (((v.natAbs / 4294967296 : Nat) : Int)) (bZ J J J) (by rw [IntKind.wrap_u32]; omega)) J <| aA (eV (cs := [_, _]) (rows := [[_], [_]]) J J (by decide) J J J) J <| aA (aJ J (kA 2 [v.natAbs % 4294967296, v.natAbs / 4294967296] om (by simp)) (by simp)) J <| Ua J J <| Ua J J <| Wn <| aP <| post (n := 0) (.inr J) J ?_ (by simp)
  have h0 : v = 0 := by omega
  rw [← rI (m := v.natAbs) om]
  subst h0; rfl
 refine Ua J J <| Nk [1,4,5,20] J <| cU J <| dC (z := 6) J kR <| aC (aV J J J J J) J <| aC (aH J J J J J) J <| aC (oT J om) J <| aC (cI (((v.natAbs : Nat) : Int)) (bZ J J J) (by rw [IntKind.wrap_u64]; omega)) J <| aC (iS J) J <| aC (iS J) J <| bJ (aT kR) J <| aE <| Rg 10 J <| Um J J <| Um J J <| aA (cI (((v.natAbs % 4294967296 : Nat) : Int)) (bZ J J J) (by rw [IntKind.wrap_u32]; omega)) J <| Um J J <| aA (cI (((v.natAbs / 4294967296 : Nat) : Int)) (eX (s := 32) J J om) om) J <| aA (cI (((v.natAbs / 4294967296 : Nat) : Int)) (bZ J J J) (by rw [IntKind.wrap_u32]; omega)) J <| aA (eV (cs := [_, _]) (rows := [[_], [_]]) J J (by decide) J J J) J <| aA (aJ J (kA 2 [v.natAbs % 4294967296, v.natAbs / 4294967296] om (by simp)) (by simp)) J <| Ua J J <| Ua J J ?_
 refine Nk [2,3] J <| aP <| post (n := 0) (.inr J) J ?_ (by simp)
 rw [← rI (m := v.natAbs) om, Int.sign_eq_neg_one_of_neg om]; rfl
theorem iM (x y c : Nat) (hx : x < 4294967296) (hy : y < 4294967296) (hc : c ≤ 1) : Run Try.prog T E0 (.call 90 [.v (.int .u32 (x : Int)), .v (.int .u32 (y : Int)), .v (.int .u32 (c : Int))] (.tup [.v (.int .u32 (((x + y + c) % 4294967296 : Nat) : Int)), .v (.int .u32 (((x + y + c) / 4294967296 : Nat) : Int))])) := by
 refine bM Try.func90 J J (dK J) <| Rg 2 J <| Ua J J <| Ua J J <| Wn <| Rg 9 J <| Um J J <| aA (cI ((x : Int)) (bZ J J J) (by rw [IntKind.wrap_u64]; omega)) J <| Um J J <| aA (cI ((y : Int)) (bZ J J J) (by rw [IntKind.wrap_u64]; omega)) J <| aA (cI (((x + y : Nat) : Int)) (iR J J) om) J <| Um J J <| aA (cI ((c : Int)) (bZ J J J) (by rw [IntKind.wrap_u64]; omega)) J <| aA (cI (((x + y + c : Nat) : Int)) (iR J J) om) J <| Ua J J <| Wn <| Rg 3 J <| Um J J <| aA (cI ((((x + y + c) % 4294967296 : Nat) : Int)) (bZ J J J) (by rw [IntKind.wrap_u32]; omega)) J <| Ua J J <| Nk [6,8] J <| Rg 4 J <| Um J J ?_
 refine aA (cI ((((x + y + c) / 4294967296 : Nat) : Int)) (eX (s := 32) J J om) om) J <| aA (cI ((((x + y + c) / 4294967296 : Nat) : Int)) (bZ J J J) (by rw [IntKind.wrap_u32]; omega)) J <| Ua J J <| Wn <| aP ?_
 exact post (n := 0) (.inr J) J J (by simp)
theorem jR (k1 k2 : Nat) (xs ys : List Nat) (hx : Dg B32 xs) (hy : Dg B32 ys) (tx : Trm xs) (ty : Trm ys) (lx : xs.length < 4611686018427387904) (ly : ys.length < 4611686018427387904) : Run Try.prog T E0 (.call 85 [.sl k1 (xs.map d32), .sl k2 (ys.map d32)] (.v (.int .i64 ((val B32 xs : Int) - val B32 ys).sign))) := by
 refine bM Try.func85 J J (dK J) <| Rg 1 J <| Ua J J <| Wn <| aB <| Rg 5 J <| Um J J <| aA (bO J J) J <| Um J J <| aA (bO J J) J <| aA (lD J J) J <| bL (fun h10 => ?_) (fun h10 => ?_)
 ·refine Wn <| bF J <| aB <| aB <| Rg 5 J <| Um J J <| aA (bO J J) J <| Um J J <| aA (bO J J) J <| aA (bX J J) J <| bL (fun h15 => ?_) (fun h15 => ?_)
  ·refine Wn <| bF J <| aB <| Rg 1 J <| Ua J J <| Wn <| bQ <| post (n := 0) (.inr J) J (congrArg (fun z => LV.v (.int .i64 z)) ?_) (by simp)
   have := fW (B := B32) (by decide) hx ty om
   exact (Int.sign_eq_neg_one_of_neg om).symm
  refine Wn <| bC J <| aG <| aB <| Rg 1 J <| Ua J J <| Wn <| bQ <| post (n := 0) (.inr J) J (congrArg (fun z => LV.v (.int .i64 z)) ?_) (by simp)
  have := fW (B := B32) (by decide) hy tx om
  exact (Int.sign_eq_one_of_pos om).symm
 have hlen : xs.length = ys.length := by omega
 refine Wn <| bC J <| aG <| aB <| Rg 4 J <| Um J J <| aA (bO J J) J <| aA (cY J J om) J <| Ua J J <| Wn <| aI <| bI (α := Nat) (fun k => [(0, .sl k1 (xs.map d32)), (1, .sl k2 (ys.map d32)), (5, .v (.int .i64 ((k : Int) - 1)))]) (fun k => []) (fun k n => k ≤ xs.length ∧ xs.drop k = ys.drop k) (fun k => k) (xs.length) ⟨J, J, J, trivial⟩ trivial ⟨Nat.le_refl _, by rw [List.drop_length, hlen, List.drop_length]⟩ ?_
 rintro k n hF
 change WC _ _ _ _ _ (_ :: _) ([]) n _
 obtain ⟨hk, hd⟩ := hF
 refine aB <| Rg 2 J <| Um J J <| aA (iT J J) J <| bL (fun h20 => ?_) (fun h20 => ?_)
 rotate_left
 ·refine Wn <| bC J <| bB <| aW <| aQ J <| Rg 1 J <| Ua J J <| Wn <| aP <| post (n := 0) (.inr J) J (congrArg (fun z => LV.v (.int .i64 z)) ?_) (by simp)
  have h0 : k = 0 := by omega
  subst h0
  simp only [List.drop_zero] at hd
  subst hd
  simp
 refine Wn <| bF J <| aG <| aI <| bS (z := 9) J kR <| Dm J J <| Dm J J <| aC (cZ (j := k - 1) J J J J om om J) J <| aC (gC J J J) J <| Dm J J <| Dm J J <| aC (cZ (j := k - 1) J J J J om om J) J <| aC (gC J J J) J <| aC (lD J J) J <| kS (fun h31 => ?_) (fun h31 => ?_)
 rotate_left
 ·refine bJ (aT kR) J <| cD J <| cE <| aE <| aL (z := 3) J <| Um J J <| aA (cI (((k - 1 : Nat) : Int) - 1) (cY J J om) om) J <| Ua J J <| Wn <| aF ?_
  have hj : k - 1 + 1 = k := by omega
  refine ⟨k - 1, ⟨J, J, J, trivial⟩, trivial, ⟨om, ?_⟩, by show k - 1 < k; omega⟩
  rw [bY (by omega : k - 1 < xs.length), bY (by omega : k - 1 < ys.length), hj, hd]
  congr 1; omega
 refine bJ (aT kR) J <| cU J <| aB <| bS (z := 9) J kR <| Dm J J <| Dm J J <| aC (cZ (j := k - 1) J J J J om om J) J <| aC (gC J J J) J <| Dm J J <| Dm J J <| aC (cZ (j := k - 1) J J J J om om J) J <| aC (gC J J J) J <| aC (bX J J) J <| kS (fun h40 => ?_) (fun h40 => ?_)
 ·refine bJ (aT kR) J <| Ck [40] J <| bF J <| aB <| Rg 1 J <| Ua J J <| Wn <| bQ <| bH <| gH <| bH <| post (n := 0) (.inr J) J (congrArg (fun z => LV.v (.int .i64 z)) ?_) (by simp)
  have hj : k - 1 + 1 = k := by omega
  have := qB (B := B32) (ys := ys) (by decide) hx (k := k - 1) om om (by rw [hj]; exact hd) om
  exact (Int.sign_eq_neg_one_of_neg om).symm
 refine bJ (aT kR) J <| Ck [40] J <| bC J <| aG <| Rg 1 J <| Ua J J <| Wn <| aP <| bH <| gH <| bH <| post (n := 0) (.inr J) J (congrArg (fun z => LV.v (.int .i64 z)) ?_) (by simp)
 have hj : k - 1 + 1 = k := by omega
 have := qB (B := B32) (ys := xs) (by decide) hy (k := k - 1) om om (by rw [hj]; exact hd.symm) om
 exact (Int.sign_eq_one_of_pos om).symm
end Go.Proofs.Ytohfklpfeilcpaa
namespace Go.Proofs.Ytohfklpfeilcpaa
open Go.Ab Go.RowKit
theorem pX (x y c : Nat) (hx : x < 4294967296) (hy : y < 4294967296) (hc : c ≤ 1) : Run Try.prog T E0 (.call 91 [.v (.int .u32 (x : Int)), .v (.int .u32 (y : Int)), .v (.int .u32 (c : Int))] (.tup [.v (.int .u32 ((((x + 8589934592 - y - c) % 4294967296) : Nat) : Int)), .v (.int .u32 ((if x < y + c then 1 else 0 : Nat) : Int))])) := by
 have hxy : x ^^^ y < 4294967296 := Nat.xor_lt_two_pow (n := 32) hx hy
 refine bM Try.func91 J J (dK J) <| Rg 2 J <| Ua J J <| Ua J J <| Wn <| Rg 6 J <| Um J J <| Um J J <| aA (oSub32 J J) J <| Um J J <| aA (cI (((((x + 8589934592 - y - c) % 4294967296) : Nat) : Int)) (oSub32 J J) om) J <| Ua J J <| Wn <| Rg 13 J <| Um J J <| aA (oCom32 (a := x) J hx) J <| Um J J <| aA (fU (v := .int .u32 (((4294967295 - x) &&& y : Nat) : Int)) J J (and32 om hy)) J <| Um J J <| Um J J <| aA (fU (v := .int .u32 ((x ^^^ y : Nat) : Int)) J J (xor32 hx hy)) J <| aA (oCom32 (a := x ^^^ y) J hxy) J <| Um J J <| aA (fU (v := .int .u32 (((4294967295 - (x ^^^ y)) &&& ((x + 8589934592 - y - c) % 4294967296) : Nat) : Int)) J J (and32 om om)) J ?_
 refine aA (fU (v := .int .u32 ((((4294967295 - x) &&& y) ||| ((4294967295 - (x ^^^ y)) &&& ((x + 8589934592 - y - c) % 4294967296)) : Nat) : Int)) J J (or32 (Nat.lt_of_le_of_lt Nat.and_le_right hy) (Nat.lt_of_le_of_lt Nat.and_le_left om))) J <| aA (cI (((if x < y + c then 1 else 0 : Nat) : Int)) (qW (s := 31) J J om) (by rw [← borrow hx hy hc (d := ((x + 8589934592 - y - c) % 4294967296)) om]; rfl)) J <| Ua J J <| Nk [6,7] J <| aP ?_
 exact post (n := 0) (.inr J) J J (by simp)
theorem plus_run (k1 k2 : Nat) (xs ys : List Nat) (hx : Dg B32 xs) (hy : Dg B32 ys) (lx : xs.length < 1099511627776) (ly : ys.length < 1099511627776) : ∃ r, Run Try.prog T E0 (.call 84 [.sl k1 (xs.map d32), .sl k2 (ys.map d32)] r) ∧ ∃ ds, r = .sl 1 (ds.map d32) ∧ Dg B32 ds ∧ val B32 ds = val B32 xs + val B32 ys ∧ ds.length ≤ max xs.length ys.length + 1 := by
 refine lQ Try.func84 J J (dK J) ?_
 have J3 : ∀ (k1 k2 : Nat) (us ws : List Nat) (hu : Dg B32 us) (hw : Dg B32 ws) (hle : ws.length ≤ us.length) (hm : us.length ≤ max xs.length ys.length) (hs : val B32 us + val B32 ws = val B32 xs + val B32 ys) (n : Nat) , WC Try.prog T E0 Try.f84.ntmps (codeR (codeR (codeOf Try.f84))) [(0, .sl k1 (us.map d32)), (1, .sl k2 (ws.map d32))] [] n (fun x e h n => ∃ r, (∃ ds, r = .sl 1 (ds.map d32) ∧ Dg B32 ds ∧ val B32 ds = val B32 xs + val B32 ys ∧ ds.length ≤ max xs.length ys.length + 1) ∧ Post T Try.f84.results.toList r x e h n) := by
  intro k1 k2 us ws hu hw hle hm hs n
  refine Rg 5 J <| Um J J <| aA (bO J J) J <| aA (aU J J om) J <| bK (oMk (a := 0) (b := us.length + 1) J J J J J J (by decide) om (by show 4 * (us.length + 1) ≤ _; omega) om) J <| Ua J J <| Wn <| Rg 1 J <| Ua J J <| Wn <| aB <| Rg 3 J <| Um J J <| aA (bO J J) J <| Um J J <| Wn <| aI <| bI (α := Nat × Nat × (List Nat)) (fun ⟨c, q, ds⟩ => [(0, .sl k1 (us.map d32)), (1, .sl k2 (ws.map d32)), (5, .ref q 1 0 ds.length), (6, .v (.int .u32 (c : Int))), (22, .v (.int .i64 (us.length : Int))), (23, .v (.int .i64 (ds.length : Int)))]) (fun ⟨c, q, ds⟩ => [(q, { cells := (ds.map d32).flatten, sz := 1, elem := 99, st := 0 })]) (fun ⟨c, q, ds⟩ n => ds.length ≤ us.length ∧ Dg B32 ds ∧ c ≤ 1 ∧ val B32 ds + B32 ^ ds.length * c = val B32 (us.take ds.length) + val B32 (ws.take ds.length)) (fun ⟨c, q, ds⟩ => us.length - ds.length) (0, n + 3, []) ⟨J, J, J, J, J, J, trivial⟩ ⟨g0, trivial⟩ ⟨Nat.zero_le _, by intro d hd; simp at hd, om, by simp [val]⟩ ?_
  rintro ⟨c, q, ds⟩ n hF
  change WC _ _ _ _ _ (_ :: _) (_ :: _) n _
  obtain ⟨hdl, hdd, hc, hi⟩ := hF
  refine Rg 1 J <| aA (bX J J) J <| bL (fun h24 => ?_) (fun h24 => ?_)
  rotate_left
  ·refine Wn <| bC J <| bB <| aW <| aQ J <| Rg 5 J <| Um J J <| Um J J <| aA (eV (cs := [_]) (rows := [[_]]) J J (by decide) J J J) J <| bK (oApM (f := d32) J J J J J (fun _ => rfl) (by decide) g0 (by show (2 * (ds.length + 1) + 256) * 4 ≤ _; omega) om) J <| Ua J J <| Wn <| aP <| ⟨.sl 1 ((ds ++ [c]).map d32), ⟨_, rfl, hdd.snoc (by show c < 4294967296; omega), ?_, by simp; omega⟩, nZ (n := 0) _ (.inr J) J (by simp) g0 (by show (0 : Nat) ≠ 2; decide) J (by decide) J gT dL⟩
   have hl : ds.length = us.length := by omega
   rw [iJ, hi, List.take_of_length_le om, List.take_of_length_le om, hs]
  refine Wn <| bF J <| aG <| aI <| Rg 2 J <| Um J J <| Ua J J <| Wn <| Rg 1 J <| Ua J J <| Wn <| aB <| Rg 4 J <| Um J J <| Um J J <| aA (bO J J) J <| aA (bX J J) J <| bL (fun h29 => ?_) (fun h29 => ?_)
  rotate_left
  ·refine Wn <| bC J <| aG <| Rg 1 J <| Ua J J <| Nk [0,1,5,6,7,8,22,23] J ?_
   have hxl : us.getD ds.length default < 4294967296 := bR hu om
   refine Rg 12 J <| Um J J <| Um J J <| aA (cZ J J J J J om J) J <| aA (gC J J J) J <| Um J J <| Um J J <| aA (aJ J (iM (us.getD ds.length default) 0 c hxl (by decide) hc) (by simp)) J <| Um J J <| aA (fD J J) J <| aA (fD J J) J <| Ua J J <| Ua J J <| Nk [0,1,5,6,9,22,23] J <| aL (z := 5) J <| Um J J <| Um J J <| aA (eV (cs := [_]) (rows := [[_]]) J J (by decide) J J J) J <| bK (oApM (f := d32) J J J J J (fun _ => rfl) (by decide) g0 (by show (2 * (ds.length + 1) + 256) * 4 ≤ _; omega) om) J <| Ua J J <| Wn <| aE <| aL (z := 2) J ?_
   refine aA (cI (((ds.length + 1 : Nat) : Int)) (aU J J om) om) J <| Um J J <| Wn <| aF <| ⟨⟨_, _, ds ++ [_]⟩, ⟨rfl, rfl, rfl, rfl, rfl, congrArg some (by simp), trivial⟩, ⟨g0, trivial⟩, ⟨by simp; omega, hdd.snoc (Nat.mod_lt _ (by decide)), om, pS hi J (getD_out om).symm⟩, by simp; omega⟩
  refine Wn <| bF J <| Rg 5 J <| Um J J <| Um J J <| aA (cZ J J J J J om J) J <| aA (gC J J J) J <| Ua J J <| Nk [0,1,5,6,7,8,22,23] J <| Rg 1 J <| Ua J J <| dR ?_
  have hxl : us.getD ds.length default < 4294967296 := bR hu om
  have hyl : ws.getD ds.length default < 4294967296 := bR hw om
  refine Rg 12 J <| Um J J <| Um J J <| aA (cZ J J J J J om J) J <| aA (gC J J J) J <| Um J J <| Um J J <| aA (aJ J (iM (us.getD ds.length default) (ws.getD ds.length default) c hxl hyl hc) (by simp)) J <| Um J J <| aA (fD J J) J <| aA (fD J J) J <| Ua J J <| Ua J J <| Nk [0,1,5,6,9,22,23] J <| aL (z := 5) J <| Um J J <| Um J J <| aA (eV (cs := [_]) (rows := [[_]]) J J (by decide) J J J) J <| bK (oApM (f := d32) J J J J J (fun _ => rfl) (by decide) g0 (by show (2 * (ds.length + 1) + 256) * 4 ≤ _; omega) om) J <| Ua J J <| Wn <| aE <| aL (z := 2) J ?_
  refine aA (cI (((ds.length + 1 : Nat) : Int)) (aU J J om) om) J <| Um J J <| Wn <| aF <| ⟨⟨_, _, ds ++ [_]⟩, ⟨rfl, rfl, rfl, rfl, rfl, congrArg some (by simp), trivial⟩, ⟨g0, trivial⟩, ⟨by simp; omega, hdd.snoc (Nat.mod_lt _ (by decide)), om, pS hi J J⟩, by simp; omega⟩
 refine Rg 1 J <| Ua J J <| Wn <| aB <| Rg 5 J <| Um J J <| aA (bO J J) J <| Um J J <| aA (bO J J) J <| aA (bX J J) J <| bL (fun h14 => ?_) (fun h14 => ?_)
 rotate_left
 ·refine Wn <| bC J <| aG <| Ck [0,1] J ?_
  exact J3 _ _ xs ys hx hy om om J _
 refine Wn <| bF J <| Rg 4 J <| Um J J <| Um J J <| Ua J J <| Ua J J <| Nk [0,1] J ?_
 exact J3 _ _ ys xs hy hx om om om _
theorem kG (k1 k2 : Nat) (xs ys : List Nat) (hx : Dg B32 xs) (hy : Dg B32 ys) (lx : xs.length < 1099511627776) (hle : ys.length ≤ xs.length) (hv : val B32 ys ≤ val B32 xs) : ∃ r, Run Try.prog T E0 (.call 86 [.sl k1 (xs.map d32), .sl k2 (ys.map d32)] r) ∧ ∃ ds, r = .sl 1 (ds.map d32) ∧ Dg B32 ds ∧ val B32 ds = val B32 xs - val B32 ys ∧ ds.length = xs.length := by
 refine lQ Try.func86 J J (dK J) <| Rg 1 J <| Ua J J <| Wn <| Rg 4 J <| Um J J <| aA (bO J J) J <| bK (oMk (a := 0) (b := xs.length) J J J J J J (by decide) om (by show 4 * xs.length ≤ _; omega) om) J <| Ua J J <| Wn <| Rg 1 J <| Ua J J <| Wn <| aB <| Rg 3 J <| Um J J <| aA (bO J J) J <| Um J J <| Wn <| aI <| bI (α := Nat × Nat × (List Nat)) (fun ⟨c, q, ds⟩ => [(0, .sl k1 (xs.map d32)), (1, .sl k2 (ys.map d32)), (5, .ref q 1 0 ds.length), (6, .v (.int .u32 (c : Int))), (14, .v (.int .i64 (xs.length : Int))), (15, .v (.int .i64 (ds.length : Int)))]) (fun ⟨c, q, ds⟩ => [(q, { cells := (ds.map d32).flatten, sz := 1, elem := 99, st := 0 })]) (fun ⟨c, q, ds⟩ n => ds.length ≤ xs.length ∧ Dg B32 ds ∧ c ≤ 1 ∧ val B32 (xs.take ds.length) + B32 ^ ds.length * c = val B32 ds + val B32 (ys.take ds.length)) (fun ⟨c, q, ds⟩ => xs.length - ds.length) (0, 0 + 1 + 2, []) ⟨J, J, J, J, J, J, trivial⟩ ⟨g0, trivial⟩ ⟨Nat.zero_le _, by intro d hd; simp at hd, om, by simp [val]⟩ ?_
 rintro ⟨c, q, ds⟩ n hF
 change WC _ _ _ _ _ (_ :: _) (_ :: _) n _
 obtain ⟨hdl, hdd, hc, hi⟩ := hF
 refine Rg 1 J <| aA (bX J J) J <| bL (fun h16 => ?_) (fun h16 => ?_)
 rotate_left
 ·refine Wn <| bC J <| bB <| aW <| aQ J <| Rg 2 J <| Um J J <| Ua J J <| Wn <| aP <| ⟨.sl 1 (ds.map d32), ⟨_, rfl, hdd, ?_, om⟩, nZ (n := 0) _ (.inr J) J (by simp) g0 (by show (0 : Nat) ≠ 2; decide) J (by decide) J gT dL⟩
  have hl : ds.length = xs.length := by omega
  rw [List.take_of_length_le om, List.take_of_length_le om] at hi
  have hlt := fV (B := B32) (by decide) hdd
  rcases (show c = 0 ∨ c = 1 by omega) with rfl | rfl
  ·omega
  ·omega
 refine Wn <| bF J <| aG <| aI <| Rg 2 J <| Um J J <| Ua J J <| Wn <| Rg 1 J <| Ua J J <| Wn <| aB <| Rg 4 J <| Um J J <| Um J J <| aA (bO J J) J <| aA (bX J J) J <| bL (fun h21 => ?_) (fun h21 => ?_)
 rotate_left
 ·refine Wn <| bC J <| aG <| Rg 1 J <| Ua J J <| Nk [0,1,5,6,7,8,14,15] J ?_
  have hxl : xs.getD ds.length default < 4294967296 := bR hx om
  refine Rg 12 J <| Um J J <| Um J J <| aA (cZ J J J J J om J) J <| aA (gC J J J) J <| Um J J <| Um J J <| aA (aJ J (pX (xs.getD ds.length default) 0 c hxl (by decide) hc) (by simp)) J <| Um J J <| aA (fD J J) J <| aA (fD J J) J <| Ua J J <| Ua J J <| Nk [0,1,5,6,9,14,15] J <| aL (z := 5) J <| Um J J <| Um J J <| aA (eV (cs := [_]) (rows := [[_]]) J J (by decide) J J J) J <| bK (oApM (f := d32) J J J J J (fun _ => rfl) (by decide) g0 (by show (2 * (ds.length + 1) + 256) * 4 ≤ _; omega) om) J <| Ua J J <| Wn <| aE <| aL (z := 2) J ?_
  refine aA (cI (((ds.length + 1 : Nat) : Int)) (aU J J om) om) J <| Um J J <| Wn <| aF <| ⟨⟨_, _, ds ++ [_]⟩, ⟨rfl, rfl, rfl, rfl, rfl, congrArg some (by simp), trivial⟩, ⟨g0, trivial⟩, ⟨by simp; omega, hdd.snoc (Nat.mod_lt _ (by decide)), by split <;> omega, oS hi J (getD_out om).symm (by show _ = _ + 4294967296 * _; split <;> omega)⟩, by simp; omega⟩
 refine Wn <| bF J <| Rg 5 J <| Um J J <| Um J J <| aA (cZ J J J J J om J) J <| aA (gC J J J) J <| Ua J J <| Nk [0,1,5,6,7,8,14,15] J <| Rg 1 J <| Ua J J <| dR ?_
 have hxl : xs.getD ds.length default < 4294967296 := bR hx om
 have hyl : ys.getD ds.length default < 4294967296 := bR hy om
 refine Rg 12 J <| Um J J <| Um J J <| aA (cZ J J J J J om J) J <| aA (gC J J J) J <| Um J J <| Um J J <| aA (aJ J (pX (xs.getD ds.length default) (ys.getD ds.length default) c hxl hyl hc) (by simp)) J <| Um J J <| aA (fD J J) J <| aA (fD J J) J <| Ua J J <| Ua J J <| Nk [0,1,5,6,9,14,15] J <| aL (z := 5) J <| Um J J <| Um J J <| aA (eV (cs := [_]) (rows := [[_]]) J J (by decide) J J J) J <| bK (oApM (f := d32) J J J J J (fun _ => rfl) (by decide) g0 (by show (2 * (ds.length + 1) + 256) * 4 ≤ _; omega) om) J <| Ua J J <| Wn <| aE <| aL (z := 2) J ?_
 refine aA (cI (((ds.length + 1 : Nat) : Int)) (aU J J om) om) J <| Um J J <| Wn <| aF <| ⟨⟨_, _, ds ++ [_]⟩, ⟨rfl, rfl, rfl, rfl, rfl, congrArg some (by simp), trivial⟩, ⟨g0, trivial⟩, ⟨by simp; omega, hdd.snoc (Nat.mod_lt _ (by decide)), by split <;> omega, oS hi J J (by show _ = _ + 4294967296 * _; split <;> omega)⟩, by simp; omega⟩
theorem fJ (s : Int) (k : Nat) (ds : List Nat) (hs : s = 1 ∨ s = -1 ∨ s = 0 ∧ val B32 ds = 0) (hk : k = 1 ∨ k = 2) (hd : Dg B32 ds) (hl : ds.length < 4611686018427387904) : Run Try.prog T E0 (.call 80 [.v (.int .i64 s), .sl k (ds.map d32)] (lvI (s * val B32 ds))) := by
 have hkk : (if k = 0 then 0 else 1) = 1 := by rw [if_neg om]
 have htd := trim_dg hd
 have hrun := kA k ds om hl
 rw [hkk] at hrun
 have htl : (trim ds).length ≤ ds.length := by
  unfold trim; simpa using (List.dropWhile_sublist (· == 0) (l := ds.reverse)).length_le
 generalize hes : trim ds = es at *
 refine bM Try.func80 J J (dK J) <| Rg 1 J <| bK (gE J) J <| Wn <| Rg 3 J <| Um J J <| aA (aJ J (hrun) (by simp)) J <| Ua J J <| Wn <| aB <| Rg 3 J <| Um J J <| aA (bO J J) J <| aA (oLeq J J) J <| bL (fun h12 => ?_) (fun h12 => ?_)
 rotate_left
 ·refine Wn <| bC J <| aG <| Rg 4 J <| Um J J <| Um J J <| aA (iF (cs := [_, _]) J J J J J) J <| bG (cV (cs' := [_, _]) J J J J J J J J) <| Wn <| aP <| post (n := 0) (.inr J) J ?_ (by simp)
  have hb := val_big hd (by rw [hes]; omega)
  rw [lvI_made hd (by have : val B32 ds = val 4294967296 ds := rfl; omega) hb, hes]; rfl
 refine Wn <| bF J <| aB <| Rg 1 J <| Ua J J <| Wn <| aB <| aB <| Rg 3 J <| Um J J <| aA (bO J J) J <| Um J J <| Wn <| aI <| bI (α := Nat × Nat) (fun ⟨i, m⟩ => [(0, .v (.int .i64 s)), (1, .sl 1 (es.map d32)), (4, .ptr 0 0), (5, .v (.int .u64 (m : Int))), (13, .sl 1 (es.map d32)), (14, .v (.int .i64 (es.length : Int))), (15, .v (.int .i64 (i : Int)))]) (fun ⟨i, m⟩ => [(0, { cells := [.v (.int .i64 0), .sl 0 []], sz := 2, elem := 44, st := 0 })]) (fun ⟨i, m⟩ n => i ≤ es.length ∧ m = val B32 (es.take i)) (fun ⟨i, m⟩ => es.length - i) (0, 0) ⟨J, J, J, J, J, J, J, trivial⟩ ⟨J, trivial⟩ ⟨Nat.zero_le _, by simp [val]⟩ ?_
 rintro ⟨i, m⟩ n hF
 change WC _ _ _ _ _ (_ :: _) (_ :: _) n _
 obtain ⟨hi, hm⟩ := hF
 refine Rg 1 J <| aA (bX J J) J <| bL (fun h16 => ?_) (fun h16 => ?_)
 ·refine Wn <| bF J <| aG <| aI <| Rg 5 J <| Um J J <| aA (cZ J J J J J om J) J <| aA (gC J J J) J <| Ua J J <| Ua J J <| dR ?_
  have hxl : es.getD i default < 4294967296 := bR htd om
  have hml : m < 4294967296 ^ i := by
   have := fV (B := 4294967296) (by decide) (htd.take i)
   rw [List.length_take, Nat.min_eq_left hi] at this
   rw [hm]; exact this
  refine aL (z := 8) J <| Um J J <| Um J J <| aA (cI (((es.getD i default : Nat) : Int)) (bZ J J J) (by rw [IntKind.wrap_u64]; omega)) J <| Um J J <| aA (cI (((32 * i : Nat) : Int)) (lC J J om) om) J <| aA (cI (((es.getD i default * 4294967296 ^ i : Nat) : Int)) (pQ (s := 32 * i) J J om) (shl_dig om hxl)) J <| aA (fU (v := .int .u64 ((m + 4294967296 ^ i * es.getD i default : Nat) : Int)) J J (or_dig om hxl hml)) J <| Ua J J <| Wn <| aE <| Ck [0,1,4,5,13,14,15] J <| aL (z := 2) J <| aA (cI (((i + 1 : Nat) : Int)) (aU J J om) om) J <| Um J J <| Wn <| aF <| ⟨⟨i + 1, _⟩, ⟨J, J, J, J, J, J, J, trivial⟩, ⟨J, trivial⟩, ⟨om, ?_⟩, by show es.length - (i + 1) < es.length - i; omega⟩
  rw [cL, hm]
 refine Wn <| bC J <| bB <| aW <| aQ J <| aB <| Rg 2 J <| Um J J <| aA (bX J J) J <| bL (fun h29 => ?_) (fun h29 => ?_)
 rotate_left
 ·refine Wn <| bC J <| aG <| Rg 4 J <| Um J J <| Um J J <| aA (iF (cs := [_, _]) J J J J J) J <| bG (cV (cs' := [_, _]) J J J J J J J J) <| Wn <| aP ?_
  have hE : m = val B32 ds := by
   rw [hm, List.take_of_length_le om, ← hes, oY]
  refine post (n := 0) (.inr J) J ?_ (by simp)
  rw [lvI_made hd om (by show 4611686018427387904 ≤ val B32 ds; omega), hes]; rfl
 refine Wn <| bF J <| aB <| Rg 6 J <| Um J J <| Um J J <| aA (cI ((m : Int)) (bZ J J J) (by rw [IntWalk.i64_in _ om])) J <| aA (lC J J (by rcases hs with rfl | rfl | ⟨rfl, _⟩ <;> omega)) J <| aA (iF (cs := [_, _]) J J J J J) J <| bG (cV (cs' := [_, _]) J J J J J J J J) <| Nk [4] J <| bQ ?_
 have hE : m = val B32 ds := by
  rw [hm, List.take_of_length_le om, ← hes, oY]
 refine post (n := 0) (.inr J) J ?_ (by simp)
 rw [iQ (by unfold small; rw [← hE]; rcases hs with rfl | rfl | ⟨rfl, _⟩ <;> omega), ← hE]; rfl
end Go.Proofs.Ytohfklpfeilcpaa
namespace Go.Proofs.Ytohfklpfeilcpaa
open Go.Ab Go.RowKit
theorem ia0 {v : Int} (h : v.sign = 0) : v = 0 := Int.sign_eq_zero_iff_zero.1 h
theorem qJ (v w : Int) (hv : len32 v < 1099511627775) (hw : len32 w < 1099511627775) : Run Try.prog T E0 (.call 73 [lvI v, lvI w] (lvI (v + w))) := by
 have bv := nC v
 have bw := nC w
 have ev := gD v
 have ew := gD w
 have dv := gU (B := B32) (by decide) v.natAbs
 have dw := gU (B := B32) (by decide) w.natAbs
 have qv := jS (B := B32) (by decide) v.natAbs
 have qw := jS (B := B32) (by decide) w.natAbs
 have tv := dgs_tr (B := B32) (by decide) v.natAbs
 have tw := dgs_tr (B := B32) (by decide) w.natAbs
 have lv : (dgs B32 v.natAbs).length < 1099511627775 := hv
 have lw : (dgs B32 w.natAbs).length < 1099511627775 := hw
 refine bM Try.func73 J J (dK J) <| Rg 3 J <| bK (gF J J) J <| bK (gF J J) J <| bK (gE J) J <| Wn <| aB <| Rg 8 J <| aA (aV J J J J J) J <| aA (aH J J J J J) J <| aA (nE J J) J <| fN (fun h11 => ?_) (fun h11 => ?_)
 rotate_left
 ·refine Um J J <| K1 J J <| K1 J J <| K1 J J <| aA (bU J J) J <| Wn <| bC J <| aG <| Rg 7 J <| aA (aH (l := .agg [_, _]) J J J J J) J <| aA (aJ J (fG _) (by simp)) J <| Um J J <| aA (fD J J) J <| aA (fD J J) J <| Ua J J <| Ua J J <| Nk [2,3,4,5,6] J <| Rg 7 J <| aA (aH (l := .agg [_, _]) J J J J J) J <| aA (aJ J (fG _) (by simp)) J <| Um J J <| aA (fD J J) J <| aA (fD J J) J ?_
  refine Ua J J <| Ua J J <| Wn <| aI <| Rg 3 J <| Um J J <| aA (fS J J) J <| bL (fun h35 => ?_) (fun h35 => ?_)
  ·refine Ua J J <| Nk [2,3,4,5,6,7,8,33] J <| cU J <| Rg 2 J <| aA (aH (l := .agg [_, _]) J J J J J) J <| bG (cV (cs' := [_, _]) J J J J J J J J) <| Wn <| aP <| bH <| post (n := 0) (.inr J) J ?_ (by simp)
   rw [ia0 h35, Int.zero_add]; rfl
  refine Ua J J <| Nk [2,3,4,5,6,7,8,33] J <| cD J <| Rg 3 J <| Um J J <| aA (fS J J) J <| bL (fun h39 => ?_) (fun h39 => ?_)
  ·refine Ua J J <| Wn <| cU J <| Rg 2 J <| aA (aH (l := .agg [_, _]) J J J J J) J <| bG (cV (cs' := [_, _]) J J J J J J J J) <| Wn <| aP <| bH <| post (n := 0) (.inr J) J ?_ (by simp)
   rw [ia0 h39, Int.add_zero]; rfl
  refine Ua J J <| Wn <| cD J <| Rg 4 J <| Um J J <| Um J J <| aA (fS J J) J <| bL (fun h44 => ?_) (fun h44 => ?_)
  ·refine Ua J J <| Nk [4,5,6,7,8,41] J <| cU J ?_
   have hsv : v.sign = 1 ∨ v.sign = -1 := by rcases Int.sign_trichotomy v with h | h | h <;> omega
   obtain ⟨r, hr, ds, rfl, hdd, hvl, hln⟩ := plus_run 1 1 _ _ qv qw om om
   refine Rg 6 J <| Um J J <| Um J J <| Um J J <| aA (aJ J (hr) (by simp)) J <| aA (aJ J (fJ v.sign 1 ds om (.inl J) hdd om) (by simp)) J <| bG (cV (cs' := [_, _]) J J J J J J J J) <| Wn <| aP <| bH <| post (n := 0) (.inr J) J ?_ (by simp)
   have : v.sign * (val B32 ds : Int) = v + w := by
    rw [hvl, dv, dw]; rcases hsv with h | h <;> rw [h] at ev h44 ⊢ <;> rw [← h44] at ew <;> omega
   rw [this]; rfl
  refine Ua J J <| Nk [4,5,6,7,8,41] J <| cD J <| Rg 5 J <| Um J J <| Um J J <| aA (aJ J (jR 1 1 _ _ qv qw tv tw om om) (by simp)) J <| aA (iT J J) J <| bL (fun h54 => ?_) (fun h54 => ?_)
  ·refine Ua J J <| Wn <| cU J ?_
   have hsv : v.sign = 1 ∨ v.sign = -1 := by rcases Int.sign_trichotomy v with h | h | h <;> omega
   have hge : val B32 (dgs B32 w.natAbs) ≤ val B32 (dgs B32 v.natAbs) := by
    rcases Nat.lt_or_ge (val B32 (dgs B32 v.natAbs)) (val B32 (dgs B32 w.natAbs)) with h | h
    ·rw [Int.sign_eq_neg_one_of_neg om] at h54; omega
    ·exact h
   have hll : (dgs B32 w.natAbs).length ≤ (dgs B32 v.natAbs).length := by
    rcases Nat.lt_or_ge (dgs B32 v.natAbs).length (dgs B32 w.natAbs).length with h | h
    ·have := fW (by decide) qv tw h; omega
    ·exact h
   obtain ⟨r, hr, ds, rfl, hdd, hvl, hln⟩ := kG 1 1 _ _ qv qw om hll hge
   refine Rg 6 J <| Um J J <| Um J J <| Um J J <| aA (aJ J (hr) (by simp)) J <| aA (aJ J (fJ v.sign 1 ds om (.inl J) hdd om) (by simp)) J <| bG (cV (cs' := [_, _]) J J J J J J J J) <| Nk [4] J <| aP <| bH <| post (n := 0) (.inr J) J ?_ (by simp)
   have : v.sign * (val B32 ds : Int) = v + w := by
    rw [hvl, dv, dw] at *; rcases hsv with h | h <;> rw [h] at ev h44 ⊢ <;> rcases (show w.sign = 1 ∨ w.sign = -1 by rcases Int.sign_trichotomy w with h | h | h <;> omega) with k | k <;> rw [k] at ew h44 <;> omega
   rw [this]; rfl
  refine Ua J J <| Wn <| cD J <| cE <| aE ?_
  have hsv : w.sign = 1 ∨ w.sign = -1 := by rcases Int.sign_trichotomy w with h | h | h <;> omega
  have hge : val B32 (dgs B32 v.natAbs) ≤ val B32 (dgs B32 w.natAbs) := by
   rcases Nat.lt_or_ge (val B32 (dgs B32 w.natAbs)) (val B32 (dgs B32 v.natAbs)) with h | h
   ·rw [Int.sign_eq_one_of_pos om] at h54; omega
   ·exact h
  have hll : (dgs B32 v.natAbs).length ≤ (dgs B32 w.natAbs).length := by
   rcases Nat.lt_or_ge (dgs B32 w.natAbs).length (dgs B32 v.natAbs).length with h | h
   ·have := fW (by decide) qw tv h; omega
   ·exact h
  obtain ⟨r, hr, ds, rfl, hdd, hvl, hln⟩ := kG 1 1 _ _ qw qv om hll hge
  refine Rg 6 J <| Um J J <| Um J J <| Um J J <| aA (aJ J (hr) (by simp)) J <| aA (aJ J (fJ w.sign 1 ds om (.inl J) hdd om) (by simp)) J <| bG (cV (cs' := [_, _]) J J J J J J J J) <| Nk [4] J <| aP <| post (n := 0) (.inr J) J ?_ (by simp)
  have : w.sign * (val B32 ds : Int) = v + w := by
   rw [hvl, dv, dw] at *; rcases hsv with h | h <;> rw [h] at ew h44 ⊢ <;> rcases (show v.sign = 1 ∨ v.sign = -1 by rcases Int.sign_trichotomy v with h | h | h <;> omega) with k | k <;> rw [k] at ev h44 <;> omega
  rw [this]; rfl
 refine Um J J <| aM J (aV J J J J J) J <| aM J (aH J J J J J) J <| aM J (nE J J) J <| fN (fun h15 => ?_) (fun h15 => ?_)
 ·refine aA (bT J J) J <| Wn <| bF J <| aB <| Rg 7 J <| aA (aV J J J J J) J <| aA (aH J J J J J) J <| aA (aV J J J J J) J <| aA (aH J J J J J) J <| aA (aU J J om) J <| aA (aJ J (mN _ om) (by simp)) J <| bG (cV (cs' := [_, _]) J J J J J J J J) <| Nk [4] J <| bQ <| post (n := 0) (.inr J) J ?_ (by simp)
  rw [dB (nD.1 h11), dB (nD.1 h15)]; rfl
 refine aA (bT J J) J <| Wn <| bC J <| aG <| Rg 7 J <| aA (aH (l := .agg [_, _]) J J J J J) J <| aA (aJ J (fG _) (by simp)) J <| Um J J <| aA (fD J J) J <| aA (fD J J) J <| Ua J J <| Ua J J <| Nk [2,3,4,5,6] J <| Rg 7 J <| aA (aH (l := .agg [_, _]) J J J J J) J <| aA (aJ J (fG _) (by simp)) J <| Um J J <| aA (fD J J) J <| aA (fD J J) J <| Ua J J <| Ua J J <| Wn <| aI ?_
 refine Rg 3 J <| Um J J <| aA (fS J J) J <| bL (fun h35 => ?_) (fun h35 => ?_)
 ·refine Ua J J <| Nk [2,3,4,5,6,7,8,33] J <| cU J <| Rg 2 J <| aA (aH (l := .agg [_, _]) J J J J J) J <| bG (cV (cs' := [_, _]) J J J J J J J J) <| Wn <| aP <| bH <| post (n := 0) (.inr J) J ?_ (by simp)
  rw [ia0 h35, Int.zero_add]; rfl
 refine Ua J J <| Nk [2,3,4,5,6,7,8,33] J <| cD J <| Rg 3 J <| Um J J <| aA (fS J J) J <| bL (fun h39 => ?_) (fun h39 => ?_)
 ·refine Ua J J <| Wn <| cU J <| Rg 2 J <| aA (aH (l := .agg [_, _]) J J J J J) J <| bG (cV (cs' := [_, _]) J J J J J J J J) <| Wn <| aP <| bH <| post (n := 0) (.inr J) J ?_ (by simp)
  rw [ia0 h39, Int.add_zero]; rfl
 refine Ua J J <| Wn <| cD J <| Rg 4 J <| Um J J <| Um J J <| aA (fS J J) J <| bL (fun h44 => ?_) (fun h44 => ?_)
 ·refine Ua J J <| Nk [4,5,6,7,8,41] J <| cU J ?_
  have hsv : v.sign = 1 ∨ v.sign = -1 := by rcases Int.sign_trichotomy v with h | h | h <;> omega
  obtain ⟨r, hr, ds, rfl, hdd, hvl, hln⟩ := plus_run 1 1 _ _ qv qw om om
  refine Rg 6 J <| Um J J <| Um J J <| Um J J <| aA (aJ J (hr) (by simp)) J <| aA (aJ J (fJ v.sign 1 ds om (.inl J) hdd om) (by simp)) J <| bG (cV (cs' := [_, _]) J J J J J J J J) <| Wn <| aP <| bH <| post (n := 0) (.inr J) J ?_ (by simp)
  have : v.sign * (val B32 ds : Int) = v + w := by
   rw [hvl, dv, dw]; rcases hsv with h | h <;> rw [h] at ev h44 ⊢ <;> rw [← h44] at ew <;> omega
  rw [this]; rfl
 refine Ua J J <| Nk [4,5,6,7,8,41] J <| cD J <| Rg 5 J <| Um J J <| Um J J <| aA (aJ J (jR 1 1 _ _ qv qw tv tw om om) (by simp)) J <| aA (iT J J) J <| bL (fun h54 => ?_) (fun h54 => ?_)
 ·refine Ua J J <| Wn <| cU J ?_
  have hsv : v.sign = 1 ∨ v.sign = -1 := by rcases Int.sign_trichotomy v with h | h | h <;> omega
  have hge : val B32 (dgs B32 w.natAbs) ≤ val B32 (dgs B32 v.natAbs) := by
   rcases Nat.lt_or_ge (val B32 (dgs B32 v.natAbs)) (val B32 (dgs B32 w.natAbs)) with h | h
   ·rw [Int.sign_eq_neg_one_of_neg om] at h54; omega
   ·exact h
  have hll : (dgs B32 w.natAbs).length ≤ (dgs B32 v.natAbs).length := by
   rcases Nat.lt_or_ge (dgs B32 v.natAbs).length (dgs B32 w.natAbs).length with h | h
   ·have := fW (by decide) qv tw h; omega
   ·exact h
  obtain ⟨r, hr, ds, rfl, hdd, hvl, hln⟩ := kG 1 1 _ _ qv qw om hll hge
  refine Rg 6 J <| Um J J <| Um J J <| Um J J <| aA (aJ J (hr) (by simp)) J <| aA (aJ J (fJ v.sign 1 ds om (.inl J) hdd om) (by simp)) J <| bG (cV (cs' := [_, _]) J J J J J J J J) <| Nk [4] J <| aP <| bH <| post (n := 0) (.inr J) J ?_ (by simp)
  have : v.sign * (val B32 ds : Int) = v + w := by
   rw [hvl, dv, dw] at *; rcases hsv with h | h <;> rw [h] at ev h44 ⊢ <;> rcases (show w.sign = 1 ∨ w.sign = -1 by rcases Int.sign_trichotomy w with h | h | h <;> omega) with k | k <;> rw [k] at ew h44 <;> omega
  rw [this]; rfl
 refine Ua J J <| Wn <| cD J <| cE <| aE ?_
 have hsv : w.sign = 1 ∨ w.sign = -1 := by rcases Int.sign_trichotomy w with h | h | h <;> omega
 have hge : val B32 (dgs B32 v.natAbs) ≤ val B32 (dgs B32 w.natAbs) := by
  rcases Nat.lt_or_ge (val B32 (dgs B32 w.natAbs)) (val B32 (dgs B32 v.natAbs)) with h | h
  ·rw [Int.sign_eq_one_of_pos om] at h54; omega
  ·exact h
 have hll : (dgs B32 v.natAbs).length ≤ (dgs B32 w.natAbs).length := by
  rcases Nat.lt_or_ge (dgs B32 w.natAbs).length (dgs B32 v.natAbs).length with h | h
  ·have := fW (by decide) qw tv h; omega
  ·exact h
 obtain ⟨r, hr, ds, rfl, hdd, hvl, hln⟩ := kG 1 1 _ _ qw qv om hll hge
 refine Rg 6 J <| Um J J <| Um J J <| Um J J <| aA (aJ J (hr) (by simp)) J <| aA (aJ J (fJ w.sign 1 ds om (.inl J) hdd om) (by simp)) J <| bG (cV (cs' := [_, _]) J J J J J J J J) <| Nk [4] J <| aP <| post (n := 0) (.inr J) J ?_ (by simp)
 have : w.sign * (val B32 ds : Int) = v + w := by
  rw [hvl, dv, dw] at *; rcases hsv with h | h <;> rw [h] at ew h44 ⊢ <;> rcases (show v.sign = 1 ∨ v.sign = -1 by rcases Int.sign_trichotomy v with h | h | h <;> omega) with k | k <;> rw [k] at ev h44 <;> omega
 rw [this]; rfl
end Go.Proofs.Ytohfklpfeilcpaa
namespace Go.Proofs.Ytohfklpfeilcpaa
open Go.Ab Go.RowKit
theorem mul64_run (x y : Nat) (hx : x < 18446744073709551616) (hy : y < 18446744073709551616) : Run Try.prog T E0 (.call 78 [.v (.int .u64 (x : Int)), .v (.int .u64 (y : Int))] (.tup [.v (.int .u64 ((x * y / 18446744073709551616 : Nat) : Int)), .v (.int .u64 ((x * y % 18446744073709551616 : Nat) : Int))])) := by
 obtain ⟨p00, h00⟩ : ∃ p, p = (x % 4294967296) * (y % 4294967296) := ⟨_, rfl⟩
 obtain ⟨p10, h10⟩ : ∃ p, p = (x / 4294967296) * (y % 4294967296) := ⟨_, rfl⟩
 obtain ⟨p01, h01⟩ : ∃ p, p = (x % 4294967296) * (y / 4294967296) := ⟨_, rfl⟩
 obtain ⟨p11, h11⟩ : ∃ p, p = (x / 4294967296) * (y / 4294967296) := ⟨_, rfl⟩
 have b00 := gX (a := x % 4294967296) (b := y % 4294967296) om om
 have b10 := gX (a := x / 4294967296) (b := y % 4294967296) om om
 have b01 := gX (a := x % 4294967296) (b := y / 4294967296) om om
 have b11 := gX (a := x / 4294967296) (b := y / 4294967296) om om
 have hxy := mul_words h00 h10 h01 h11
 rw [← h00] at b00
 rw [← h10] at b10
 rw [← h01] at b01
 rw [← h11] at b11
 refine bM Try.func78 J J (dK J) <| Rg 2 J <| Ua J J <| Ua J J <| Wn <| Rg 3 J <| Um J J <| aA (fU (v := .int .u64 ((x % 4294967296 : Nat) : Int)) J J (mask32 hx)) J <| Ua J J <| Wn <| Rg 3 J <| Um J J <| aA (cI (((x / 4294967296 : Nat) : Int)) (eX (s := 32) J J om) om) J <| Ua J J <| Wn <| Rg 3 J <| Um J J <| aA (fU (v := .int .u64 ((y % 4294967296 : Nat) : Int)) J J (mask32 hy)) J <| Ua J J <| Wn <| Rg 3 J <| Um J J <| aA (cI (((y / 4294967296 : Nat) : Int)) (eX (s := 32) J J om) om) J <| Ua J J ?_
 refine Nk [0,1,6,7,8,9] J <| Rg 4 J <| Um J J <| Um J J <| aA (cI ((p00 : Int)) (kV J J) (by rw [← Int.natCast_mul, ← h00]; omega)) J <| Ua J J <| Wn <| Rg 7 J <| Um J J <| Um J J <| aA (cI ((p10 : Int)) (kV J J) (by rw [← Int.natCast_mul, ← h10]; omega)) J <| Um J J <| aA (cI (((p00 / 4294967296 : Nat) : Int)) (eX (s := 32) J J om) om) J <| aA (cI (((p10 + p00 / 4294967296 : Nat) : Int)) (iR J J) om) J <| Ua J J <| Nk [0,1,6,7,9,11] J <| Rg 3 J <| Um J J <| aA (fU (v := .int .u64 (((p10 + p00 / 4294967296) % 4294967296 : Nat) : Int)) J J (mask32 om)) J <| Ua J J <| Wn <| Rg 3 J ?_
 refine Um J J <| aA (cI ((((p10 + p00 / 4294967296) / 4294967296 : Nat) : Int)) (eX (s := 32) J J om) om) J <| Ua J J <| Wn <| Rg 6 J <| Um J J <| Um J J <| Um J J <| aA (cI ((p01 : Int)) (kV J J) (by rw [← Int.natCast_mul, ← h01]; omega)) J <| aA (cI ((((p10 + p00 / 4294967296) % 4294967296 + p01 : Nat) : Int)) (iR J J) om) J <| Ua J J <| Nk [0,1,7,9,12,13] J <| Rg 9 J <| Um J J <| Um J J <| aA (cI ((p11 : Int)) (kV J J) (by rw [← Int.natCast_mul, ← h11]; omega)) J <| Um J J <| aA (cI (((p11 + (p10 + p00 / 4294967296) / 4294967296 : Nat) : Int)) (iR J J) om) J <| Um J J <| aA (cI (((((p10 + p00 / 4294967296) % 4294967296 + p01) / 4294967296 : Nat) : Int)) (eX (s := 32) J J om) om) J <| aA (cI (((x * y / 18446744073709551616 : Nat) : Int)) (iR J J) (by rw [hxy]; omega)) J <| Ua J J <| dR ?_
 refine Ck [0,1,4] J <| Rg 4 J <| Um J J <| Um J J <| aA (cI (((x * y % 18446744073709551616 : Nat) : Int)) (kV J J) (by rw [← Int.natCast_mul]; rfl)) J <| Ua J J <| Wn <| aP ?_
 exact post (n := 0) (.inr J) J J (by simp)
theorem fR (v w : Int) (hv : len32 v < 549755813888) (hw : len32 w < 549755813888) : Run Try.prog T E0 (.call 58 [lvI v, lvI w] (lvI (v * w))) := by
 have bv := nC v
 have bw := nC w
 have ev := gD v
 have ew := gD w
 have evw : v * w = v.sign * w.sign * ((v.natAbs * w.natAbs : Nat) : Int) := by
  rw [Int.natCast_mul]; grind
 obtain ⟨σ, hσ⟩ : ∃ σ, σ = v.sign * w.sign := ⟨_, rfl⟩
 have hs3 : σ = 1 ∨ σ = -1 ∨ σ = 0 ∧ v.natAbs * w.natAbs = 0 := by
  rcases Int.sign_trichotomy v with h | h | h <;> rcases Int.sign_trichotomy w with k | k | k <;> rw [h, k] at hσ <;> simp at hσ <;> first | exact .inl hσ | exact .inr (.inl hσ) | skip
  all_goals (refine .inr (.inr ⟨hσ, ?_⟩); first | (rw [ia0 h]; simp; done) | (rw [ia0 k]; simp))
 rw [← hσ] at evw
 obtain ⟨xs, hxs⟩ : ∃ xs, xs = dgs B32 v.natAbs := ⟨_, rfl⟩
 obtain ⟨ys, hys⟩ : ∃ ys, ys = dgs B32 w.natAbs := ⟨_, rfl⟩
 have dv : val B32 xs = v.natAbs := by rw [hxs]; exact gU (by decide) _
 have dw : val B32 ys = w.natAbs := by rw [hys]; exact gU (by decide) _
 have qv : Dg B32 xs := by rw [hxs]; exact jS (by decide) _
 have qw : Dg B32 ys := by rw [hys]; exact jS (by decide) _
 have lv : xs.length < 549755813888 := by rw [hxs]; exact hv
 have lw : ys.length < 549755813888 := by rw [hys]; exact hw
 refine bM Try.func58 J J (dK J) ?_
 have J5 : ∀  (n : Nat) (hn : 3 ≤ n), WC Try.prog T E0 Try.f58.ntmps (codeR (codeR (codeOf Try.f58))) [(2, .ptr 0 0), (3, .ptr 1 0), (4, .ptr 2 0)] [(2, { cells := [.v (.int .i64 0), .sl 0 []], sz := 2, elem := 44, st := 0 }), (1, { cells := (lvI w).cells, sz := (lvI w).cells.length, elem := 44, st := 0 }), (0, { cells := (lvI v).cells, sz := (lvI v).cells.length, elem := 44, st := 0 })] n (Post T Try.f58.results.toList (lvI (v * w))) := by
  intro  n hn
  refine Rg 7 J <| aA (aH (l := .agg [_, _]) J J J J J) J <| aA (aJ J ((hxs ▸ fG v)) (by simp)) J <| Um J J <| aA (fD J J) J <| aA (fD J J) J <| Ua J J <| Ua J J <| Wn <| Rg 7 J <| aA (aH (l := .agg [_, _]) J J J J J) J <| aA (aJ J ((hys ▸ fG w)) (by simp)) J <| Um J J <| aA (fD J J) J <| aA (fD J J) J <| Ua J J <| Ua J J <| Nk [4,7,8,9,10] J <| Rg 7 J <| Um J J <| aA (bO J J) J <| Um J J <| aA (bO J J) J ?_
  refine aA (aU J J om) J <| bK (oMk (a := xs.length + ys.length) (b := xs.length + ys.length) J J J J om om (by decide) om (by show 4 * (xs.length + ys.length) ≤ _; omega) om) J <| Ua J J <| Wn <| aB <| Rg 3 J <| Um J J <| aA (bO J J) J <| Um J J <| Nk [4,7,9,10,11,74,75,76] J <| aI <| bI (α := Nat × Nat × (List Nat)) (fun ⟨i, q, us⟩ => [(4, .ptr 2 0), (7, .v (.int .i64 v.sign)), (9, .v (.int .i64 w.sign)), (10, .sl 1 (ys.map d32)), (11, .ref q 1 0 us.length), (74, .sl 1 (xs.map d32)), (75, .v (.int .i64 (xs.length : Int))), (76, .v (.int .i64 (i : Int)))]) (fun ⟨i, q, us⟩ => [(q, { cells := (us.map d32).flatten, sz := 1, elem := 99, st := 0 }), (2, { cells := [.v (.int .i64 0), .sl 0 []], sz := 2, elem := 44, st := 0 })]) (fun ⟨i, q, us⟩ n => i ≤ xs.length ∧ us.length = xs.length + ys.length ∧ Dg B32 us ∧ val B32 us = val B32 (xs.take i) * val B32 ys ∧ (∀ j, i + ys.length ≤ j → us.getD j default = 0) ∧ 2 < q) (fun ⟨i, q, us⟩ => xs.length - i) (0, n + 7 + 7 + 5, List.replicate (xs.length + ys.length) 0) ⟨rfl, rfl, rfl, rfl, congrArg some (by rw [List.length_replicate]; rfl), rfl, rfl, rfl, trivial⟩ ⟨g0.trans (by rw [List.map_replicate]; rfl), g1 om J, trivial⟩ ⟨Nat.zero_le _, by simp, by intro d hd; simp at hd; rw [hd.2]; decide, by rw [mR]; simp [val], by intro j _; exact jC _ _, om⟩ ?_
  rintro ⟨i, q, us⟩ n hF
  change WC _ _ _ _ _ (_ :: _) (_ :: _) n _
  obtain ⟨hi, hul, hud, huv, huz, hq⟩ := hF
  refine Rg 1 J <| aA (bX J J) J <| bL (fun h77 => ?_) (fun h77 => ?_)
  rotate_left
  ·refine Wn <| bC J <| bB <| aW <| aQ J ?_
   have hE : val B32 us = v.natAbs * w.natAbs := by
    rw [huv, List.take_of_length_le om, dv, dw]
   refine Rg 6 J <| Um J J <| Um J J <| aA (cI σ (lC J J (by rw [← hσ]; omega)) hσ.symm) J <| Um J J <| bK (lA [.v (.int .i64 σ), .sl 1 (us.map d32)] [(q, { cells := (us.map d32).flatten, sz := 1, elem := 99, st := 1 })] J (fJ σ 1 us (by rw [hE]; exact hs3) (.inl J) hud om) (.data (by simp) (.own _ (by simp) g0 (by show (0 : Nat) ≠ 2; decide) J (by decide) (by simp [keys]) J gT dL .nil)) (by intro p hp; simp at hp; subst hp; exact ⟨_, g0, by show (0 : Nat) ≠ 2; decide, rfl⟩)) J <| bG (cV (cs' := [_, _]) J J J (g1 om (g1 om J)) J J J J) <| Wn <| aP <| post (n := 0) (.inr J) J ?_ (by simp)
   rw [evw, ← hE]; rfl
  refine Wn <| bF J <| aG <| aI <| Rg 5 J <| Um J J <| aA (cZ J J J J J om J) J <| aA (gC J J J) J <| Ua J J <| Ua J J <| Wn <| Rg 1 J <| Ua J J <| Nk [4,7,9,10,11,12,13,14,74,75,76] J <| aB <| Rg 3 J <| Um J J <| aA (bO J J) J <| Um J J <| Wn <| aI <| bI (α := Nat × Nat × (List Nat)) (fun ⟨k, c, us1⟩ => [(4, .ptr 2 0), (7, .v (.int .i64 v.sign)), (9, .v (.int .i64 w.sign)), (10, .sl 1 (ys.map d32)), (11, .ref q 1 0 us1.length), (12, .v (.int .i64 (i : Int))), (13, .v (.int .u32 (xs.getD i default : Int))), (14, .v (.int .u64 (c : Int))), (74, .sl 1 (xs.map d32)), (75, .v (.int .i64 (xs.length : Int))), (76, .v (.int .i64 (i : Int))), (81, .sl 1 (ys.map d32)), (82, .v (.int .i64 (ys.length : Int))), (83, .v (.int .i64 (k : Int)))]) (fun ⟨k, c, us1⟩ => [(q, { cells := (us1.map d32).flatten, sz := 1, elem := 99, st := 0 }), (2, { cells := [.v (.int .i64 0), .sl 0 []], sz := 2, elem := 44, st := 0 })]) (fun ⟨k, c, us1⟩ n => k ≤ ys.length ∧ us1.length = us.length ∧ Dg B32 us1 ∧ c < 4294967296 ∧ val B32 us1 + B32 ^ (i + k) * c = val B32 us + B32 ^ i * (xs.getD i default * val B32 (ys.take k)) ∧ (∀ j, i + k ≤ j → us1.getD j default = us.getD j default)) (fun ⟨k, c, us1⟩ => ys.length - k) (0, 0, us) ⟨J, J, J, J, J, J, J, J, J, J, J, J, J, J, trivial⟩ ⟨g0, g1 om J, trivial⟩ ⟨Nat.zero_le _, rfl, hud, by decide, by simp [val], fun _ _ => rfl⟩ ?_
  rintro ⟨k, c, us1⟩ n hG
  change WC _ _ _ _ _ (_ :: _) (_ :: _) n _
  obtain ⟨hk, hl1, hd1, hc1, hv1, hz1⟩ := hG
  refine Rg 1 J <| aA (bX J J) J <| bL (fun h84 => ?_) (fun h84 => ?_)
  rotate_left
  ·refine Nk [4,7,9,10,11,12,13,14,74,75,76,81,82,83,84] J <| bC J <| bB <| aW <| aQ J <| Ck [4,7,9,10,11,12,14,74,75,76] J <| aL (z := 9) J <| Um J J <| Um J J <| Um J J <| aA (bO J J) J <| aA (cI (((i + ys.length : Nat) : Int)) (aU J J om) om) J <| Um J J <| aA (cI ((c : Int)) (bZ J J J) (by rw [IntKind.wrap_u32]; omega)) J <| aA (bV J J J J J om J) J <| bG (fB (f := d32) (us := us1) c J J J g0 (fun _ => rfl) J J om J) <| Wn <| aE <| Ck [4,7,9,10,11,74,75,76] J <| aL (z := 2) J <| aA (cI (((i + 1 : Nat) : Int)) (aU J J om) om) J <| Um J J <| dR ?_
   refine aF <| ⟨⟨i + 1, q, us1.set (i + ys.length) c⟩, ⟨rfl, rfl, rfl, rfl, congrArg some (by rw [List.length_set]), rfl, rfl, rfl, trivial⟩, ⟨g0, g1 om (g1 om J), trivial⟩, ⟨om, by rw [List.length_set]; omega, hd1.set _ hc1, ?_, ?_, hq⟩, by show xs.length - (i + 1) < xs.length - i; omega⟩
   ·have hk' : k = ys.length := by omega
    subst hk'
    have h1 := gL (B := B32) us1 (i + ys.length) c om
    rw [hz1 _ (Nat.le_refl _), huz _ (Nat.le_refl _), Nat.mul_zero, Nat.add_zero] at h1
    rw [h1, hv1, huv, cL, List.take_of_length_le (Nat.le_refl _), Nat.add_mul, Nat.mul_assoc]
   ·intro j hj
    rw [hJ om, hz1 j om]; exact huz j om
  refine Nk [4,7,9,10,11,12,13,14,74,75,76,81,82,83,84] J <| bF J <| aG <| aI <| Rg 5 J <| Um J J <| aA (cZ J J J J J om J) J <| aA (gC J J J) J <| Ua J J <| Ua J J <| Nk [4,7,9,10,11,12,13,14,15,16,74,75,76,81,82,83] J ?_
  have hp : xs.getD i default < 4294967296 := bR qv om
  have hqk : ys.getD k default < 4294967296 := bR qw om
  have ho : us1.getD (i + k) default < 4294967296 := bR hd1 om
  have hpq := gX hp hqk
  refine Rg 16 J <| Um J J <| Um J J <| aA (cI ((xs.getD i default : Int)) (bZ J J J) (by rw [IntKind.wrap_u64]; omega)) J <| Um J J <| aA (cI ((ys.getD k default : Int)) (bZ J J J) (by rw [IntKind.wrap_u64]; omega)) J <| aA (cI (((xs.getD i default * ys.getD k default : Nat) : Int)) (kV J J) (by rw [← Int.natCast_mul]; omega)) J <| Um J J <| Um J J <| Um J J <| aA (cI (((i + k : Nat) : Int)) (aU J J om) om) J <| aA (bV J J J J J om J) J <| aA (dP (f := d32) (us := us1) (j := i + k) J J g0 (fun _ => rfl) J (by decide) om J) J <| aA (cI ((us1.getD (i + k) default : Int)) (bZ J J J) (by rw [IntKind.wrap_u64]; omega)) J <| aA (cI (((xs.getD i default * ys.getD k default + us1.getD (i + k) default : Nat) : Int)) (iR J J) om) J <| aA (cI ((((c + (xs.getD i default * ys.getD k default + us1.getD (i + k) default)) : Nat) : Int)) (iR J J) om) J <| Ua J J <| Nk [4,7,9,10,11,12,13,14,15,74,75,76,81,82,83] J <| Rg 8 J <| Um J J <| Um J J <| Um J J <| aA (cI (((i + k : Nat) : Int)) (aU J J om) om) J ?_
  refine Um J J <| aA (cI ((((c + (xs.getD i default * ys.getD k default + us1.getD (i + k) default)) % 4294967296 : Nat) : Int)) (bZ J J J) (by rw [IntKind.wrap_u32]; omega)) J <| aA (bV J J J J J om J) J <| bG (fB (f := d32) (us := us1) ((c + (xs.getD i default * ys.getD k default + us1.getD (i + k) default)) % 4294967296) J J J g0 (fun _ => rfl) J J om J) <| Nk [4,7,9,10,11,12,13,14,74,75,76,81,82,83] J <| aL (z := 3) J <| Um J J <| aA (cI ((((c + (xs.getD i default * ys.getD k default + us1.getD (i + k) default)) / 4294967296 : Nat) : Int)) (eX (s := 32) J J om) om) J <| Ua J J <| Wn <| aE <| Ck [4,7,9,10,11,12,13,14,74,75,76,81,82,83] J <| aL (z := 2) J <| aA (cI (((k + 1 : Nat) : Int)) (aU J J om) om) J <| Um J J <| Wn <| aF <| ⟨⟨k + 1, (c + (xs.getD i default * ys.getD k default + us1.getD (i + k) default)) / 4294967296, us1.set (i + k) ((c + (xs.getD i default * ys.getD k default + us1.getD (i + k) default)) % 4294967296)⟩, ⟨rfl, rfl, rfl, rfl, congrArg some (by rw [List.length_set]), rfl, rfl, rfl, rfl, rfl, rfl, rfl, rfl, rfl, trivial⟩, ⟨g0, g1 om (g1 om J), trivial⟩, ⟨om, by rw [List.length_set]; exact hl1, hd1.set _ (Nat.mod_lt _ (by decide)), om, mul_step hv1 om, ?_⟩, by show ys.length - (k + 1) < ys.length - k; omega⟩
  intro j hj
  rw [hJ om]; exact hz1 j om
 refine Rg 3 J <| bK (gF J J) J <| bK (gF J J) J <| bK (gE J) J <| Wn <| aB <| Rg 8 J <| aA (aV J J J J J) J <| aA (aH J J J J J) J <| aA (nE J J) J <| fN (fun h19 => ?_) (fun h19 => ?_)
 rotate_left
 ·refine Um J J <| K1 J J <| K1 J J <| K1 J J <| aA (bU J J) J <| Wn <| bC J <| aG <| Ck [2,3,4] J ?_
  exact J5 _ om
 refine Um J J <| aM J (aV J J J J J) J <| aM J (aH J J J J J) J <| aM J (nE J J) J <| fN (fun h23 => ?_) (fun h23 => ?_)
 rotate_left
 ·refine aA (bT J J) J <| Wn <| bC J <| aG <| Ck [2,3,4] J ?_
  exact J5 _ om
 refine aA (bT J J) J <| Wn <| bF J <| aB ?_
 have hia := dB (nD.1 h19)
 have hiw := dB (nD.1 h23)
 refine Rg 20 J <| aA (aV J J J J J) J <| aA (aH J J J J J) J <| aA (aV J J J J J) J <| aA (aH J J J J J) J <| aA (oT J om) J <| aA (cI (((v.natAbs : Nat) : Int)) (oMax J J) (by rw [hia]; split <;> omega)) J <| aA (cI (((v.natAbs : Nat) : Int)) (bZ J J J) (by rw [IntKind.wrap_u64]; omega)) J <| aA (aV J J J J J) J <| aA (aH J J J J J) J <| aA (aV J J J J J) J <| aA (aH J J J J J) J <| aA (oT J om) J <| aA (cI (((w.natAbs : Nat) : Int)) (oMax J J) (by rw [hiw]; split <;> omega)) J <| aA (cI (((w.natAbs : Nat) : Int)) (bZ J J J) (by rw [IntKind.wrap_u64]; omega)) J <| aA (aJ J (mul64_run v.natAbs w.natAbs om om) (by simp)) J <| Um J J <| aA (fD J J) J <| aA (fD J J) J <| Ua J J <| Ua J J <| Nk [2,3,4,5,6] J <| aB ?_
 refine Rg 6 J <| Um J J <| aA (fS J J) J <| bL (fun h44 => ?_) (fun h44 => ?_)
 rotate_left
 ·refine Um J J <| K1 J J <| K1 J J <| aA (bU J J) J <| Wn <| bC J <| aG <| Ck [2,3,4] J ?_
  exact J5 _ om
 refine Um J J <| aM J (dQ J) J <| aM J (bX J J) J <| bL (fun h47 => ?_) (fun h47 => ?_)
 rotate_left
 ·refine aA (bT J J) J <| Wn <| bC J <| aG <| Ck [2,3,4] J ?_
  exact J5 _ om
 refine aA (bT J J) J <| Wn <| bF J <| aB <| bS (z := 10) J kR <| aC (aH (l := .agg [_, _]) J J J J J) J <| aC (aJ J (iU _) (by simp)) J <| aC (aH (l := .agg [_, _]) J J J J J) J <| aC (aJ J (iU _) (by simp)) J <| aC (cI σ (lC J J (by rw [← hσ]; omega)) hσ.symm) J <| Dm J J <| aC (cI (((v.natAbs * w.natAbs : Nat) : Int)) (bZ J J J) (by rw [IntWalk.i64_in _ om]; omega)) J <| aC (lC J J (by rcases hs3 with h | h | ⟨h, _⟩ <;> rw [h] <;> omega)) J <| aC (iF (cs := [_, _]) J J J J J) J <| cN (cV (cs' := [_, _]) J J J J J J J J) <| bJ (aT kR) J <| Ck [4] J <| bQ <| post (n := 0) (.inr J) J ?_ (by simp)
 rw [evw, iQ (by unfold small; rcases hs3 with h | h | ⟨h, _⟩ <;> rw [h] <;> omega)]; rfl
end Go.Proofs.Ytohfklpfeilcpaa
namespace Go.Proofs.Ytohfklpfeilcpaa
open Go.Ab Go.RowKit
theorem div32_run (hi lo y : Nat) (hh : hi < y) (hl : lo < 4294967296) (hy : y < 4294967296) : Run Try.prog T E0 (.call 92 [.v (.int .u32 (hi : Int)), .v (.int .u32 (lo : Int)), .v (.int .u32 (y : Int))] (.tup [.v (.int .u32 (((hi * 4294967296 + lo) / y : Nat) : Int)), .v (.int .u32 (((hi * 4294967296 + lo) % y : Nat) : Int))])) := by
 have hq : (hi * 4294967296 + lo) / y < 4294967296 := by
  rw [Nat.div_lt_iff_lt_mul om]; have := Nat.mul_le_mul_left 4294967296 (show hi + 1 ≤ y from hh); omega
 have hr : (hi * 4294967296 + lo) % y < y := Nat.mod_lt _ om
 obtain ⟨Q, hQ⟩ : ∃ Q, Q = (hi * 4294967296 + lo) / y := ⟨_, rfl⟩
 obtain ⟨R, hR⟩ : ∃ R, R = (hi * 4294967296 + lo) % y := ⟨_, rfl⟩
 rw [← hQ] at hq
 rw [← hR] at hr
 refine bM Try.func92 J J (dK J) <| Rg 2 J <| Ua J J <| Ua J J <| Wn <| aB <| Rg 7 J <| Um J J <| aA (lD J J) J <| bL (fun h10 => ?_) (fun h10 => ?_)
 rotate_left
 ·omega
 refine Um J J <| aM J (dQ J) J <| aM J (dQ J) J <| aM J (oLeq J J) J <| bL (fun h14 => ?_) (fun h14 => ?_)
 ·omega
 refine aA (bT J J) J <| Wn <| bC J <| aG <| Rg 7 J <| Um J J <| aA (cI ((hi : Int)) (bZ J J J) (by rw [IntKind.wrap_u64]; omega)) J <| aA (cI (((hi * 4294967296 : Nat) : Int)) (pQ (s := 32) J J om) om) J <| Um J J <| aA (cI ((lo : Int)) (bZ J J J) (by rw [IntKind.wrap_u64]; omega)) J <| aA (fU (v := .int .u64 (((hi * 4294967296 + lo) : Nat) : Int)) J J (or_hi om hl)) J <| Ua J J <| Nk [2,8] J <| bS (z := 12) J kR <| Dm J J <| Dm J J <| aC (cI ((y : Int)) (bZ J J J) (by rw [IntKind.wrap_u64]; omega)) J <| aC (cI ((Q : Int)) (oQuoU J J om om) (by rw [hQ])) J <| aC (cI ((Q : Int)) (bZ J J J) (by rw [IntKind.wrap_u32]; omega)) J <| Dm J J <| Dm J J <| aC (cI ((y : Int)) (bZ J J J) (by rw [IntKind.wrap_u64]; omega)) J <| aC (cI ((R : Int)) (oRemU J J om) (by rw [hR])) J ?_
 refine aC (cI ((R : Int)) (bZ J J J) (by rw [IntKind.wrap_u32]; omega)) J <| aC (iS J) J <| aC (iS J) J <| bJ (aT kR) J <| aP ?_
 exact post (n := 0) (.inr J) J (by rw [← hQ, ← hR]; rfl) (by simp)
theorem short_run (k0 : Nat) (xs : List Nat) (y : Nat) (hx : Dg B32 xs) (hy : 0 < y) (hy2 : y < 4294967296) (lx : xs.length < 1099511627776) : ∃ r, Run Try.prog T E0 (.call 87 [.sl k0 (xs.map d32), .v (.int .u32 (y : Int))] r) ∧ ∃ ds rest, r = .tup [.sl 1 (ds.map d32), .v (.int .u32 ((rest : Nat) : Int))] ∧ Dg B32 ds ∧ rest < y ∧ val B32 ds * y + rest = val B32 xs ∧ ds.length = xs.length := by
 refine lQ Try.func87 J J (dK J) <| Rg 2 J <| Ua J J <| Ua J J <| Wn <| Rg 4 J <| Um J J <| aA (bO J J) J <| bK (oMk (a := xs.length) (b := xs.length) J J J J om om (by decide) om (by show 4 * xs.length ≤ _; omega) om) J <| Ua J J <| Wn <| Rg 1 J <| Ua J J <| Wn <| aB <| Rg 4 J <| Um J J <| aA (bO J J) J <| aA (cY J J om) J <| Ua J J <| Wn <| aI <| bI (α := Nat × Nat × (List Nat)) (fun ⟨k, rest, us⟩ => [(0, .sl k0 (xs.map d32)), (1, .v (.int .u32 (y : Int))), (6, .ref (0 + 2 + 2) 1 0 us.length), (7, .v (.int .u32 (rest : Int))), (8, .v (.int .i64 ((k : Int) - 1)))]) (fun ⟨k, rest, us⟩ => [(0 + 2 + 2, { cells := (us.map d32).flatten, sz := 1, elem := 99, st := 0 })]) (fun ⟨k, rest, us⟩ n => k ≤ xs.length ∧ us.length = xs.length ∧ Dg B32 us ∧ rest < y ∧ val B32 (us.drop k) * y + rest = val B32 (xs.drop k)) (fun ⟨k, rest, us⟩ => k) (xs.length, 0, List.replicate xs.length 0) ⟨rfl, rfl, congrArg some (by rw [List.length_replicate]; rfl), rfl, rfl, trivial⟩ ⟨g0.trans (by rw [List.map_replicate]; rfl), trivial⟩ ⟨Nat.le_refl _, by simp, by intro d hd; simp at hd; rw [hd.2]; decide, hy, by simp [val]⟩ ?_
 rintro ⟨k, rest, us⟩ n hF
 change WC _ _ _ _ _ (_ :: _) (_ :: _) n _
 obtain ⟨hk, hul, hud, hrest, huv⟩ := hF
 refine aB <| Rg 2 J <| Um J J <| aA (iT J J) J <| bL (fun h16 => ?_) (fun h16 => ?_)
 rotate_left
 ·refine Wn <| bC J <| bB <| aW <| aQ J <| Rg 4 J <| Um J J <| Um J J <| Ua J J <| Ua J J <| Wn <| aP <| ⟨.tup [.sl 1 (us.map d32), .v (.int .u32 (rest : Int))], ⟨us, rest, rfl, hud, hrest, ?_, hul⟩, postA (n := 0) [(0 + 2 + 2, { cells := (us.map d32).flatten, sz := 1, elem := 99, st := 1 })] (.inr J) J (.own _ (by simp) J (by show (0 : Nat) ≠ 2; decide) J (by decide) (by simp [keys]) J gT dL (.data (by simp) .nil)) (by intro p hp; simp at hp; subst hp; exact ⟨_, rfl, by show (0 : Nat) ≠ 2; decide, rfl⟩)⟩
  have h0 : k = 0 := by omega
  subst h0
  simpa using huv
 refine Wn <| bF J <| aG <| aI ?_
 have hxl : xs.getD (k - 1) default < 4294967296 := bR hx om
 have hq : (rest * 4294967296 + xs.getD (k - 1) default) / y < 4294967296 := by
  rw [Nat.div_lt_iff_lt_mul hy]; have := Nat.mul_le_mul_left 4294967296 (show rest + 1 ≤ y from hrest); omega
 refine aL (z := 15) J <| Um J J <| Um J J <| Um J J <| Um J J <| Um J J <| aA (cZ (j := k - 1) J J J J om om J) J <| aA (gC J J J) J <| Um J J <| aA (aJ J (div32_run rest (xs.getD (k - 1) default) y hrest hxl hy2) (by simp)) J <| Um J J <| aA (fD J J) J <| aA (fD J J) J <| aA (bV (j := k - 1) J J J J om om J) J <| bG (fB (f := d32) (us := us) ((rest * 4294967296 + xs.getD (k - 1) default) / y) J J J g0 (fun _ => rfl) J J om J) <| Ua J J <| Wn <| aE <| Ck [0,1,6,7,8] J <| aL (z := 3) J <| Um J J <| aA (cI (((k - 1 : Nat) : Int) - 1) (cY J J om) om) J <| Ua J J <| dR ?_
 refine aF ?_
 have hj : k - 1 + 1 = k := by omega
 refine ⟨⟨k - 1, (rest * 4294967296 + xs.getD (k - 1) default) % y, us.set (k - 1) ((rest * 4294967296 + xs.getD (k - 1) default) / y)⟩, ⟨rfl, rfl, congrArg some (by rw [List.length_set]), rfl, rfl, trivial⟩, ⟨g0, trivial⟩, ⟨om, by rw [List.length_set]; exact hul, hud.set _ hq, Nat.mod_lt _ hy, ?_⟩, by show k - 1 < k; omega⟩
 exact short_step hy (by rw [hj]; exact huv) om om
end Go.Proofs.Ytohfklpfeilcpaa
namespace Go.Proofs.Ytohfklpfeilcpaa
open Go.Ab Go.RowKit
theorem nH (k0 : Nat) (xs : List Nat) (sh : Nat) (hx : Dg B32 xs) (hn : sh < 32) (lx : xs.length < 1099511627776) : ∃ sz len ob, Run Try.prog T E0 (.callO 94 [.sl k0 (xs.map d32), .v (.int .i64 (sh : Int))] (.ref 0 sz 0 len) ob) ∧ ∃ ds, sz = 1 ∧ len = ds.length ∧ ob = { cells := (ds.map d32).flatten, sz := 1, elem := 99, st := 0 } ∧ Dg B32 ds ∧ val B32 ds = val B32 xs * 2 ^ sh ∧ ds.length = xs.length + 1 := by
 have hp : (2 : Nat) ^ sh ≤ 2 ^ 31 := Nat.pow_le_pow_right (by decide) om
 have hp0 : 0 < (2 : Nat) ^ sh := Nat.pow_pos (by decide)
 refine mkcallO Try.func94 J J (dK J) <| Rg 1 J <| Ua J J <| Wn <| Rg 5 J <| Um J J <| aA (bO J J) J <| aA (aU J J om) J <| bK (oMk (a := xs.length + 1) (b := xs.length + 1) J J J J om om (by decide) om (by show 4 * (xs.length + 1) ≤ _; omega) om) J <| Ua J J <| Wn <| aB <| Rg 3 J <| Um J J <| aA (bO J J) J <| Um J J <| Wn <| aI <| bI (α := Nat × (List Nat)) (fun ⟨i, us⟩ => [(1, .v (.int .i64 (sh : Int))), (5, .ref (0 + 1 + 3) 1 0 us.length), (13, .sl k0 (xs.map d32)), (14, .v (.int .i64 (xs.length : Int))), (15, .v (.int .i64 (i : Int)))]) (fun ⟨i, us⟩ => [(0 + 1 + 3, { cells := (us.map d32).flatten, sz := 1, elem := 99, st := 0 })]) (fun ⟨i, us⟩ n => i ≤ xs.length ∧ us.length = xs.length + 1 ∧ Dg B32 us ∧ val B32 us = val B32 (xs.take i) * 2 ^ sh ∧ (∀ j, i < j → us.getD j default = 0) ∧ us.getD i default < 2 ^ sh) (fun ⟨i, us⟩ => xs.length - i) (0, List.replicate (xs.length + 1) 0) ⟨rfl, congrArg some (by rw [List.length_replicate]; rfl), rfl, rfl, rfl, trivial⟩ ⟨g0.trans (by rw [List.map_replicate]; rfl), trivial⟩ ⟨Nat.zero_le _, by simp, by intro d hd; simp at hd; rw [hd]; decide, by rw [mR]; simp [val], fun j _ => jC _ _, by rw [jC]; exact hp0⟩ ?_
 rintro ⟨i, us⟩ n hF
 change WC _ _ _ _ _ (_ :: _) (_ :: _) n _
 obtain ⟨hi, hul, hud, huv, huz, hlo⟩ := hF
 refine Rg 1 J <| aA (bX J J) J <| bL (fun h16 => ?_) (fun h16 => ?_)
 rotate_left
 ·refine Wn <| bC J <| bB <| aW <| aQ J <| Rg 2 J <| Um J J <| Ua J J <| Wn <| aP <| ⟨1, us.length, _, ⟨us, rfl, rfl, rfl, hud, ?_, hul⟩, .inr J, _, rfl, rfl, rfl, rfl, by intro c hc; obtain ⟨row, hr, hc⟩ := List.mem_flatten.1 hc; exact dL row hr c hc⟩
  rw [huv, List.take_of_length_le om]
 refine Wn <| bF J <| aG <| aI <| Rg 5 J <| Um J J <| aA (cZ J J J J J om J) J <| aA (gC J J J) J <| Ua J J <| Ua J J <| dR ?_
 have hxl : xs.getD i default < 4294967296 := bR hx om
 have hw : (xs.getD i default * 2 ^ sh) < 9223372036854775808 := by
  have := Nat.mul_lt_mul_of_lt_of_le hxl hp (by decide); omega
 have hor := shift_or hn hlo hxl
 have hhi := shift_hi (n := sh) hxl
 have hol : us.getD i default < 4294967296 := by omega
 refine Rg 5 J <| Um J J <| aA (cI ((xs.getD i default : Int)) (bZ J J J) (by rw [IntKind.wrap_u64]; omega)) J <| Um J J <| aA (cI ((((xs.getD i default * 2 ^ sh) : Nat) : Int)) (pQ (s := sh) J J om) (by rw [show ((xs.getD i default : Nat) : Int) * 2 ^ sh = (((xs.getD i default * 2 ^ sh) : Nat) : Int) by simp]; omega)) J <| Ua J J <| Nk [1,5,6,8,13,14,15] J <| Rg 9 J <| Um J J <| Um J J <| aA (bV J J J J J om J) J <| aA (dP (f := d32) (us := us) (j := i) J J g0 (fun _ => rfl) J (by decide) om J) J <| Um J J <| aA (cI ((((xs.getD i default * 2 ^ sh) % 4294967296 : Nat) : Int)) (bZ J J J) (by rw [IntKind.wrap_u32]; omega)) J <| aA (fU (v := .int .u32 (((us.getD i default + (xs.getD i default * 2 ^ sh) % 4294967296) : Nat) : Int)) J J ((or32 hol om).trans (by rw [hor.1]))) J <| aA (bV J J J J J om J) J <| bG (fB (f := d32) (us := us) (us.getD i default + (xs.getD i default * 2 ^ sh) % 4294967296) J J J g0 (fun _ => rfl) J J om J) <| Nk [1,5,6,8,13,14,15] J <| aL (z := 8) J <| Um J J <| Um J J <| aA (cI (((i + 1 : Nat) : Int)) (aU J J om) om) J ?_
 refine Um J J <| aA (cI ((((xs.getD i default * 2 ^ sh) / 4294967296 : Nat) : Int)) (eX (s := 32) J J om) om) J <| aA (cI ((((xs.getD i default * 2 ^ sh) / 4294967296 : Nat) : Int)) (bZ J J J) (by rw [IntKind.wrap_u32]; omega)) J <| aA (bV J J J J J om J) J <| bG (fB (f := d32) (us := us.set i (us.getD i default + (xs.getD i default * 2 ^ sh) % 4294967296)) ((xs.getD i default * 2 ^ sh) / 4294967296) J J J g0 (fun _ => rfl) J J (by rw [List.length_set]; omega) J) <| Wn <| aE <| aL (z := 2) J <| aA (cI (((i + 1 : Nat) : Int)) (aU J J om) om) J <| Um J J <| Wn <| aF <| ⟨⟨i + 1, (us.set i (us.getD i default + (xs.getD i default * 2 ^ sh) % 4294967296)).set (i + 1) ((xs.getD i default * 2 ^ sh) / 4294967296)⟩, ⟨rfl, congrArg some (by rw [List.length_set, List.length_set]), rfl, rfl, rfl, trivial⟩, ⟨g0, trivial⟩, ⟨om, by rw [List.length_set, List.length_set]; exact hul, (hud.set _ hor.2).set _ (by show _ < 4294967296; omega), shift_step (by decide) huv om (huz _ om), ?_, ?_⟩, by show xs.length - (i + 1) < xs.length - i; omega⟩
 ·intro j hj
  rw [hJ om, hJ om]; exact huz j om
 ·have : ((us.set i (us.getD i default + (xs.getD i default * 2 ^ sh) % 4294967296)).set (i + 1) ((xs.getD i default * 2 ^ sh) / 4294967296)).getD (i + 1) default = (xs.getD i default * 2 ^ sh) / 4294967296 := by
   rw [List.getD_eq_getElem?_getD, List.getElem?_set_self (by simp; omega)]; rfl
  rw [this]; exact hhi
theorem len32_run (x : Nat) (hx : x < 4294967296) : Run Try.prog T E0 (.call 95 [.v (.int .u32 (x : Int))] (.v (.int .i64 ((blen x : Nat) : Int)))) := by
 refine bM Try.func95 J J (dK J) ?_
 have J7 : ∀ (y k : Nat) (hy : y < 256) (hk : k ≤ 24) (he : blen x = blen y + k) (n : Nat) , WC Try.prog T E0 Try.f95.ntmps (codeR (codeR (codeR (codeOf Try.f95)))) [(0, .v (.int .u32 (y : Int))), (2, .v (.int .i64 (k : Int)))] [] n (Post T Try.f95.results.toList (.v (.int .i64 ((blen x : Nat) : Int)))) := by
  intro y k hy hk he n
  have hyb := nR (n := 8) hy
  refine Rg 7 J <| Um J J <| Um J J <| aA (cI ((y : Int)) (bZ J J J) (by rw [IntKind.wrap_u8]; omega)) J <| aA (cI (((blen y : Nat) : Int)) (oIxS (bs := tab8) (n := (y : Int)) J kR J om (tab8_get hy)) (congrArg Int.ofNat (tab8_val hy))) J <| aA (cI (((blen y : Nat) : Int)) (bZ J J J) (by rw [IntWalk.i64_in _ om])) J <| aA (aU J J om) J <| Ua J J <| Wn <| aP ?_
  exact post (n := 0) (.inr J) J (congrArg (fun z => LV.v (.int .i64 z)) om) (by simp)
 refine Rg 1 J <| Ua J J <| Wn <| aB <| Rg 2 J <| Um J J <| aA (iT J J) J <| bL (fun h4 => ?_) (fun h4 => ?_)
 rotate_left
 ·refine Wn <| bC J <| aG <| aB <| Rg 2 J <| Um J J <| aA (iT J J) J <| bL (fun h8 => ?_) (fun h8 => ?_)
  rotate_left
  ·refine Wn <| bC J <| aG <| Ck [0,2] J ?_
   first | exact J7 (x / 65536) 16 om om (gN (x := x) (k := 16) om) _ | exact J7 x 0 om om rfl _
  refine Wn <| bF J <| aB <| Rg 3 J <| Um J J <| aA (cI (((x / 256 : Nat) : Int)) (qW (s := 8) J J om) om) J <| Ua J J <| Wn <| Rg 3 J <| Um J J <| aA (aU J J om) J <| Ua J J <| Nk [0,2] J ?_
  first | exact J7 (x / 65536 / 256) 24 om om (by rw [gN (x := x) (k := 16) om, gN (x := x / 2 ^ 16) (k := 8) om]) _ | exact J7 (x / 256) 8 om om (gN (x := x) (k := 8) om) _
 refine Wn <| bF J <| aB <| Rg 3 J <| Um J J <| aA (cI (((x / 65536 : Nat) : Int)) (qW (s := 16) J J om) om) J <| Ua J J <| Wn <| Rg 1 J <| Ua J J <| Wn <| aB <| Rg 2 J <| Um J J <| aA (iT J J) J <| bL (fun h8 => ?_) (fun h8 => ?_)
 rotate_left
 ·refine Wn <| bC J <| aG <| Ck [0,2] J ?_
  first | exact J7 (x / 65536) 16 om om (gN (x := x) (k := 16) om) _ | exact J7 x 0 om om rfl _
 refine Wn <| bF J <| aB <| Rg 3 J <| Um J J <| aA (cI (((x / 65536 / 256 : Nat) : Int)) (qW (s := 8) J J om) om) J <| Ua J J <| Wn <| Rg 3 J <| Um J J <| aA (aU J J om) J <| Ua J J <| Nk [0,2] J ?_
 first | exact J7 (x / 65536 / 256) 24 om om (by rw [gN (x := x) (k := 16) om, gN (x := x / 2 ^ 16) (k := 8) om]) _ | exact J7 (x / 256) 8 om om (gN (x := x) (k := 8) om) _
theorem zeros32_run (x : Nat) (hx : x < 4294967296) : Run Try.prog T E0 (.call 93 [.v (.int .u32 (x : Int))] (.v (.int .i64 ((32 - blen x : Nat) : Int)))) := by
 have hb := nR (n := 32) hx
 refine bM Try.func93 J J (dK J) <| Rg 1 J <| Ua J J <| Wn <| Rg 4 J <| Um J J <| aA (aJ J (len32_run x hx) (by simp)) J <| aA (cY J J om) J <| Ua J J <| Wn <| aP ?_
 exact post (n := 0) (.inr J) J (congrArg (fun z => LV.v (.int .i64 z)) om) (by simp)
end Go.Proofs.Ytohfklpfeilcpaa
set_option maxHeartbeats 4000000
namespace Go.Proofs.Ytohfklpfeilcpaa
open Go.Ab Go.RowKit
theorem long_run (k1 k2 : Nat) (xs ys : List Nat) (hx : Dg 4294967296 xs) (hy : Dg 4294967296 ys) (ty : Trm ys) (hl : 2 ≤ ys.length) (hle : ys.length ≤ xs.length) (lx : xs.length < 549755813888) : ∃ r, Run Try.prog T E0 (.call 88 [.sl k1 (xs.map d32), .sl k2 (ys.map d32)] r) ∧ ∃ qs rs, r = .tup [.sl 1 (qs.map d32), .sl 1 (rs.map d32)] ∧ Dg 4294967296 qs ∧ Dg 4294967296 rs ∧ val 4294967296 qs * val 4294967296 ys + val 4294967296 rs = val 4294967296 xs ∧ val 4294967296 rs < val 4294967296 ys ∧ qs.length ≤ xs.length ∧ rs.length = ys.length := by
 obtain ⟨sh, hsh⟩ : ∃ sh, sh = 32 - blen (ys.getD (ys.length - 1) default) := ⟨_, rfl⟩
 obtain ⟨n1, n2, n3⟩ := norm_facts hy ty hl hsh
 obtain ⟨vs, hvs⟩ : ∃ vs, vs = dgs 4294967296 (val 4294967296 ys * 2 ^ sh) := ⟨_, rfl⟩
 rw [← hvs] at n2 n3
 rw [← n2] at n3
 have hvd : Dg 4294967296 vs := by rw [hvs]; exact jS (by decide) _
 have hvv : val 4294967296 vs = val 4294967296 ys * 2 ^ sh := by rw [hvs]; exact gU (by decide) _
 have hyl : ys.getD (ys.length - 1) default < 4294967296 := bR hy om
 obtain ⟨_, _, _, hr1, us0, rfl, rfl, rfl, hud0, huv0, hul0⟩ := nH k1 xs sh hx n1 om
 obtain ⟨_, _, _, hr2, ws, rfl, rfl, rfl, hwd, hwv, hwl⟩ := nH k2 ys sh hy n1 om
 have htr : trim ws = vs := by rw [jZ (by decide) hwd, hwv, hvs]
 have hp31 : (2 : Nat) ^ sh ≤ 2 ^ 31 := Nat.pow_le_pow_right (by decide) om
 have hp0 : 0 < (2 : Nat) ^ sh := Nat.pow_pos (by decide)
 have hV0 : 0 < val 4294967296 vs := by
  have h1 := cM 4294967296 vs (vs.length - 1) om
  rw [bY (by omega : vs.length - 1 < vs.length)] at h1
  simp only [val] at h1
  have h2 : 0 < (4294967296 : Nat) ^ (vs.length - 1) := Nat.pow_pos (by decide)
  have h3 := Nat.mul_le_mul h2 n3
  have h4 := Nat.mul_add ((4294967296 : Nat) ^ (vs.length - 1)) (vs.getD (vs.length - 1) default) (4294967296 * val 4294967296 (List.drop (vs.length - 1 + 1) vs))
  omega
 refine lQ Try.func88 J J (dK J) <| Rg 2 J <| Ua J J <| Ua J J <| Wn <| Rg 8 J <| Um J J <| Um J J <| aA (bO J J) J <| aA (cY J J om) J <| aA (cZ (j := ys.length - 1) J J J J om om J) J <| aA (gC J J J) J <| aA (cI ((sh : Int)) (aJ J (zeros32_run _ hyl) (by simp)) (by rw [hsh])) J <| Ua J J <| Wn <| Rg 9 J <| Um J J <| Um J J <| bK (oCallO J hr1 (by simp)) J <| Um J J <| Um J J <| bK (oCallO J hr2 (by simp)) J <| bK (aO (b := .sl 1 (vs.map d32)) (lA [.sl 1 (ws.map d32)] [((0 + 2 + 8 + 5), { cells := (ws.map d32).flatten, sz := 1, elem := 99, st := 1 })] J (kA 1 ws om om) (.own _ (by simp) g0 (by show (0 : Nat) ≠ 2; decide) J (by decide) (by simp [keys]) J gT dL .nil) (by intro p hp; simp at hp; subst hp; exact ⟨_, g0, by show (0 : Nat) ≠ 2; decide, rfl⟩)) (by rw [htr]; rfl)) J <| Ua J J ?_
 refine Ua J J <| Nk [6,7,8] J <| Rg 3 J <| Um J J <| aA (bO J J) J <| Ua J J <| Wn <| Rg 6 J <| Um J J <| aA (gR J J) J <| Um J J <| aA (cY J J om) J <| bK (oMk (a := xs.length + 1 - ys.length) (b := xs.length + 1 - ys.length) J J J J om om (by decide) om (by show 4 * (xs.length + 1 - ys.length) ≤ _; omega) om) J <| Ua J J <| Wn <| aB <| Rg 6 J <| Um J J <| aA (gR J J) J <| Um J J <| aA (cY J J om) J <| aA (cY J J om) J <| Ua J J ?_
 refine Nk [6,7,8,9,10,11] J <| aI <| bI (α := Nat × (List Nat) × (List Nat)) (fun ⟨k, us, qs⟩ => [(6, .v (.int .i64 (sh : Int))), (7, .ref (0 + 2 + 8 + 2) 1 0 us.length), (8, .sl 1 (vs.map d32)), (9, .v (.int .i64 (vs.length : Int))), (10, .ref (0 + 2 + 8 + 9 + 3 + 4) 1 0 qs.length), (11, .v (.int .i64 ((k : Int) - 1)))]) (fun ⟨k, us, qs⟩ => [((0 + 2 + 8 + 2), { cells := (us.map d32).flatten, sz := 1, elem := 99, st := 0 }), ((0 + 2 + 8 + 9 + 3 + 4), { cells := (qs.map d32).flatten, sz := 1, elem := 99, st := 0 })]) (fun ⟨k, us, qs⟩ n => k + vs.length ≤ us.length ∧ us.length = xs.length + 1 ∧ qs.length = xs.length + 1 - ys.length ∧ Dg 4294967296 us ∧ Dg 4294967296 qs ∧ val 4294967296 us0 = val 4294967296 (qs.drop k) * val 4294967296 vs * 4294967296 ^ k + val 4294967296 us ∧ val 4294967296 (us.drop k) < val 4294967296 vs ∧ 30 ≤ n) (fun ⟨k, us, qs⟩ => k) (xs.length + 1 - ys.length, us0, List.replicate (xs.length + 1 - ys.length) 0) ⟨rfl, rfl, rfl, rfl, congrArg some (by rw [List.length_replicate]; rfl), congrArg (fun z => some (LV.v (.int .i64 z))) om, trivial⟩ ⟨rfl, g0.trans (by rw [List.map_replicate]; rfl), trivial⟩ ⟨om, hul0, by simp, hud0, by intro d hd; simp at hd; rw [hd.2]; decide, by rw [List.drop_eq_nil_of_le (by simp)]; simp [val], long_init (n := xs.length) (by decide) huv0 (fV (by decide) hx) om om om hp0 om, om⟩ ?_
 rintro ⟨k, us, qs⟩ n hF
 change WC _ _ _ _ _ (_ :: _) (_ :: _) n _
 obtain ⟨hk, hul, hql0, hud, hqd, hU, hlt, hn30⟩ := hF
 refine aB <| Rg 2 J <| Um J J <| aA (iT J J) J <| bL (fun h54 => ?_) (fun h54 => ?_)
 rotate_left
 ·refine Wn <| bC J <| bB <| aW <| aQ J ?_
  have hk0 : k = 0 := by omega
  subst hk0
  rw [List.drop_zero, Nat.pow_zero, Nat.mul_one] at hU
  rw [List.drop_zero] at hlt
  refine Rg 3 J <| Um J J <| bK (oMk (a := vs.length) (b := vs.length) J J J J om om (by decide) om (by show 4 * vs.length ≤ _; omega) om) J <| Ua J J <| Wn <| aB <| Rg 3 J <| Um J J <| aA (gR J J) J <| Um J J <| Wn <| aI <| bI (α := Nat × Nat × (List Nat)) (fun ⟨i, q3, rs⟩ => [(6, .v (.int .i64 (sh : Int))), (7, .ref (0 + 2 + 8 + 2) 1 0 us.length), (10, .ref (0 + 2 + 8 + 9 + 3 + 4) 1 0 qs.length), (25, .ref q3 1 0 rs.length), (229, .v (.int .i64 (vs.length : Int))), (230, .v (.int .i64 (i : Int)))]) (fun ⟨i, q3, rs⟩ => [((0 + 2 + 8 + 2), { cells := (us.map d32).flatten, sz := 1, elem := 99, st := 0 }), ((0 + 2 + 8 + 9 + 3 + 4), { cells := (qs.map d32).flatten, sz := 1, elem := 99, st := 0 }), (q3, { cells := (rs.map d32).flatten, sz := 1, elem := 99, st := 0 })]) (fun ⟨i, q3, rs⟩ n => i ≤ vs.length ∧ rs.length = vs.length ∧ Dg 4294967296 rs ∧ val 4294967296 rs = (val 4294967296 (us.take (i + 1)) / 2 ^ sh) % 4294967296 ^ i ∧ (∀ j, i ≤ j → rs.getD j default = 0) ∧ 30 ≤ q3) (fun ⟨i, q3, rs⟩ => vs.length - i) (0, n + 2 + 1, List.replicate vs.length 0) ⟨rfl, rfl, rfl, congrArg some (by rw [List.length_replicate]; rfl), rfl, rfl, trivial⟩ ⟨g1 om g0, g1 om (g1 (by decide) g0), g0.trans (by rw [List.map_replicate]; rfl), trivial⟩ ⟨Nat.zero_le _, by simp, by intro d hd; simp at hd; rw [hd.2]; decide, by rw [mR, Nat.pow_zero, Nat.mod_one], fun j _ => jC _ _, om⟩ ?_
  rintro ⟨i, q3, rs⟩ n hR
  change WC _ _ _ _ _ (_ :: _) (_ :: _) n _
  obtain ⟨hi, hrl, hrd, hrv, hrz, hq3⟩ := hR
  refine Rg 1 J <| aA (bX J J) J <| bL (fun h231 => ?_) (fun h231 => ?_)
  rotate_left
  ·refine Wn <| bC J <| bB <| aW <| aQ J ?_
   have hi' : i = vs.length := by omega
   subst hi'
   rw [rest_end (Nat.lt_trans hlt (fV (by decide) hvd)) om] at hrv
   obtain ⟨hx1, hx2⟩ := unshift hp0 (show val 4294967296 xs * 2 ^ sh = val 4294967296 qs * (val 4294967296 ys * 2 ^ sh) + val 4294967296 us by rw [← hvv, ← huv0, hU]) (by rw [← hvv]; exact hlt)
   rw [← hrv] at hx1 hx2
   refine Rg 4 J <| Um J J <| Um J J <| Ua J J <| Ua J J <| Wn <| aP <| ⟨.tup [.sl 1 (qs.map d32), .sl 1 (rs.map d32)], ⟨qs, rs, rfl, hqd, hrd, hx1, hx2, om, om⟩, ?_⟩
   exact postA (n := 0) [((0 + 2 + 8 + 9 + 3 + 4), { cells := (qs.map d32).flatten, sz := 1, elem := 99, st := 1 }), (q3, { cells := (rs.map d32).flatten, sz := 1, elem := 99, st := 1 })] (.inr J) J (.own _ (by simp) (g1 om g0) (by show (0 : Nat) ≠ 2; decide) J (by decide) (by simp [keys]) J gT dL (.own _ (by simp) (g1 om (g1 om g0)) (by show (0 : Nat) ≠ 2; decide) J (by decide) (by simp [keys]) J gT dL .nil)) (by intro p hp; simp at hp; rcases hp with hp | hp <;> subst hp; exact ⟨_, g1 om g0, by show (0 : Nat) ≠ 2; decide, rfl⟩; exact ⟨_, g1 om (g1 om g0), by show (0 : Nat) ≠ 2; decide, rfl⟩)
  refine Wn <| bF J <| aG <| aI <| Rg 2 J <| Um J J <| Ua J J <| dR ?_
  have hux : us.getD i default < 4294967296 := bR hud om
  have huy : us.getD (i + 1) default < 4294967296 := bR hud om
  obtain ⟨Z, hZ⟩ : ∃ Z, Z = (us.getD i default + us.getD (i + 1) default * 4294967296) / 2 ^ sh := ⟨_, rfl⟩
  refine dC (z := 20) J kR <| Dm J J <| Dm J J <| Dm J J <| Dm J J <| aC (bV J J J J J om J) J <| aC (dP (f := d32) (us := us) (j := i) J J g0 (fun _ => rfl) J (by decide) om J) J <| aC (cI ((us.getD i default : Int)) (bZ J J J) (by rw [IntKind.wrap_u64]; omega)) J <| Dm J J <| Dm J J <| aC (cI (((i + 1 : Nat) : Int)) (aU J J om) om) J <| aC (bV (j := i + 1) J J J J om om J) J <| aC (dP (f := d32) (us := us) (j := i + 1) J J g0 (fun _ => rfl) J (by decide) om J) J <| aC (cI ((us.getD (i + 1) default : Int)) (bZ J J J) (by rw [IntKind.wrap_u64]; omega)) J <| aC (cI (((us.getD (i + 1) default * 4294967296 : Nat) : Int)) (pQ (s := 32) J J om) om) J <| aC (fU (v := .int .u64 (((us.getD i default + us.getD (i + 1) default * 4294967296) : Nat) : Int)) J J (or_lo om om)) J <| Dm J J <| aC (cI ((Z : Int)) (eX (s := sh) J J om) (by rw [hZ]; simp)) J <| aC (cI (((Z % 4294967296 : Nat) : Int)) (bZ J J J) (by rw [IntKind.wrap_u32]; omega)) J <| aC (bV J J J J J om J) J <| cN (fB (f := d32) (us := rs) (Z % 4294967296) J J J (g1 om (g1 om g0)) (fun _ => rfl) J J om J) <| bJ (aT kR) J <| aE <| Ck [6,7,10,25,229,230] J ?_
  refine aL (z := 2) J <| aA (cI (((i + 1 : Nat) : Int)) (aU J J om) om) J <| Um J J <| Wn <| aF <| ⟨⟨i + 1, q3, rs.set i (Z % 4294967296)⟩, ⟨rfl, rfl, rfl, congrArg some (by rw [List.length_set]), rfl, rfl, trivial⟩, ⟨g1 om g0, g1 om (g1 (by decide) g0), g0, trivial⟩, ⟨om, by rw [List.length_set]; exact hrl, hrd.set _ (Nat.mod_lt _ (by decide)), by rw [hZ]; exact rest_set om om hud om (hrz i (Nat.le_refl _)) hrv, ?_, hq3⟩, by show vs.length - (i + 1) < vs.length - i; omega⟩
  intro j hj
  rw [hJ om]; exact hrz j om
 refine Wn <| bF J <| aG <| aI ?_
 have hu0 : us.getD (k - 1 + vs.length) default < 4294967296 := bR hud om
 have hu1 : us.getD (k - 1 + vs.length - 1) default < 4294967296 := bR hud om
 have LQh := lq_make (B := 4294967296) (by decide) (j := k - 1) hud hvd om om om (by rw [show k - 1 + 1 = k by omega]; exact hlt)
 obtain ⟨top, htop⟩ : ∃ top, top = us.getD (k - 1 + vs.length) default * 4294967296 + us.getD (k - 1 + vs.length - 1) default := ⟨_, rfl⟩
 obtain ⟨u2, hu2⟩ : ∃ z, z = us.getD (k - 1 + vs.length - 2) default := ⟨_, rfl⟩
 obtain ⟨v1, hv1⟩ : ∃ z, z = vs.getD (vs.length - 1) default := ⟨_, rfl⟩
 obtain ⟨v2, hv2⟩ : ∃ z, z = vs.getD (vs.length - 2) default := ⟨_, rfl⟩
 rw [← htop, ← hu2, ← hv1, ← hv2] at LQh
 have lu2 : u2 < 4294967296 := by rw [hu2]; exact bR hud om
 have lv1 : v1 < 4294967296 := by rw [hv1]; exact bR hvd om
 have lv2 : v2 < 4294967296 := by rw [hv2]; exact bR hvd om
 have gv1 : 2147483648 ≤ v1 := by rw [hv1]; exact n3
 have htop2 : top < 18446744073709551616 := by omega
 have hRB := LQh.lt_pow (fV (B := 4294967296) (by decide) hvd)
 refine bS (z := 18) J kR <| Dm J J <| Dm J J <| Dm J J <| aC (cI (((k - 1 + vs.length : Nat) : Int)) (aU J J om) om) J <| aC (bV (j := k - 1 + vs.length) J J J J om om J) J <| aC (dP (f := d32) (us := us) (j := k - 1 + vs.length) J J g0 (fun _ => rfl) J (by decide) om J) J <| aC (cI ((us.getD (k - 1 + vs.length) default : Int)) (bZ J J J) (by rw [IntKind.wrap_u64]; omega)) J <| aC (cI (((us.getD (k - 1 + vs.length) default * 4294967296 : Nat) : Int)) (pQ (s := 32) J J om) om) J <| Dm J J <| Dm J J <| Dm J J <| aC (cI (((k - 1 + vs.length : Nat) : Int)) (aU J J om) om) J <| aC (cY J J om) J <| aC (bV (j := k - 1 + vs.length - 1) J J J J om om J) J <| aC (dP (f := d32) (us := us) (j := k - 1 + vs.length - 1) J J g0 (fun _ => rfl) J (by decide) om J) J <| aC (cI ((us.getD (k - 1 + vs.length - 1) default : Int)) (bZ J J J) (by rw [IntKind.wrap_u64]; omega)) J <| aC (cI ((top : Int)) (fU (v := .int .u64 ((us.getD (k - 1 + vs.length) default * 4294967296 + us.getD (k - 1 + vs.length - 1) default : Nat) : Int)) J J (or_hi om om)) (by rw [htop])) J <| aC (iS J) J <| bJ (aT kR) J <| Ck [6,7,8,9,10,11,12] J <| Rg 9 J <| Um J J <| Um J J ?_
 refine Um J J <| aA (cY J J om) J <| aA (cZ (j := vs.length - 1) J J J J om om J) J <| aA (gC J J J) J <| aA (cI ((v1 : Int)) (bZ J J J) (by rw [IntKind.wrap_u64]; omega)) J <| aA (oQuoU J J om om) J <| Ua J J <| Nk [6,7,8,9,10,11,12,13] J <| Rg 9 J <| Um J J <| Um J J <| Um J J <| aA (cY J J om) J <| aA (cZ (j := vs.length - 1) J J J J om om J) J <| aA (gC J J J) J <| aA (cI ((v1 : Int)) (bZ J J J) (by rw [IntKind.wrap_u64]; omega)) J <| aA (oRemU J J om) J <| Ua J J <| Nk [6,7,8,9,10,11,13,14] J <| aI <| bI (α := Nat × Nat) (fun ⟨qh, rh⟩ => [(6, .v (.int .i64 (sh : Int))), (7, .ref (0 + 2 + 8 + 2) 1 0 us.length), (8, .sl 1 (vs.map d32)), (9, .v (.int .i64 (vs.length : Int))), (10, .ref (0 + 2 + 8 + 9 + 3 + 4) 1 0 qs.length), (11, .v (.int .i64 ((k : Int) - 1))), (13, .v (.int .u64 (qh : Int))), (14, .v (.int .u64 (rh : Int)))]) (fun ⟨qh, rh⟩ => [((0 + 2 + 8 + 2), { cells := (us.map d32).flatten, sz := 1, elem := 99, st := 0 }), ((0 + 2 + 8 + 9 + 3 + 4), { cells := (qs.map d32).flatten, sz := 1, elem := 99, st := 0 })]) (fun ⟨qh, rh⟩ n => top = qh * v1 + rh ∧ val 4294967296 (us.drop (k - 1)) / val 4294967296 vs ≤ qh ∧ qh ≤ 4294967297 ∧ rh < 4294967296 ∧ 30 ≤ n) (fun ⟨qh, rh⟩ => qh) (top / v1, top % v1) ⟨J, J, J, J, J, J, J, J, trivial⟩ ⟨g0, g1 (by decide) g0, trivial⟩ ⟨(Nat.div_add_mod' top v1).symm, lq_start LQh (by decide), lq_first LQh (by decide), by have := Nat.mod_lt top (show 0 < v1 by omega); omega, om⟩ ?_
 rintro ⟨qh, rh⟩ n hG
 change WC _ _ _ _ _ (_ :: _) (_ :: _) n _
 obtain ⟨hG1, hG2, hG3, hG4, hn31⟩ := hG
 refine aB <| bS (z := 24) J kR <| Dm J J <| aC (iT J J) J <| kS (fun h91 => ?_) (fun h91 => ?_)
 ·refine Dm J J <| bD J J <| bD J J <| bD J J <| bD J J <| bD J J <| bD J J <| bD J J <| bD J J <| bD J J <| bD J J <| bD J J <| bD J J <| bD J J <| bD J J <| bD J J <| bD J J <| bD J J <| bD J J <| bD J J <| bD J J <| aC (bT J J) J <| bJ (aT kR) J <| Ck [6,7,8,9,10,11,13,14,93,94,95,96,97,98,99,100,101,102,103,104,105,106,107,108,109,110,111,112,113] J ?_
  refine bF J <| aG <| dM ?_
  obtain ⟨hdc1, hdc2⟩ := lq_dec LQh hG1 hG2 (by first | exact .inl om | exact .inr om)
  refine Rg 3 J <| Um J J <| aA (cI (((qh - 1 : Nat) : Int)) (gS J J) om) J <| Ua J J <| Nk [6,7,8,9,10,11,13,14,93,94,95,96,97,98,99,100,101,102,103,104,105,106,107,108,109,110,111,112] J <| Rg 9 J <| Um J J <| Um J J <| Um J J <| aA (cY J J om) J <| aA (cZ (j := vs.length - 1) J J J J om om J) J <| aA (gC J J J) J <| aA (cI ((v1 : Int)) (bZ J J J) (by rw [IntKind.wrap_u64]; omega)) J <| aA (cI (((rh + v1 : Nat) : Int)) (iR J J) om) J <| Ua J J <| Nk [6,7,8,9,10,11,13,14,93,94,95,96,97,98,99,100,101,102,103,104,105,106,107,108,109,110,111,112] J <| Rg 2 J <| Um J J <| aA (iT J J) J <| bL (fun h125 => ?_) (fun h125 => ?_)
  rotate_left
  ·refine Nk [6,7,8,9,10,11,13,14,93,94,95,96,97,98,99,100,101,102,103,104,105,106,107,108,109,110,111,112,125] J <| cD J <| cE <| gJ <| aF <| ⟨⟨qh - 1, rh + v1⟩, ⟨J, J, J, J, J, J, J, J, trivial⟩, ⟨g0, g1 (by decide) g0, trivial⟩, ⟨dec_eq hG1 hdc1, hdc2, om, om, om⟩, by show qh - 1 < qh; omega⟩
  refine Nk [6,7,8,9,10,11,13,14,93,94,95,96,97,98,99,100,101,102,103,104,105,106,107,108,109,110,111,112,125] J <| cU J <| nO <| lH J <| aW <| aQ J <| Ck [6,7,8,9,10,11,13,93,94,95,96,97,98,99,100,101,102,103,104,105,106,107,108,109,110,111,112] J ?_
  obtain ⟨hql, hqo⟩ := lq_break LQh hG1 hdc1 hG4 om hG3
  replace hG2 := hdc2
  obtain ⟨q1, hq1⟩ : ∃ q1, q1 = qh - 1 := ⟨_, rfl⟩
  rw [← hq1] at hqo hql hG2 ⊢
  refine Rg 2 J <| Ua J J <| Ua J J <| Nk [6,7,8,9,10,11,13,15,16,93,94,95,96,97,98,99,100,101,102,103,104,105,106,107,108,109,110,111,112] J <| aB <| Rg 3 J <| Um J J <| aA (bO J J) J <| Um J J <| Nk [6,7,8,9,10,11,13,15,16,93,94,95,96,97,98,99,100,101,102,103,104,105,106,107,108,109,110,111,112,126,127,128] J <| aI ?_
  refine bI (α := Nat × Nat × Nat × (List Nat)) (fun ⟨i, c, b, us1⟩ => [(6, .v (.int .i64 (sh : Int))), (7, .ref (0 + 2 + 8 + 2) 1 0 us1.length), (8, .sl 1 (vs.map d32)), (9, .v (.int .i64 (vs.length : Int))), (10, .ref (0 + 2 + 8 + 9 + 3 + 4) 1 0 qs.length), (11, .v (.int .i64 ((k : Int) - 1))), (13, .v (.int .u64 (q1 : Int))), (15, .v (.int .u64 (b : Int))), (16, .v (.int .u64 (c : Int))), (126, .sl 1 (vs.map d32)), (127, .v (.int .i64 (vs.length : Int))), (128, .v (.int .i64 (i : Int)))]) (fun ⟨i, c, b, us1⟩ => [((0 + 2 + 8 + 2), { cells := (us1.map d32).flatten, sz := 1, elem := 99, st := 0 }), ((0 + 2 + 8 + 9 + 3 + 4), { cells := (qs.map d32).flatten, sz := 1, elem := 99, st := 0 })]) (fun ⟨i, c, b, us1⟩ n => i ≤ vs.length ∧ us1.length = us.length ∧ Dg 4294967296 us1 ∧ c < 4294967296 ∧ b ≤ 1 ∧ val 4294967296 us1 + 4294967296 ^ (k - 1) * (q1 * val 4294967296 (vs.take i)) = val 4294967296 us + 4294967296 ^ (k - 1 + i) * (c + b) ∧ us1.take (k - 1) = us.take (k - 1) ∧ us1.drop (k - 1 + i) = us.drop (k - 1 + i) ∧ 30 ≤ n) (fun ⟨i, c, b, us1⟩ => vs.length - i) (0, 0, 0, us) ⟨J, J, J, J, J, J, J, J, J, J, J, J, trivial⟩ ⟨g0, g1 (by decide) g0, trivial⟩ ⟨Nat.zero_le _, rfl, hud, by decide, by decide, by simp [val], rfl, rfl, om⟩ ?_
  rintro ⟨i, c, b, us1⟩ n hL
  change WC _ _ _ _ _ (_ :: _) (_ :: _) n _
  obtain ⟨hi, hl1, hd1, hc1, hb1, he1, ht1, hp1, hn32⟩ := hL
  refine Rg 1 J <| aA (bX J J) J <| bL (fun h129 => ?_) (fun h129 => ?_)
  ·refine Wn <| bF J <| aG <| aI ?_
   have hvi : vs.getD i default < 4294967296 := bR hvd om
   have hui : us1.getD (k - 1 + i) default < 4294967296 := bR hd1 om
   have hqv := gX hql hvi
   obtain ⟨p, hpe⟩ : ∃ p, p = q1 * vs.getD i default + c := ⟨_, rfl⟩
   obtain ⟨u, hue⟩ : ∃ u, u = us1.getD (k - 1 + i) default := ⟨_, rfl⟩
   have hpb : p < 18446744073709551616 := by omega
   obtain ⟨d, hde⟩ : ∃ d, d = (u + 4294967296 - p % 4294967296 - b) % 4294967296 := ⟨_, rfl⟩
   refine Rg 5 J <| Um J J <| aA (cZ J J J J J om J) J <| aA (gC J J J) J <| Ua J J <| Ua J J <| Nk [6,7,8,9,10,11,13,15,16,17,18,126,127,128] J <| Rg 7 J <| Um J J <| Um J J <| aA (cI ((vs.getD i default : Int)) (bZ J J J) (by rw [IntKind.wrap_u64]; omega)) J <| aA (cI (((q1 * vs.getD i default : Nat) : Int)) (kV J J) (by rw [← Int.natCast_mul]; omega)) J <| Um J J <| aA (cI ((p : Int)) (iR J J) om) J <| Ua J J <| Nk [6,7,8,9,10,11,13,15,17,19,126,127,128] J <| Rg 3 J <| Um J J <| aA (cI (((p / 4294967296 : Nat) : Int)) (eX (s := 32) J J om) om) J <| Ua J J <| Nk [6,7,8,9,10,11,13,15,16,17,19,126,127,128] J ?_
   refine Rg 14 J <| Um J J <| Um J J <| Um J J <| aA (cI (((k - 1 + i : Nat) : Int)) (aU J J om) om) J <| aA (bV (j := k - 1 + i) J J J J om om J) J <| aA (dP (f := d32) (us := us1) (j := k - 1 + i) J J g0 (fun _ => rfl) J (by decide) om J) J <| aA (cI ((u : Int)) (bZ J J J) (by rw [IntKind.wrap_u64]; omega)) J <| Um J J <| aA (cI (((p % 4294967296 : Nat) : Int)) (bZ J J J) (by rw [IntKind.wrap_u32]; omega)) J <| aA (cI (((p % 4294967296 : Nat) : Int)) (bZ J J J) (by rw [IntKind.wrap_u64]; omega)) J <| aA (gS J J) J <| Um J J <| aA (cI (((((u + 18446744073709551616 - p % 4294967296 - b) % 18446744073709551616) : Nat) : Int)) (gS J J) om) J <| Ua J J <| Nk [6,7,8,9,10,11,13,16,17,20,126,127,128] J <| Rg 8 J <| Um J J <| Um J J <| Um J J <| aA (cI (((k - 1 + i : Nat) : Int)) (aU J J om) om) J <| Um J J <| aA (cI ((d : Int)) (bZ J J J) (by rw [IntKind.wrap_u32]; omega)) J ?_
   refine aA (bV (j := k - 1 + i) J J J J om om J) J <| bG (fB (f := d32) (us := us1) d J J J g0 (fun _ => rfl) J J om J) <| Nk [6,7,8,9,10,11,13,16,20,126,127,128] J <| aL (z := 3) J <| Um J J <| aA (cI (((if u < p % 4294967296 + b then 1 else 0 : Nat) : Int)) (eX (s := 63) J J om) (by split <;> omega)) J <| Ua J J <| Wn <| aE <| Ck [6,7,8,9,10,11,13,15,16,126,127,128] J <| aL (z := 2) J <| aA (cI (((i + 1 : Nat) : Int)) (aU J J om) om) J <| Um J J <| Wn <| aF <| ⟨⟨i + 1, p / 4294967296, if u < p % 4294967296 + b then 1 else 0, us1.set (k - 1 + i) d⟩, ⟨rfl, congrArg some (by rw [List.length_set]), rfl, rfl, rfl, rfl, rfl, rfl, rfl, rfl, rfl, rfl, trivial⟩, ⟨g0, g1 (by decide) (g1 (by decide) g0), trivial⟩, ⟨om, by rw [List.length_set]; exact hl1, hd1.set _ om, om, by split <;> omega, ?_, by rw [cK om]; exact ht1, by rw [cS om]; exact fP hp1 om, om⟩, by show vs.length - (i + 1) < vs.length - i; omega⟩
   rw [hpe]
   exact jX he1 om (by rw [← hpe, ← hue, hde]; split <;> omega)
  refine Wn <| bC J <| bB <| aW <| aQ J ?_
  have hi' : i = vs.length := by omega
  subst hi'
  rw [List.take_of_length_le (Nat.le_refl _)] at he1
  obtain ⟨u, hue⟩ : ∃ u, u = us1.getD (k - 1 + vs.length) default := ⟨_, rfl⟩
  have hul1 : u < 4294967296 := by rw [hue]; exact bR hd1 om
  obtain ⟨d, hde⟩ : ∃ d, d = (u + 4294967296 - c - b) % 4294967296 := ⟨_, rfl⟩
  have hd4 : d < 4294967296 := by omega
  refine Rg 12 J <| Um J J <| Um J J <| Um J J <| aA (cI (((k - 1 + vs.length : Nat) : Int)) (aU J J om) om) J <| aA (bV (j := k - 1 + vs.length) J J J J om om J) J <| aA (dP (f := d32) (us := us1) (j := k - 1 + vs.length) J J g0 (fun _ => rfl) J (by decide) om J) J <| aA (cI ((u : Int)) (bZ J J J) (by rw [IntKind.wrap_u64]; omega)) J <| Um J J <| aA (gS J J) J <| Um J J <| aA (cI (((((u + 18446744073709551616 - c - b) % 18446744073709551616) : Nat) : Int)) (gS J J) om) J <| Ua J J <| Nk [6,7,8,9,10,11,13,21] J <| Rg 8 J <| Um J J <| Um J J <| Um J J <| aA (cI (((k - 1 + vs.length : Nat) : Int)) (aU J J om) om) J <| Um J J <| aA (cI ((d : Int)) (bZ J J J) (by rw [IntKind.wrap_u32]; omega)) J <| aA (bV (j := k - 1 + vs.length) J J J J om om J) J <| bG (fB (f := d32) (us := us1) d J J J g0 (fun _ => rfl) J J om J) ?_
  refine Nk [6,7,8,9,10,11,13,21] J <| aB <| Rg 3 J <| Um J J <| aA (cI (((if u < c + b then 1 else 0 : Nat) : Int)) (eX (s := 63) J J om) (by split <;> omega)) J <| aA (fS J J) J <| bL (fun h184 => ?_) (fun h184 => ?_)
  rotate_left
  ·have hneg : c + b ≤ u := by
    rcases Nat.lt_or_ge u (c + b) with h | h
    ·rw [if_pos h] at h184; simp at h184
    ·exact h
   have hs2 := iV (o := 0) (d := d) he1 om (by rw [← hue]; omega)
   rw [Nat.mul_zero, Nat.add_zero] at hs2
   refine Wn <| bC J <| aG ?_
   have hlF : (us1.set (k - 1 + vs.length) d).length = us.length := by rw [List.length_set]; exact hl1
   have hdF : Dg 4294967296 (us1.set (k - 1 + vs.length) d) := hd1.set _ hd4
   have hltF := mJ (by decide) hV0 om om (by rw [cK om]; exact ht1) hs2 hG2
   have hUF := hO (qs := qs) (j := k - 1) om (by rw [show k - 1 + 1 = k by omega]; exact hU) hs2
   refine aL (z := 6) J <| Um J J <| Um J J <| Um J J <| aA (cI ((q1 : Int)) (bZ J J J) (by rw [IntKind.wrap_u32]; omega)) J <| aA (bV (j := k - 1) J J J J om om J) J <| bG (fB (f := d32) (us := qs) q1 J J J (g1 (by decide) (g1 (by decide) g0)) (fun _ => rfl) J J om J) <| Wn <| aE <| Ck [6,7,8,9,10,11] J <| aL (z := 3) J <| Um J J <| aA (cI (((k - 1 : Nat) : Int) - 1) (cY J J om) om) J <| Ua J J <| Wn <| aF <| ⟨⟨k - 1, (us1.set (k - 1 + vs.length) d), qs.set (k - 1) q1⟩, ⟨rfl, congrArg some (by rw [List.length_set]), rfl, rfl, congrArg some (by rw [List.length_set]), rfl, trivial⟩, ⟨g1 (by decide) g0, g0, trivial⟩, ⟨by rw [hlF]; omega, by rw [hlF]; exact hul, by rw [List.length_set]; exact hql0, hdF, hqd.set _ om, hUF, hltF, om⟩, by show k - 1 < k; omega⟩
  have hneg : u < c + b := by
   rcases Nat.lt_or_ge u (c + b) with h | h
   ·exact h
   ·rw [if_neg om] at h184; simp at h184
  have hs2 := iV (o := 1) (d := d) he1 om (by rw [← hue]; omega)
  have hlT : (us1.set (k - 1 + vs.length) d).length = us.length := by rw [List.length_set]; exact hl1
  have hdT : Dg 4294967296 (us1.set (k - 1 + vs.length) d) := hd1.set _ hd4
  have htT : (us1.set (k - 1 + vs.length) d).take (k - 1) = us.take (k - 1) := by rw [cK om]; exact ht1
  have hpT : (us1.set (k - 1 + vs.length) d).drop (k - 1 + vs.length + 1) = us.drop (k - 1 + vs.length + 1) := by rw [cS om]; exact fP hp1 om
  obtain ⟨hgt, hq1p⟩ := neg_gt (by decide) hdT om hlT hRB hpT htT hs2
  refine Wn <| bF J <| aB <| Rg 3 J <| Um J J <| aA (cI (((q1 - 1 : Nat) : Int)) (gS J J) om) J <| Ua J J <| Wn <| aB <| Rg 1 J <| Ua J J <| Wn <| aB <| aB <| Rg 3 J <| Um J J <| aA (bO J J) J <| Um J J <| Nk [6,7,8,9,10,11,13,22,187,188,189] J <| aI <| bI (α := Nat × Nat × (List Nat)) (fun ⟨i2, c2, us3⟩ => [(6, .v (.int .i64 (sh : Int))), (7, .ref (0 + 2 + 8 + 2) 1 0 us3.length), (8, .sl 1 (vs.map d32)), (9, .v (.int .i64 (vs.length : Int))), (10, .ref (0 + 2 + 8 + 9 + 3 + 4) 1 0 qs.length), (11, .v (.int .i64 ((k : Int) - 1))), (13, .v (.int .u64 ((q1 - 1 : Nat) : Int))), (22, .v (.int .u32 (c2 : Int))), (187, .sl 1 (vs.map d32)), (188, .v (.int .i64 (vs.length : Int))), (189, .v (.int .i64 (i2 : Int)))]) (fun ⟨i2, c2, us3⟩ => [((0 + 2 + 8 + 2), { cells := (us3.map d32).flatten, sz := 1, elem := 99, st := 0 }), ((0 + 2 + 8 + 9 + 3 + 4), { cells := (qs.map d32).flatten, sz := 1, elem := 99, st := 0 })]) (fun ⟨i2, c2, us3⟩ n => i2 ≤ vs.length ∧ us3.length = us.length ∧ Dg 4294967296 us3 ∧ c2 ≤ 1 ∧ val 4294967296 us3 + 4294967296 ^ (k - 1 + i2) * c2 = val 4294967296 (us1.set (k - 1 + vs.length) d) + 4294967296 ^ (k - 1) * val 4294967296 (vs.take i2) ∧ us3.take (k - 1) = us.take (k - 1) ∧ us3.drop (k - 1 + vs.length) = (us1.set (k - 1 + vs.length) d).drop (k - 1 + vs.length) ∧ 30 ≤ n) (fun ⟨i2, c2, us3⟩ => vs.length - i2) (0, 0, (us1.set (k - 1 + vs.length) d)) ⟨rfl, congrArg some (by rw [List.length_set]), rfl, rfl, rfl, rfl, rfl, rfl, rfl, rfl, rfl, trivial⟩ ⟨g0, g1 (by decide) (g1 (by decide) g0), trivial⟩ ⟨Nat.zero_le _, hlT, hdT, by decide, by simp [val], htT, rfl, om⟩ ?_
  rintro ⟨i2, c2, us3⟩ n hM
  change WC _ _ _ _ _ (_ :: _) (_ :: _) n _
  obtain ⟨hi2, hl3, hd3, hc3, he3, ht3, hp3, hn33⟩ := hM
  refine Rg 1 J <| aA (bX J J) J <| bL (fun h190 => ?_) (fun h190 => ?_)
  ·refine Wn <| bF J <| aG <| aI <| Rg 5 J <| Um J J <| aA (cZ J J J J J om J) J <| aA (gC J J J) J <| Ua J J <| Ua J J <| Nk [6,7,8,9,10,11,13,22,23,24,187,188,189] J ?_
   have hu3 : us3.getD (k - 1 + i2) default < 4294967296 := bR hd3 om
   have hv3 : vs.getD i2 default < 4294967296 := bR hvd om
   refine aL (z := 19) J <| Um J J <| Um J J <| Um J J <| aA (cI (((k - 1 + i2 : Nat) : Int)) (aU J J om) om) J <| Um J J <| Um J J <| Um J J <| aA (cI (((k - 1 + i2 : Nat) : Int)) (aU J J om) om) J <| aA (bV (j := k - 1 + i2) J J J J om om J) J <| aA (dP (f := d32) (us := us3) (j := k - 1 + i2) J J g0 (fun _ => rfl) J (by decide) om J) J <| Um J J <| Um J J <| aA (aJ J (iM (us3.getD (k - 1 + i2) default) (vs.getD i2 default) c2 hu3 hv3 hc3) (by simp)) J <| Um J J <| aA (fD J J) J <| aA (fD J J) J <| aA (bV (j := k - 1 + i2) J J J J om om J) J <| bG (fB (f := d32) (us := us3) ((us3.getD (k - 1 + i2) default + vs.getD i2 default + c2) % 4294967296) J J J g0 (fun _ => rfl) J J om J) <| Ua J J <| Wn <| aE <| Ck [6,7,8,9,10,11,13,22,187,188,189] J <| aL (z := 2) J ?_
   refine aA (cI (((i2 + 1 : Nat) : Int)) (aU J J om) om) J <| Um J J <| Wn <| aF <| ⟨⟨i2 + 1, _, us3.set (k - 1 + i2) ((us3.getD (k - 1 + i2) default + vs.getD i2 default + c2) % 4294967296)⟩, ⟨rfl, congrArg some (by rw [List.length_set]), rfl, rfl, rfl, rfl, rfl, rfl, rfl, rfl, rfl, trivial⟩, ⟨g0, g1 (by decide) (g1 (by decide) g0), trivial⟩, ⟨om, by rw [List.length_set]; exact hl3, hd3.set _ om, om, iY he3 om, by rw [cK om]; exact ht3, by rw [cS om]; exact hp3, om⟩, by show vs.length - (i2 + 1) < vs.length - i2; omega⟩
  refine Wn <| bC J <| bB <| aW <| aQ J ?_
  have hi' : i2 = vs.length := by omega
  subst hi'
  rw [List.take_of_length_le (Nat.le_refl _)] at he3
  have hu3 : us3.getD (k - 1 + vs.length) default < 4294967296 := bR hd3 om
  refine Rg 10 J <| Um J J <| Um J J <| Um J J <| aA (cI (((k - 1 + vs.length : Nat) : Int)) (aU J J om) om) J <| aA (bV (j := k - 1 + vs.length) J J J J om om J) J <| aA (dP (f := d32) (us := us3) (j := k - 1 + vs.length) J J g0 (fun _ => rfl) J (by decide) om J) J <| Um J J <| aA (cI ((((us3.getD (k - 1 + vs.length) default + c2) % 4294967296 : Nat) : Int)) (oAdd32 J J) om) J <| aA (bV (j := k - 1 + vs.length) J J J J om om J) J <| bG (fB (f := d32) (us := us3) ((us3.getD (k - 1 + vs.length) default + c2) % 4294967296) J J J g0 (fun _ => rfl) J J om J) <| Nk [6,7,8,9,10,11,13] J ?_
  have hlF : (us3.set (k - 1 + vs.length) ((us3.getD (k - 1 + vs.length) default + c2) % 4294967296)).length = us.length := by rw [List.length_set]; exact hl3
  have hdF : Dg 4294967296 (us3.set (k - 1 + vs.length) ((us3.getD (k - 1 + vs.length) default + c2) % 4294967296)) := hd3.set _ om
  have h4 := iX he3 om
  obtain ⟨hs4, hltF⟩ := oD (by decide) hV0 hdF om hlF hRB (by rw [cS om]; exact (fP hp3 om).trans hpT) (by rw [cK om]; exact ht3) hs2 h4 hG2 hq1p hqo hgt om
  have hUF := hO (qs := qs) (j := k - 1) om (by rw [show k - 1 + 1 = k by omega]; exact hU) hs4
  refine aL (z := 6) J <| Um J J <| Um J J <| Um J J <| aA (cI (((q1 - 1 : Nat) : Int)) (bZ J J J) (by rw [IntKind.wrap_u32]; omega)) J <| aA (bV (j := k - 1) J J J J om om J) J <| bG (fB (f := d32) (us := qs) (q1 - 1) J J J (g1 (by decide) (g1 (by decide) g0)) (fun _ => rfl) J J om J) <| Wn <| aE <| aL (z := 3) J <| Um J J <| aA (cI (((k - 1 : Nat) : Int) - 1) (cY J J om) om) J <| Ua J J <| Wn <| aF <| ⟨⟨k - 1, (us3.set (k - 1 + vs.length) ((us3.getD (k - 1 + vs.length) default + c2) % 4294967296)), qs.set (k - 1) (q1 - 1)⟩, ⟨rfl, congrArg some (by rw [List.length_set]), rfl, rfl, congrArg some (by rw [List.length_set]), rfl, trivial⟩, ⟨g1 (by decide) g0, g0, trivial⟩, ⟨by rw [hlF]; omega, by rw [hlF]; exact hul, by rw [List.length_set]; exact hql0, hdF, hqd.set _ om, hUF, hltF, om⟩, by show k - 1 < k; omega⟩
 refine Dm J J <| aZ J (dQ J) J <| aZ J (dQ J) J <| aZ J (dQ J) J <| aZ J (cY J J om) J <| aZ J (cZ (j := vs.length - 2) J J J J om om J) J <| aZ J (gC J J J) J <| aZ J (cI ((v2 : Int)) (bZ J J J) (by rw [IntKind.wrap_u64]; omega)) J <| aZ J (cI (((qh * v2 : Nat) : Int)) (kV J J) (by rw [← Int.natCast_mul]; have := gX (a := qh) (b := v2) om om; omega)) J <| aZ J (dQ J) J <| aZ J (cI (((rh * 4294967296 : Nat) : Int)) (pQ (s := 32) J J om) om) J <| aZ J (dQ J) J <| aZ J (dQ J) J <| aZ J (dQ J) J <| aZ J (cI (((k - 1 + vs.length : Nat) : Int)) (aU J J om) om) J <| aZ J (cY J J om) J <| aZ J (bV (j := k - 1 + vs.length - 2) J J J J om om J) J <| aZ J (dP (f := d32) (us := us) (j := k - 1 + vs.length - 2) J J g0 (fun _ => rfl) J (by decide) om J) J <| aZ J (cI ((u2 : Int)) (bZ J J J) (by rw [IntKind.wrap_u64]; omega)) J <| aZ J (fU (v := .int .u64 ((rh * 4294967296 + u2 : Nat) : Int)) J J (or_hi om om)) J <| aZ J (lB J J) J <| kS (fun h112 => ?_) (fun h112 => ?_)
 rotate_left
 ·refine aC (bU J J) J <| bJ (aT kR) J <| Ck [6,7,8,9,10,11,13,14,93,94,95,96,97,98,99,100,101,102,103,104,105,106,107,108,109,110,111,112,113] J <| bC J <| bB <| aW <| aQ J <| Ck [6,7,8,9,10,11,13,93,94,95,96,97,98,99,100,101,102,103,104,105,106,107,108,109,110,111,112] J ?_
  have hqo := lq_ok LQh hG1 (show qh < 4294967296 by omega) om
  have hql : qh < 4294967296 := by omega
  obtain ⟨q1, hq1⟩ : ∃ q1, q1 = qh := ⟨_, rfl⟩
  rw [← hq1] at hqo hql hG2 ⊢
  refine Rg 2 J <| Ua J J <| Ua J J <| Nk [6,7,8,9,10,11,13,15,16,93,94,95,96,97,98,99,100,101,102,103,104,105,106,107,108,109,110,111,112] J <| aB <| Rg 3 J <| Um J J <| aA (bO J J) J <| Um J J <| Nk [6,7,8,9,10,11,13,15,16,93,94,95,96,97,98,99,100,101,102,103,104,105,106,107,108,109,110,111,112,126,127,128] J <| aI ?_
  refine bI (α := Nat × Nat × Nat × (List Nat)) (fun ⟨i, c, b, us1⟩ => [(6, .v (.int .i64 (sh : Int))), (7, .ref (0 + 2 + 8 + 2) 1 0 us1.length), (8, .sl 1 (vs.map d32)), (9, .v (.int .i64 (vs.length : Int))), (10, .ref (0 + 2 + 8 + 9 + 3 + 4) 1 0 qs.length), (11, .v (.int .i64 ((k : Int) - 1))), (13, .v (.int .u64 (q1 : Int))), (15, .v (.int .u64 (b : Int))), (16, .v (.int .u64 (c : Int))), (126, .sl 1 (vs.map d32)), (127, .v (.int .i64 (vs.length : Int))), (128, .v (.int .i64 (i : Int)))]) (fun ⟨i, c, b, us1⟩ => [((0 + 2 + 8 + 2), { cells := (us1.map d32).flatten, sz := 1, elem := 99, st := 0 }), ((0 + 2 + 8 + 9 + 3 + 4), { cells := (qs.map d32).flatten, sz := 1, elem := 99, st := 0 })]) (fun ⟨i, c, b, us1⟩ n => i ≤ vs.length ∧ us1.length = us.length ∧ Dg 4294967296 us1 ∧ c < 4294967296 ∧ b ≤ 1 ∧ val 4294967296 us1 + 4294967296 ^ (k - 1) * (q1 * val 4294967296 (vs.take i)) = val 4294967296 us + 4294967296 ^ (k - 1 + i) * (c + b) ∧ us1.take (k - 1) = us.take (k - 1) ∧ us1.drop (k - 1 + i) = us.drop (k - 1 + i) ∧ 30 ≤ n) (fun ⟨i, c, b, us1⟩ => vs.length - i) (0, 0, 0, us) ⟨J, J, J, J, J, J, J, J, J, J, J, J, trivial⟩ ⟨g0, g1 (by decide) g0, trivial⟩ ⟨Nat.zero_le _, rfl, hud, by decide, by decide, by simp [val], rfl, rfl, om⟩ ?_
  rintro ⟨i, c, b, us1⟩ n hL
  change WC _ _ _ _ _ (_ :: _) (_ :: _) n _
  obtain ⟨hi, hl1, hd1, hc1, hb1, he1, ht1, hp1, hn32⟩ := hL
  refine Rg 1 J <| aA (bX J J) J <| bL (fun h129 => ?_) (fun h129 => ?_)
  ·refine Wn <| bF J <| aG <| aI ?_
   have hvi : vs.getD i default < 4294967296 := bR hvd om
   have hui : us1.getD (k - 1 + i) default < 4294967296 := bR hd1 om
   have hqv := gX hql hvi
   obtain ⟨p, hpe⟩ : ∃ p, p = q1 * vs.getD i default + c := ⟨_, rfl⟩
   obtain ⟨u, hue⟩ : ∃ u, u = us1.getD (k - 1 + i) default := ⟨_, rfl⟩
   have hpb : p < 18446744073709551616 := by omega
   obtain ⟨d, hde⟩ : ∃ d, d = (u + 4294967296 - p % 4294967296 - b) % 4294967296 := ⟨_, rfl⟩
   refine Rg 5 J <| Um J J <| aA (cZ J J J J J om J) J <| aA (gC J J J) J <| Ua J J <| Ua J J <| Nk [6,7,8,9,10,11,13,15,16,17,18,126,127,128] J <| Rg 7 J <| Um J J <| Um J J <| aA (cI ((vs.getD i default : Int)) (bZ J J J) (by rw [IntKind.wrap_u64]; omega)) J <| aA (cI (((q1 * vs.getD i default : Nat) : Int)) (kV J J) (by rw [← Int.natCast_mul]; omega)) J <| Um J J <| aA (cI ((p : Int)) (iR J J) om) J <| Ua J J <| Nk [6,7,8,9,10,11,13,15,17,19,126,127,128] J <| Rg 3 J <| Um J J <| aA (cI (((p / 4294967296 : Nat) : Int)) (eX (s := 32) J J om) om) J <| Ua J J <| Nk [6,7,8,9,10,11,13,15,16,17,19,126,127,128] J ?_
   refine Rg 14 J <| Um J J <| Um J J <| Um J J <| aA (cI (((k - 1 + i : Nat) : Int)) (aU J J om) om) J <| aA (bV (j := k - 1 + i) J J J J om om J) J <| aA (dP (f := d32) (us := us1) (j := k - 1 + i) J J g0 (fun _ => rfl) J (by decide) om J) J <| aA (cI ((u : Int)) (bZ J J J) (by rw [IntKind.wrap_u64]; omega)) J <| Um J J <| aA (cI (((p % 4294967296 : Nat) : Int)) (bZ J J J) (by rw [IntKind.wrap_u32]; omega)) J <| aA (cI (((p % 4294967296 : Nat) : Int)) (bZ J J J) (by rw [IntKind.wrap_u64]; omega)) J <| aA (gS J J) J <| Um J J <| aA (cI (((((u + 18446744073709551616 - p % 4294967296 - b) % 18446744073709551616) : Nat) : Int)) (gS J J) om) J <| Ua J J <| Nk [6,7,8,9,10,11,13,16,17,20,126,127,128] J <| Rg 8 J <| Um J J <| Um J J <| Um J J <| aA (cI (((k - 1 + i : Nat) : Int)) (aU J J om) om) J <| Um J J <| aA (cI ((d : Int)) (bZ J J J) (by rw [IntKind.wrap_u32]; omega)) J ?_
   refine aA (bV (j := k - 1 + i) J J J J om om J) J <| bG (fB (f := d32) (us := us1) d J J J g0 (fun _ => rfl) J J om J) <| Nk [6,7,8,9,10,11,13,16,20,126,127,128] J <| aL (z := 3) J <| Um J J <| aA (cI (((if u < p % 4294967296 + b then 1 else 0 : Nat) : Int)) (eX (s := 63) J J om) (by split <;> omega)) J <| Ua J J <| Wn <| aE <| Ck [6,7,8,9,10,11,13,15,16,126,127,128] J <| aL (z := 2) J <| aA (cI (((i + 1 : Nat) : Int)) (aU J J om) om) J <| Um J J <| Wn <| aF <| ⟨⟨i + 1, p / 4294967296, if u < p % 4294967296 + b then 1 else 0, us1.set (k - 1 + i) d⟩, ⟨rfl, congrArg some (by rw [List.length_set]), rfl, rfl, rfl, rfl, rfl, rfl, rfl, rfl, rfl, rfl, trivial⟩, ⟨g0, g1 (by decide) (g1 (by decide) g0), trivial⟩, ⟨om, by rw [List.length_set]; exact hl1, hd1.set _ om, om, by split <;> omega, ?_, by rw [cK om]; exact ht1, by rw [cS om]; exact fP hp1 om, om⟩, by show vs.length - (i + 1) < vs.length - i; omega⟩
   rw [hpe]
   exact jX he1 om (by rw [← hpe, ← hue, hde]; split <;> omega)
  refine Wn <| bC J <| bB <| aW <| aQ J ?_
  have hi' : i = vs.length := by omega
  subst hi'
  rw [List.take_of_length_le (Nat.le_refl _)] at he1
  obtain ⟨u, hue⟩ : ∃ u, u = us1.getD (k - 1 + vs.length) default := ⟨_, rfl⟩
  have hul1 : u < 4294967296 := by rw [hue]; exact bR hd1 om
  obtain ⟨d, hde⟩ : ∃ d, d = (u + 4294967296 - c - b) % 4294967296 := ⟨_, rfl⟩
  have hd4 : d < 4294967296 := by omega
  refine Rg 12 J <| Um J J <| Um J J <| Um J J <| aA (cI (((k - 1 + vs.length : Nat) : Int)) (aU J J om) om) J <| aA (bV (j := k - 1 + vs.length) J J J J om om J) J <| aA (dP (f := d32) (us := us1) (j := k - 1 + vs.length) J J g0 (fun _ => rfl) J (by decide) om J) J <| aA (cI ((u : Int)) (bZ J J J) (by rw [IntKind.wrap_u64]; omega)) J <| Um J J <| aA (gS J J) J <| Um J J <| aA (cI (((((u + 18446744073709551616 - c - b) % 18446744073709551616) : Nat) : Int)) (gS J J) om) J <| Ua J J <| Nk [6,7,8,9,10,11,13,21] J <| Rg 8 J <| Um J J <| Um J J <| Um J J <| aA (cI (((k - 1 + vs.length : Nat) : Int)) (aU J J om) om) J <| Um J J <| aA (cI ((d : Int)) (bZ J J J) (by rw [IntKind.wrap_u32]; omega)) J <| aA (bV (j := k - 1 + vs.length) J J J J om om J) J <| bG (fB (f := d32) (us := us1) d J J J g0 (fun _ => rfl) J J om J) ?_
  refine Nk [6,7,8,9,10,11,13,21] J <| aB <| Rg 3 J <| Um J J <| aA (cI (((if u < c + b then 1 else 0 : Nat) : Int)) (eX (s := 63) J J om) (by split <;> omega)) J <| aA (fS J J) J <| bL (fun h184 => ?_) (fun h184 => ?_)
  rotate_left
  ·have hneg : c + b ≤ u := by
    rcases Nat.lt_or_ge u (c + b) with h | h
    ·rw [if_pos h] at h184; simp at h184
    ·exact h
   have hs2 := iV (o := 0) (d := d) he1 om (by rw [← hue]; omega)
   rw [Nat.mul_zero, Nat.add_zero] at hs2
   refine Wn <| bC J <| aG ?_
   have hlF : (us1.set (k - 1 + vs.length) d).length = us.length := by rw [List.length_set]; exact hl1
   have hdF : Dg 4294967296 (us1.set (k - 1 + vs.length) d) := hd1.set _ hd4
   have hltF := mJ (by decide) hV0 om om (by rw [cK om]; exact ht1) hs2 hG2
   have hUF := hO (qs := qs) (j := k - 1) om (by rw [show k - 1 + 1 = k by omega]; exact hU) hs2
   refine aL (z := 6) J <| Um J J <| Um J J <| Um J J <| aA (cI ((q1 : Int)) (bZ J J J) (by rw [IntKind.wrap_u32]; omega)) J <| aA (bV (j := k - 1) J J J J om om J) J <| bG (fB (f := d32) (us := qs) q1 J J J (g1 (by decide) (g1 (by decide) g0)) (fun _ => rfl) J J om J) <| Wn <| aE <| Ck [6,7,8,9,10,11] J <| aL (z := 3) J <| Um J J <| aA (cI (((k - 1 : Nat) : Int) - 1) (cY J J om) om) J <| Ua J J <| Wn <| aF <| ⟨⟨k - 1, (us1.set (k - 1 + vs.length) d), qs.set (k - 1) q1⟩, ⟨rfl, congrArg some (by rw [List.length_set]), rfl, rfl, congrArg some (by rw [List.length_set]), rfl, trivial⟩, ⟨g1 (by decide) g0, g0, trivial⟩, ⟨by rw [hlF]; omega, by rw [hlF]; exact hul, by rw [List.length_set]; exact hql0, hdF, hqd.set _ om, hUF, hltF, om⟩, by show k - 1 < k; omega⟩
  have hneg : u < c + b := by
   rcases Nat.lt_or_ge u (c + b) with h | h
   ·exact h
   ·rw [if_neg om] at h184; simp at h184
  have hs2 := iV (o := 1) (d := d) he1 om (by rw [← hue]; omega)
  have hlT : (us1.set (k - 1 + vs.length) d).length = us.length := by rw [List.length_set]; exact hl1
  have hdT : Dg 4294967296 (us1.set (k - 1 + vs.length) d) := hd1.set _ hd4
  have htT : (us1.set (k - 1 + vs.length) d).take (k - 1) = us.take (k - 1) := by rw [cK om]; exact ht1
  have hpT : (us1.set (k - 1 + vs.length) d).drop (k - 1 + vs.length + 1) = us.drop (k - 1 + vs.length + 1) := by rw [cS om]; exact fP hp1 om
  obtain ⟨hgt, hq1p⟩ := neg_gt (by decide) hdT om hlT hRB hpT htT hs2
  refine Wn <| bF J <| aB <| Rg 3 J <| Um J J <| aA (cI (((q1 - 1 : Nat) : Int)) (gS J J) om) J <| Ua J J <| Wn <| aB <| Rg 1 J <| Ua J J <| Wn <| aB <| aB <| Rg 3 J <| Um J J <| aA (bO J J) J <| Um J J <| Nk [6,7,8,9,10,11,13,22,187,188,189] J <| aI <| bI (α := Nat × Nat × (List Nat)) (fun ⟨i2, c2, us3⟩ => [(6, .v (.int .i64 (sh : Int))), (7, .ref (0 + 2 + 8 + 2) 1 0 us3.length), (8, .sl 1 (vs.map d32)), (9, .v (.int .i64 (vs.length : Int))), (10, .ref (0 + 2 + 8 + 9 + 3 + 4) 1 0 qs.length), (11, .v (.int .i64 ((k : Int) - 1))), (13, .v (.int .u64 ((q1 - 1 : Nat) : Int))), (22, .v (.int .u32 (c2 : Int))), (187, .sl 1 (vs.map d32)), (188, .v (.int .i64 (vs.length : Int))), (189, .v (.int .i64 (i2 : Int)))]) (fun ⟨i2, c2, us3⟩ => [((0 + 2 + 8 + 2), { cells := (us3.map d32).flatten, sz := 1, elem := 99, st := 0 }), ((0 + 2 + 8 + 9 + 3 + 4), { cells := (qs.map d32).flatten, sz := 1, elem := 99, st := 0 })]) (fun ⟨i2, c2, us3⟩ n => i2 ≤ vs.length ∧ us3.length = us.length ∧ Dg 4294967296 us3 ∧ c2 ≤ 1 ∧ val 4294967296 us3 + 4294967296 ^ (k - 1 + i2) * c2 = val 4294967296 (us1.set (k - 1 + vs.length) d) + 4294967296 ^ (k - 1) * val 4294967296 (vs.take i2) ∧ us3.take (k - 1) = us.take (k - 1) ∧ us3.drop (k - 1 + vs.length) = (us1.set (k - 1 + vs.length) d).drop (k - 1 + vs.length) ∧ 30 ≤ n) (fun ⟨i2, c2, us3⟩ => vs.length - i2) (0, 0, (us1.set (k - 1 + vs.length) d)) ⟨rfl, congrArg some (by rw [List.length_set]), rfl, rfl, rfl, rfl, rfl, rfl, rfl, rfl, rfl, trivial⟩ ⟨g0, g1 (by decide) (g1 (by decide) g0), trivial⟩ ⟨Nat.zero_le _, hlT, hdT, by decide, by simp [val], htT, rfl, om⟩ ?_
  rintro ⟨i2, c2, us3⟩ n hM
  change WC _ _ _ _ _ (_ :: _) (_ :: _) n _
  obtain ⟨hi2, hl3, hd3, hc3, he3, ht3, hp3, hn33⟩ := hM
  refine Rg 1 J <| aA (bX J J) J <| bL (fun h190 => ?_) (fun h190 => ?_)
  ·refine Wn <| bF J <| aG <| aI <| Rg 5 J <| Um J J <| aA (cZ J J J J J om J) J <| aA (gC J J J) J <| Ua J J <| Ua J J <| Nk [6,7,8,9,10,11,13,22,23,24,187,188,189] J ?_
   have hu3 : us3.getD (k - 1 + i2) default < 4294967296 := bR hd3 om
   have hv3 : vs.getD i2 default < 4294967296 := bR hvd om
   refine aL (z := 19) J <| Um J J <| Um J J <| Um J J <| aA (cI (((k - 1 + i2 : Nat) : Int)) (aU J J om) om) J <| Um J J <| Um J J <| Um J J <| aA (cI (((k - 1 + i2 : Nat) : Int)) (aU J J om) om) J <| aA (bV (j := k - 1 + i2) J J J J om om J) J <| aA (dP (f := d32) (us := us3) (j := k - 1 + i2) J J g0 (fun _ => rfl) J (by decide) om J) J <| Um J J <| Um J J <| aA (aJ J (iM (us3.getD (k - 1 + i2) default) (vs.getD i2 default) c2 hu3 hv3 hc3) (by simp)) J <| Um J J <| aA (fD J J) J <| aA (fD J J) J <| aA (bV (j := k - 1 + i2) J J J J om om J) J <| bG (fB (f := d32) (us := us3) ((us3.getD (k - 1 + i2) default + vs.getD i2 default + c2) % 4294967296) J J J g0 (fun _ => rfl) J J om J) <| Ua J J <| Wn <| aE <| Ck [6,7,8,9,10,11,13,22,187,188,189] J <| aL (z := 2) J ?_
   refine aA (cI (((i2 + 1 : Nat) : Int)) (aU J J om) om) J <| Um J J <| Wn <| aF <| ⟨⟨i2 + 1, _, us3.set (k - 1 + i2) ((us3.getD (k - 1 + i2) default + vs.getD i2 default + c2) % 4294967296)⟩, ⟨rfl, congrArg some (by rw [List.length_set]), rfl, rfl, rfl, rfl, rfl, rfl, rfl, rfl, rfl, trivial⟩, ⟨g0, g1 (by decide) (g1 (by decide) g0), trivial⟩, ⟨om, by rw [List.length_set]; exact hl3, hd3.set _ om, om, iY he3 om, by rw [cK om]; exact ht3, by rw [cS om]; exact hp3, om⟩, by show vs.length - (i2 + 1) < vs.length - i2; omega⟩
  refine Wn <| bC J <| bB <| aW <| aQ J ?_
  have hi' : i2 = vs.length := by omega
  subst hi'
  rw [List.take_of_length_le (Nat.le_refl _)] at he3
  have hu3 : us3.getD (k - 1 + vs.length) default < 4294967296 := bR hd3 om
  refine Rg 10 J <| Um J J <| Um J J <| Um J J <| aA (cI (((k - 1 + vs.length : Nat) : Int)) (aU J J om) om) J <| aA (bV (j := k - 1 + vs.length) J J J J om om J) J <| aA (dP (f := d32) (us := us3) (j := k - 1 + vs.length) J J g0 (fun _ => rfl) J (by decide) om J) J <| Um J J <| aA (cI ((((us3.getD (k - 1 + vs.length) default + c2) % 4294967296 : Nat) : Int)) (oAdd32 J J) om) J <| aA (bV (j := k - 1 + vs.length) J J J J om om J) J <| bG (fB (f := d32) (us := us3) ((us3.getD (k - 1 + vs.length) default + c2) % 4294967296) J J J g0 (fun _ => rfl) J J om J) <| Nk [6,7,8,9,10,11,13] J ?_
  have hlF : (us3.set (k - 1 + vs.length) ((us3.getD (k - 1 + vs.length) default + c2) % 4294967296)).length = us.length := by rw [List.length_set]; exact hl3
  have hdF : Dg 4294967296 (us3.set (k - 1 + vs.length) ((us3.getD (k - 1 + vs.length) default + c2) % 4294967296)) := hd3.set _ om
  have h4 := iX he3 om
  obtain ⟨hs4, hltF⟩ := oD (by decide) hV0 hdF om hlF hRB (by rw [cS om]; exact (fP hp3 om).trans hpT) (by rw [cK om]; exact ht3) hs2 h4 hG2 hq1p hqo hgt om
  have hUF := hO (qs := qs) (j := k - 1) om (by rw [show k - 1 + 1 = k by omega]; exact hU) hs4
  refine aL (z := 6) J <| Um J J <| Um J J <| Um J J <| aA (cI (((q1 - 1 : Nat) : Int)) (bZ J J J) (by rw [IntKind.wrap_u32]; omega)) J <| aA (bV (j := k - 1) J J J J om om J) J <| bG (fB (f := d32) (us := qs) (q1 - 1) J J J (g1 (by decide) (g1 (by decide) g0)) (fun _ => rfl) J J om J) <| Wn <| aE <| aL (z := 3) J <| Um J J <| aA (cI (((k - 1 : Nat) : Int) - 1) (cY J J om) om) J <| Ua J J <| Wn <| aF <| ⟨⟨k - 1, (us3.set (k - 1 + vs.length) ((us3.getD (k - 1 + vs.length) default + c2) % 4294967296)), qs.set (k - 1) (q1 - 1)⟩, ⟨rfl, congrArg some (by rw [List.length_set]), rfl, rfl, congrArg some (by rw [List.length_set]), rfl, trivial⟩, ⟨g1 (by decide) g0, g0, trivial⟩, ⟨by rw [hlF]; omega, by rw [hlF]; exact hul, by rw [List.length_set]; exact hql0, hdF, hqd.set _ om, hUF, hltF, om⟩, by show k - 1 < k; omega⟩
 refine aC (bU J J) J <| bJ (aT kR) J <| Ck [6,7,8,9,10,11,13,14,93,94,95,96,97,98,99,100,101,102,103,104,105,106,107,108,109,110,111,112,113] J <| bF J <| aG <| dM ?_
 obtain ⟨hdc1, hdc2⟩ := lq_dec LQh hG1 hG2 (by first | exact .inl om | exact .inr om)
 refine Rg 3 J <| Um J J <| aA (cI (((qh - 1 : Nat) : Int)) (gS J J) om) J <| Ua J J <| Nk [6,7,8,9,10,11,13,14,93,94,95,96,97,98,99,100,101,102,103,104,105,106,107,108,109,110,111,112] J <| Rg 9 J <| Um J J <| Um J J <| Um J J <| aA (cY J J om) J <| aA (cZ (j := vs.length - 1) J J J J om om J) J <| aA (gC J J J) J <| aA (cI ((v1 : Int)) (bZ J J J) (by rw [IntKind.wrap_u64]; omega)) J <| aA (cI (((rh + v1 : Nat) : Int)) (iR J J) om) J <| Ua J J <| Nk [6,7,8,9,10,11,13,14,93,94,95,96,97,98,99,100,101,102,103,104,105,106,107,108,109,110,111,112] J <| Rg 2 J <| Um J J <| aA (iT J J) J <| bL (fun h125 => ?_) (fun h125 => ?_)
 rotate_left
 ·refine Nk [6,7,8,9,10,11,13,14,93,94,95,96,97,98,99,100,101,102,103,104,105,106,107,108,109,110,111,112,125] J <| cD J <| cE <| gJ <| aF <| ⟨⟨qh - 1, rh + v1⟩, ⟨J, J, J, J, J, J, J, J, trivial⟩, ⟨g0, g1 (by decide) g0, trivial⟩, ⟨dec_eq hG1 hdc1, hdc2, om, om, om⟩, by show qh - 1 < qh; omega⟩
 refine Nk [6,7,8,9,10,11,13,14,93,94,95,96,97,98,99,100,101,102,103,104,105,106,107,108,109,110,111,112,125] J <| cU J <| nO <| lH J <| aW <| aQ J <| Ck [6,7,8,9,10,11,13,93,94,95,96,97,98,99,100,101,102,103,104,105,106,107,108,109,110,111,112] J ?_
 obtain ⟨hql, hqo⟩ := lq_break LQh hG1 hdc1 hG4 om hG3
 replace hG2 := hdc2
 obtain ⟨q1, hq1⟩ : ∃ q1, q1 = qh - 1 := ⟨_, rfl⟩
 rw [← hq1] at hqo hql hG2 ⊢
 refine Rg 2 J <| Ua J J <| Ua J J <| Nk [6,7,8,9,10,11,13,15,16,93,94,95,96,97,98,99,100,101,102,103,104,105,106,107,108,109,110,111,112] J <| aB <| Rg 3 J <| Um J J <| aA (bO J J) J <| Um J J <| Nk [6,7,8,9,10,11,13,15,16,93,94,95,96,97,98,99,100,101,102,103,104,105,106,107,108,109,110,111,112,126,127,128] J <| aI ?_
 refine bI (α := Nat × Nat × Nat × (List Nat)) (fun ⟨i, c, b, us1⟩ => [(6, .v (.int .i64 (sh : Int))), (7, .ref (0 + 2 + 8 + 2) 1 0 us1.length), (8, .sl 1 (vs.map d32)), (9, .v (.int .i64 (vs.length : Int))), (10, .ref (0 + 2 + 8 + 9 + 3 + 4) 1 0 qs.length), (11, .v (.int .i64 ((k : Int) - 1))), (13, .v (.int .u64 (q1 : Int))), (15, .v (.int .u64 (b : Int))), (16, .v (.int .u64 (c : Int))), (126, .sl 1 (vs.map d32)), (127, .v (.int .i64 (vs.length : Int))), (128, .v (.int .i64 (i : Int)))]) (fun ⟨i, c, b, us1⟩ => [((0 + 2 + 8 + 2), { cells := (us1.map d32).flatten, sz := 1, elem := 99, st := 0 }), ((0 + 2 + 8 + 9 + 3 + 4), { cells := (qs.map d32).flatten, sz := 1, elem := 99, st := 0 })]) (fun ⟨i, c, b, us1⟩ n => i ≤ vs.length ∧ us1.length = us.length ∧ Dg 4294967296 us1 ∧ c < 4294967296 ∧ b ≤ 1 ∧ val 4294967296 us1 + 4294967296 ^ (k - 1) * (q1 * val 4294967296 (vs.take i)) = val 4294967296 us + 4294967296 ^ (k - 1 + i) * (c + b) ∧ us1.take (k - 1) = us.take (k - 1) ∧ us1.drop (k - 1 + i) = us.drop (k - 1 + i) ∧ 30 ≤ n) (fun ⟨i, c, b, us1⟩ => vs.length - i) (0, 0, 0, us) ⟨J, J, J, J, J, J, J, J, J, J, J, J, trivial⟩ ⟨g0, g1 (by decide) g0, trivial⟩ ⟨Nat.zero_le _, rfl, hud, by decide, by decide, by simp [val], rfl, rfl, om⟩ ?_
 rintro ⟨i, c, b, us1⟩ n hL
 change WC _ _ _ _ _ (_ :: _) (_ :: _) n _
 obtain ⟨hi, hl1, hd1, hc1, hb1, he1, ht1, hp1, hn32⟩ := hL
 refine Rg 1 J <| aA (bX J J) J <| bL (fun h129 => ?_) (fun h129 => ?_)
 ·refine Wn <| bF J <| aG <| aI ?_
  have hvi : vs.getD i default < 4294967296 := bR hvd om
  have hui : us1.getD (k - 1 + i) default < 4294967296 := bR hd1 om
  have hqv := gX hql hvi
  obtain ⟨p, hpe⟩ : ∃ p, p = q1 * vs.getD i default + c := ⟨_, rfl⟩
  obtain ⟨u, hue⟩ : ∃ u, u = us1.getD (k - 1 + i) default := ⟨_, rfl⟩
  have hpb : p < 18446744073709551616 := by omega
  obtain ⟨d, hde⟩ : ∃ d, d = (u + 4294967296 - p % 4294967296 - b) % 4294967296 := ⟨_, rfl⟩
  refine Rg 5 J <| Um J J <| aA (cZ J J J J J om J) J <| aA (gC J J J) J <| Ua J J <| Ua J J <| Nk [6,7,8,9,10,11,13,15,16,17,18,126,127,128] J <| Rg 7 J <| Um J J <| Um J J <| aA (cI ((vs.getD i default : Int)) (bZ J J J) (by rw [IntKind.wrap_u64]; omega)) J <| aA (cI (((q1 * vs.getD i default : Nat) : Int)) (kV J J) (by rw [← Int.natCast_mul]; omega)) J <| Um J J <| aA (cI ((p : Int)) (iR J J) om) J <| Ua J J <| Nk [6,7,8,9,10,11,13,15,17,19,126,127,128] J <| Rg 3 J <| Um J J <| aA (cI (((p / 4294967296 : Nat) : Int)) (eX (s := 32) J J om) om) J <| Ua J J <| Nk [6,7,8,9,10,11,13,15,16,17,19,126,127,128] J ?_
  refine Rg 14 J <| Um J J <| Um J J <| Um J J <| aA (cI (((k - 1 + i : Nat) : Int)) (aU J J om) om) J <| aA (bV (j := k - 1 + i) J J J J om om J) J <| aA (dP (f := d32) (us := us1) (j := k - 1 + i) J J g0 (fun _ => rfl) J (by decide) om J) J <| aA (cI ((u : Int)) (bZ J J J) (by rw [IntKind.wrap_u64]; omega)) J <| Um J J <| aA (cI (((p % 4294967296 : Nat) : Int)) (bZ J J J) (by rw [IntKind.wrap_u32]; omega)) J <| aA (cI (((p % 4294967296 : Nat) : Int)) (bZ J J J) (by rw [IntKind.wrap_u64]; omega)) J <| aA (gS J J) J <| Um J J <| aA (cI (((((u + 18446744073709551616 - p % 4294967296 - b) % 18446744073709551616) : Nat) : Int)) (gS J J) om) J <| Ua J J <| Nk [6,7,8,9,10,11,13,16,17,20,126,127,128] J <| Rg 8 J <| Um J J <| Um J J <| Um J J <| aA (cI (((k - 1 + i : Nat) : Int)) (aU J J om) om) J <| Um J J <| aA (cI ((d : Int)) (bZ J J J) (by rw [IntKind.wrap_u32]; omega)) J ?_
  refine aA (bV (j := k - 1 + i) J J J J om om J) J <| bG (fB (f := d32) (us := us1) d J J J g0 (fun _ => rfl) J J om J) <| Nk [6,7,8,9,10,11,13,16,20,126,127,128] J <| aL (z := 3) J <| Um J J <| aA (cI (((if u < p % 4294967296 + b then 1 else 0 : Nat) : Int)) (eX (s := 63) J J om) (by split <;> omega)) J <| Ua J J <| Wn <| aE <| Ck [6,7,8,9,10,11,13,15,16,126,127,128] J <| aL (z := 2) J <| aA (cI (((i + 1 : Nat) : Int)) (aU J J om) om) J <| Um J J <| Wn <| aF <| ⟨⟨i + 1, p / 4294967296, if u < p % 4294967296 + b then 1 else 0, us1.set (k - 1 + i) d⟩, ⟨rfl, congrArg some (by rw [List.length_set]), rfl, rfl, rfl, rfl, rfl, rfl, rfl, rfl, rfl, rfl, trivial⟩, ⟨g0, g1 (by decide) (g1 (by decide) g0), trivial⟩, ⟨om, by rw [List.length_set]; exact hl1, hd1.set _ om, om, by split <;> omega, ?_, by rw [cK om]; exact ht1, by rw [cS om]; exact fP hp1 om, om⟩, by show vs.length - (i + 1) < vs.length - i; omega⟩
  rw [hpe]
  exact jX he1 om (by rw [← hpe, ← hue, hde]; split <;> omega)
 refine Wn <| bC J <| bB <| aW <| aQ J ?_
 have hi' : i = vs.length := by omega
 subst hi'
 rw [List.take_of_length_le (Nat.le_refl _)] at he1
 obtain ⟨u, hue⟩ : ∃ u, u = us1.getD (k - 1 + vs.length) default := ⟨_, rfl⟩
 have hul1 : u < 4294967296 := by rw [hue]; exact bR hd1 om
 obtain ⟨d, hde⟩ : ∃ d, d = (u + 4294967296 - c - b) % 4294967296 := ⟨_, rfl⟩
 have hd4 : d < 4294967296 := by omega
 refine Rg 12 J <| Um J J <| Um J J <| Um J J <| aA (cI (((k - 1 + vs.length : Nat) : Int)) (aU J J om) om) J <| aA (bV (j := k - 1 + vs.length) J J J J om om J) J <| aA (dP (f := d32) (us := us1) (j := k - 1 + vs.length) J J g0 (fun _ => rfl) J (by decide) om J) J <| aA (cI ((u : Int)) (bZ J J J) (by rw [IntKind.wrap_u64]; omega)) J <| Um J J <| aA (gS J J) J <| Um J J <| aA (cI (((((u + 18446744073709551616 - c - b) % 18446744073709551616) : Nat) : Int)) (gS J J) om) J <| Ua J J <| Nk [6,7,8,9,10,11,13,21] J <| Rg 8 J <| Um J J <| Um J J <| Um J J <| aA (cI (((k - 1 + vs.length : Nat) : Int)) (aU J J om) om) J <| Um J J <| aA (cI ((d : Int)) (bZ J J J) (by rw [IntKind.wrap_u32]; omega)) J <| aA (bV (j := k - 1 + vs.length) J J J J om om J) J <| bG (fB (f := d32) (us := us1) d J J J g0 (fun _ => rfl) J J om J) ?_
 refine Nk [6,7,8,9,10,11,13,21] J <| aB <| Rg 3 J <| Um J J <| aA (cI (((if u < c + b then 1 else 0 : Nat) : Int)) (eX (s := 63) J J om) (by split <;> omega)) J <| aA (fS J J) J <| bL (fun h184 => ?_) (fun h184 => ?_)
 rotate_left
 ·have hneg : c + b ≤ u := by
   rcases Nat.lt_or_ge u (c + b) with h | h
   ·rw [if_pos h] at h184; simp at h184
   ·exact h
  have hs2 := iV (o := 0) (d := d) he1 om (by rw [← hue]; omega)
  rw [Nat.mul_zero, Nat.add_zero] at hs2
  refine Wn <| bC J <| aG ?_
  have hlF : (us1.set (k - 1 + vs.length) d).length = us.length := by rw [List.length_set]; exact hl1
  have hdF : Dg 4294967296 (us1.set (k - 1 + vs.length) d) := hd1.set _ hd4
  have hltF := mJ (by decide) hV0 om om (by rw [cK om]; exact ht1) hs2 hG2
  have hUF := hO (qs := qs) (j := k - 1) om (by rw [show k - 1 + 1 = k by omega]; exact hU) hs2
  refine aL (z := 6) J <| Um J J <| Um J J <| Um J J <| aA (cI ((q1 : Int)) (bZ J J J) (by rw [IntKind.wrap_u32]; omega)) J <| aA (bV (j := k - 1) J J J J om om J) J <| bG (fB (f := d32) (us := qs) q1 J J J (g1 (by decide) (g1 (by decide) g0)) (fun _ => rfl) J J om J) <| Wn <| aE <| Ck [6,7,8,9,10,11] J <| aL (z := 3) J <| Um J J <| aA (cI (((k - 1 : Nat) : Int) - 1) (cY J J om) om) J <| Ua J J <| Wn <| aF <| ⟨⟨k - 1, (us1.set (k - 1 + vs.length) d), qs.set (k - 1) q1⟩, ⟨rfl, congrArg some (by rw [List.length_set]), rfl, rfl, congrArg some (by rw [List.length_set]), rfl, trivial⟩, ⟨g1 (by decide) g0, g0, trivial⟩, ⟨by rw [hlF]; omega, by rw [hlF]; exact hul, by rw [List.length_set]; exact hql0, hdF, hqd.set _ om, hUF, hltF, om⟩, by show k - 1 < k; omega⟩
 have hneg : u < c + b := by
  rcases Nat.lt_or_ge u (c + b) with h | h
  ·exact h
  ·rw [if_neg om] at h184; simp at h184
 have hs2 := iV (o := 1) (d := d) he1 om (by rw [← hue]; omega)
 have hlT : (us1.set (k - 1 + vs.length) d).length = us.length := by rw [List.length_set]; exact hl1
 have hdT : Dg 4294967296 (us1.set (k - 1 + vs.length) d) := hd1.set _ hd4
 have htT : (us1.set (k - 1 + vs.length) d).take (k - 1) = us.take (k - 1) := by rw [cK om]; exact ht1
 have hpT : (us1.set (k - 1 + vs.length) d).drop (k - 1 + vs.length + 1) = us.drop (k - 1 + vs.length + 1) := by rw [cS om]; exact fP hp1 om
 obtain ⟨hgt, hq1p⟩ := neg_gt (by decide) hdT om hlT hRB hpT htT hs2
 refine Wn <| bF J <| aB <| Rg 3 J <| Um J J <| aA (cI (((q1 - 1 : Nat) : Int)) (gS J J) om) J <| Ua J J <| Wn <| aB <| Rg 1 J <| Ua J J <| Wn <| aB <| aB <| Rg 3 J <| Um J J <| aA (bO J J) J <| Um J J <| Nk [6,7,8,9,10,11,13,22,187,188,189] J <| aI <| bI (α := Nat × Nat × (List Nat)) (fun ⟨i2, c2, us3⟩ => [(6, .v (.int .i64 (sh : Int))), (7, .ref (0 + 2 + 8 + 2) 1 0 us3.length), (8, .sl 1 (vs.map d32)), (9, .v (.int .i64 (vs.length : Int))), (10, .ref (0 + 2 + 8 + 9 + 3 + 4) 1 0 qs.length), (11, .v (.int .i64 ((k : Int) - 1))), (13, .v (.int .u64 ((q1 - 1 : Nat) : Int))), (22, .v (.int .u32 (c2 : Int))), (187, .sl 1 (vs.map d32)), (188, .v (.int .i64 (vs.length : Int))), (189, .v (.int .i64 (i2 : Int)))]) (fun ⟨i2, c2, us3⟩ => [((0 + 2 + 8 + 2), { cells := (us3.map d32).flatten, sz := 1, elem := 99, st := 0 }), ((0 + 2 + 8 + 9 + 3 + 4), { cells := (qs.map d32).flatten, sz := 1, elem := 99, st := 0 })]) (fun ⟨i2, c2, us3⟩ n => i2 ≤ vs.length ∧ us3.length = us.length ∧ Dg 4294967296 us3 ∧ c2 ≤ 1 ∧ val 4294967296 us3 + 4294967296 ^ (k - 1 + i2) * c2 = val 4294967296 (us1.set (k - 1 + vs.length) d) + 4294967296 ^ (k - 1) * val 4294967296 (vs.take i2) ∧ us3.take (k - 1) = us.take (k - 1) ∧ us3.drop (k - 1 + vs.length) = (us1.set (k - 1 + vs.length) d).drop (k - 1 + vs.length) ∧ 30 ≤ n) (fun ⟨i2, c2, us3⟩ => vs.length - i2) (0, 0, (us1.set (k - 1 + vs.length) d)) ⟨rfl, congrArg some (by rw [List.length_set]), rfl, rfl, rfl, rfl, rfl, rfl, rfl, rfl, rfl, trivial⟩ ⟨g0, g1 (by decide) (g1 (by decide) g0), trivial⟩ ⟨Nat.zero_le _, hlT, hdT, by decide, by simp [val], htT, rfl, om⟩ ?_
 rintro ⟨i2, c2, us3⟩ n hM
 change WC _ _ _ _ _ (_ :: _) (_ :: _) n _
 obtain ⟨hi2, hl3, hd3, hc3, he3, ht3, hp3, hn33⟩ := hM
 refine Rg 1 J <| aA (bX J J) J <| bL (fun h190 => ?_) (fun h190 => ?_)
 ·refine Wn <| bF J <| aG <| aI <| Rg 5 J <| Um J J <| aA (cZ J J J J J om J) J <| aA (gC J J J) J <| Ua J J <| Ua J J <| Nk [6,7,8,9,10,11,13,22,23,24,187,188,189] J ?_
  have hu3 : us3.getD (k - 1 + i2) default < 4294967296 := bR hd3 om
  have hv3 : vs.getD i2 default < 4294967296 := bR hvd om
  refine aL (z := 19) J <| Um J J <| Um J J <| Um J J <| aA (cI (((k - 1 + i2 : Nat) : Int)) (aU J J om) om) J <| Um J J <| Um J J <| Um J J <| aA (cI (((k - 1 + i2 : Nat) : Int)) (aU J J om) om) J <| aA (bV (j := k - 1 + i2) J J J J om om J) J <| aA (dP (f := d32) (us := us3) (j := k - 1 + i2) J J g0 (fun _ => rfl) J (by decide) om J) J <| Um J J <| Um J J <| aA (aJ J (iM (us3.getD (k - 1 + i2) default) (vs.getD i2 default) c2 hu3 hv3 hc3) (by simp)) J <| Um J J <| aA (fD J J) J <| aA (fD J J) J <| aA (bV (j := k - 1 + i2) J J J J om om J) J <| bG (fB (f := d32) (us := us3) ((us3.getD (k - 1 + i2) default + vs.getD i2 default + c2) % 4294967296) J J J g0 (fun _ => rfl) J J om J) <| Ua J J <| Wn <| aE <| Ck [6,7,8,9,10,11,13,22,187,188,189] J <| aL (z := 2) J ?_
  refine aA (cI (((i2 + 1 : Nat) : Int)) (aU J J om) om) J <| Um J J <| Wn <| aF <| ⟨⟨i2 + 1, _, us3.set (k - 1 + i2) ((us3.getD (k - 1 + i2) default + vs.getD i2 default + c2) % 4294967296)⟩, ⟨rfl, congrArg some (by rw [List.length_set]), rfl, rfl, rfl, rfl, rfl, rfl, rfl, rfl, rfl, trivial⟩, ⟨g0, g1 (by decide) (g1 (by decide) g0), trivial⟩, ⟨om, by rw [List.length_set]; exact hl3, hd3.set _ om, om, iY he3 om, by rw [cK om]; exact ht3, by rw [cS om]; exact hp3, om⟩, by show vs.length - (i2 + 1) < vs.length - i2; omega⟩
 refine Wn <| bC J <| bB <| aW <| aQ J ?_
 have hi' : i2 = vs.length := by omega
 subst hi'
 rw [List.take_of_length_le (Nat.le_refl _)] at he3
 have hu3 : us3.getD (k - 1 + vs.length) default < 4294967296 := bR hd3 om
 refine Rg 10 J <| Um J J <| Um J J <| Um J J <| aA (cI (((k - 1 + vs.length : Nat) : Int)) (aU J J om) om) J <| aA (bV (j := k - 1 + vs.length) J J J J om om J) J <| aA (dP (f := d32) (us := us3) (j := k - 1 + vs.length) J J g0 (fun _ => rfl) J (by decide) om J) J <| Um J J <| aA (cI ((((us3.getD (k - 1 + vs.length) default + c2) % 4294967296 : Nat) : Int)) (oAdd32 J J) om) J <| aA (bV (j := k - 1 + vs.length) J J J J om om J) J <| bG (fB (f := d32) (us := us3) ((us3.getD (k - 1 + vs.length) default + c2) % 4294967296) J J J g0 (fun _ => rfl) J J om J) <| Nk [6,7,8,9,10,11,13] J ?_
 have hlF : (us3.set (k - 1 + vs.length) ((us3.getD (k - 1 + vs.length) default + c2) % 4294967296)).length = us.length := by rw [List.length_set]; exact hl3
 have hdF : Dg 4294967296 (us3.set (k - 1 + vs.length) ((us3.getD (k - 1 + vs.length) default + c2) % 4294967296)) := hd3.set _ om
 have h4 := iX he3 om
 obtain ⟨hs4, hltF⟩ := oD (by decide) hV0 hdF om hlF hRB (by rw [cS om]; exact (fP hp3 om).trans hpT) (by rw [cK om]; exact ht3) hs2 h4 hG2 hq1p hqo hgt om
 have hUF := hO (qs := qs) (j := k - 1) om (by rw [show k - 1 + 1 = k by omega]; exact hU) hs4
 refine aL (z := 6) J <| Um J J <| Um J J <| Um J J <| aA (cI (((q1 - 1 : Nat) : Int)) (bZ J J J) (by rw [IntKind.wrap_u32]; omega)) J <| aA (bV (j := k - 1) J J J J om om J) J <| bG (fB (f := d32) (us := qs) (q1 - 1) J J J (g1 (by decide) (g1 (by decide) g0)) (fun _ => rfl) J J om J) <| Wn <| aE <| aL (z := 3) J <| Um J J <| aA (cI (((k - 1 : Nat) : Int) - 1) (cY J J om) om) J <| Ua J J <| Wn <| aF <| ⟨⟨k - 1, (us3.set (k - 1 + vs.length) ((us3.getD (k - 1 + vs.length) default + c2) % 4294967296)), qs.set (k - 1) (q1 - 1)⟩, ⟨rfl, congrArg some (by rw [List.length_set]), rfl, rfl, congrArg some (by rw [List.length_set]), rfl, trivial⟩, ⟨g1 (by decide) g0, g0, trivial⟩, ⟨by rw [hlF]; omega, by rw [hlF]; exact hul, by rw [List.length_set]; exact hql0, hdF, hqd.set _ om, hUF, hltF, om⟩, by show k - 1 < k; omega⟩
end Go.Proofs.Ytohfklpfeilcpaa
set_option maxHeartbeats 1000000
namespace Go.Proofs.Ytohfklpfeilcpaa
open Go.Ab Go.RowKit
theorem lV (v w : Int) (hw0 : w ≠ 0) (hv : len32 v < 549755813888) (hw : len32 w < 549755813888) : Run Try.prog T E0 (.call 75 [lvI v, lvI w] (.tup [lvI (v.tdiv w), lvI (v.tmod w)])) := by
 obtain ⟨xs, hxs, dv, qv, tv, lxv⟩ := xs_of v
 obtain ⟨ys, hys, dw, qw, tw, lyw⟩ := xs_of w
 have bv := nC v
 have bw := nC w
 have hwa : 0 < w.natAbs := by omega
 have hyl : 0 < ys.length := by
  rcases Nat.eq_zero_or_pos ys.length with h | h
  ·rw [List.length_eq_zero_iff.1 h] at dw; simp [val] at dw; omega
  ·exact h
 refine bM Try.func75 J J (dK J) ?_
 have J3 : ∀  (n : Nat) , WC Try.prog T E0 Try.f75.ntmps (codeR (codeR (codeOf Try.f75))) [(2, .ptr 0 0), (3, .ptr 1 0), (4, .ptr 2 0), (5, .ptr 3 0)] [(3, { cells := [.v (.int .i64 0), .sl 0 []], sz := 2, elem := 44, st := 0 }), (2, { cells := [.v (.int .i64 0), .sl 0 []], sz := 2, elem := 44, st := 0 }), (1, { cells := (lvI w).cells, sz := 2, elem := 44, st := 0 }), (0, { cells := (lvI v).cells, sz := 2, elem := 44, st := 0 })] n (Post T Try.f75.results.toList (.tup [lvI (v.tdiv w), lvI (v.tmod w)])) := by
  intro  n
  refine Rg 7 J <| aA (aH (l := .agg [_, _]) J J J J J) J <| aA (aJ J ((hxs ▸ fG v)) (by simp)) J <| Um J J <| aA (fD J J) J <| aA (fD J J) J <| Ua J J <| Ua J J <| Wn <| Rg 7 J <| aA (aH (l := .agg [_, _]) J J J J J) J <| aA (aJ J ((hys ▸ fG w)) (by simp)) J <| Um J J <| aA (fD J J) J <| aA (fD J J) J <| Ua J J <| Ua J J <| Nk [2,4,5,6,7,8,9] J <| aB <| Rg 4 J <| Um J J <| Um J J <| aA (aJ J (jR 1 1 xs ys qv qw tv tw om om) (by simp)) J ?_
  refine aA (bX J J) J <| bL (fun h47 => ?_) (fun h47 => ?_)
  ·refine Wn <| bF J <| aB <| bS (z := 4) J kR <| aC (iF (cs := [_, _]) J J J J J) J <| aC (aH (l := .agg [_, _]) J J J J J) J <| cN (cV (cs' := [_, _]) J J J J J J J J) <| cN (cV (cs' := [_, _]) J J J J J J J J) <| bJ (aT kR) J <| bQ <| post (n := 0) (.inr J) J ?_ (by simp)
   obtain ⟨e1, e2⟩ := quo_small (v := v) (w := w) (by have := Int.sign_neg_iff.1 (show ((val 4294967296 xs : Int) - val 4294967296 ys).sign < 0 from h47); omega)
   rw [e1, e2]; rfl
  refine Wn <| bC J <| aG <| aB ?_
  have hge : val 4294967296 ys ≤ val 4294967296 xs := by
   rcases Nat.lt_or_ge (val 4294967296 xs) (val 4294967296 ys) with h | h
   ·exact absurd (Int.sign_neg_iff.2 (show (val 4294967296 xs : Int) - val 4294967296 ys < 0 by omega)) h47
   ·exact h
  have hv0 : v ≠ 0 := by omega
  have hpm := sign_pm hv0 hw0
  have hp1 := sign_1 hv0
  have hll : ys.length ≤ xs.length := by
   rcases Nat.lt_or_ge xs.length ys.length with h | h
   ·have := fW (by decide) qv tw h; omega
   ·exact h
  obtain ⟨σ, hσ⟩ : ∃ σ, σ = v.sign * w.sign := ⟨_, rfl⟩
  rw [← hσ] at hpm
  refine Rg 3 J <| Um J J <| aA (bO J J) J <| aA (fS J J) J <| bL (fun h52 => ?_) (fun h52 => ?_)
  rotate_left
  ·refine Wn <| bC J <| aG ?_
   have hy2 : 2 ≤ ys.length := by omega
   obtain ⟨r, hr, qs, rs, rfl, hqd, hrd, hval, hrest, hql, hrl⟩ := long_run 1 1 xs ys qv qw tw hy2 hll om
   obtain ⟨hq1, hq2⟩ := rC (v := v) (w := w) (q := val 4294967296 qs) (r := val 4294967296 rs) (by rw [← dw, ← dv]; exact hval) (by rw [← dw]; exact hrest)
   refine Rg 8 J <| Um J J <| Um J J <| aA (aJ J (hr) (by simp)) J <| Um J J <| aA (fD J J) J <| aA (fD J J) J <| Ua J J <| Ua J J <| Nk [4,5,6,8,12,13] J <| Rg 10 J <| Um J J <| Um J J <| aA (cI σ (lC J J (by rw [← hσ]; omega)) hσ.symm) J <| Um J J <| aA (aJ J (fJ σ 1 qs om (.inl J) hqd om) (by simp)) J <| Um J J <| Um J J <| aA (aJ J (fJ v.sign 1 rs om (.inl J) hrd om) (by simp)) J <| bG (cV (cs' := [_, _]) J J J J J J J J) <| bG (cV (cs' := [_, _]) J J J J J J J J) <| Wn <| aP ?_
   refine post (n := 0) (.inr J) J ?_ (by simp)
   rw [hq1, hq2, ← hσ]; rfl
  refine Wn <| bF J <| aB ?_
  have hy1 : ys.length = 1 := by omega
  have hyv : val 4294967296 ys = ys.getD 0 default := by
   obtain ⟨y, rfl⟩ := List.length_eq_one_iff.1 hy1
   simp [val]
  have hyb : ys.getD 0 default < 4294967296 := bR qw om
  obtain ⟨r, hr, ds, rest, rfl, hdd, hrest, hval, hlen⟩ := short_run 1 xs (ys.getD 0 default) qv om hyb om
  obtain ⟨hq1, hq2⟩ := rC (v := v) (w := w) (q := val 4294967296 ds) (r := rest) (by rw [← dw, ← dv, hyv]; exact hval) (by rw [← dw, hyv]; exact hrest)
  have hrd : Dg 4294967296 [rest] := by intro d hd; simp at hd; omega
  refine Rg 10 J <| Um J J <| Um J J <| aA (cZ (j := 0) J J J J om om J) J <| aA (gC J J J) J <| aA (aJ J (hr) (by simp)) J <| Um J J <| aA (fD J J) J <| aA (fD J J) J <| Ua J J <| Ua J J <| Nk [4,5,6,8,10,11] J <| aB <| Rg 11 J <| Um J J <| Um J J <| aA (cI σ (lC J J (by rw [← hσ]; omega)) hσ.symm) J <| Um J J <| aA (aJ J (fJ σ 1 ds om (.inl J) hdd om) (by simp)) J <| Um J J <| Um J J <| aA (eV (cs := [_]) (rows := [[_]]) J J (by decide) J J J) J <| aA (aJ J (fJ v.sign 2 [rest] om (.inr J) hrd (by simp)) (by simp)) J ?_
  refine bG (cV (cs' := [_, _]) J J J J J J J J) <| bG (cV (cs' := [_, _]) J J J J J J J J) <| Nk [4,5] J <| bQ <| post (n := 0) (.inr J) J ?_ (by simp)
  rw [hq1, hq2, ← hσ]; exact congrArg (fun z => LV.tup [lvI (σ * (val 4294967296 ds : Int)), lvI (v.sign * z)]) (by simp [val])
 refine Rg 4 J <| bK (gF J J) J <| bK (gF J J) J <| bK (gE J) J <| bK (gE J) J <| Wn <| aB <| Rg 8 J <| aA (aV J J J J J) J <| aA (aH J J J J J) J <| aA (nE J J) J <| fN (fun h16 => ?_) (fun h16 => ?_)
 rotate_left
 ·refine Um J J <| K1 J J <| K1 J J <| K1 J J <| aA (bU J J) J <| Wn <| bC J <| aG <| Ck [2,3,4,5] J ?_
  exact J3 _
 refine Um J J <| aM J (aV J J J J J) J <| aM J (aH J J J J J) J <| aM J (nE J J) J <| fN (fun h20 => ?_) (fun h20 => ?_)
 rotate_left
 ·refine aA (bT J J) J <| Wn <| bC J <| aG <| Ck [2,3,4,5] J ?_
  exact J3 _
 refine aA (bT J J) J <| Wn <| bF J <| aB ?_
 have hia := dB (nD.1 h16)
 have hiw := dB (nD.1 h20)
 have sv := nD.1 h16
 have b1 : (v.tdiv w).natAbs ≤ v.natAbs := by rw [Int.natAbs_tdiv]; exact Nat.div_le_self _ _
 have b2 : (v.tmod w).natAbs ≤ v.natAbs := by rw [Int.natAbs_tmod]; exact Nat.mod_le _ _
 unfold small at sv
 refine bS (z := 14) J kR <| aC (aV J J J J J) J <| aC (cI v (aH J J J J J) hia) J <| aC (aV J J J J J) J <| aC (cI w (aH J J J J J) hiw) J <| aC (oQuo64 J J hw0 om) J <| aC (iF (cs := [_, _]) J J J J J) J <| aC (aV J J J J J) J <| aC (cI v (aH J J J J J) hia) J <| aC (aV J J J J J) J <| aC (cI w (aH J J J J J) hiw) J <| aC (oRem J J hw0) J <| aC (iF (cs := [_, _]) J J J J J) J <| cN (cV (cs' := [_, _]) J J J J J J J J) <| cN (cV (cs' := [_, _]) J J J J J J J J) <| bJ (aT kR) J <| Ck [4,5] J <| bQ <| post (n := 0) (.inr J) J ?_ (by simp)
 rw [iQ (v := v.tdiv w) (by unfold small; omega), iQ (v := v.tmod w) (by unfold small; omega)]; rfl
theorem gcd_run (v w : Int) (hv : len32 v < 549755813888) (hw : len32 w < 549755813888) : Run Try.prog T E0 (.call 50 [lvI v, lvI w] (lvI (v.gcd w : Nat))) := by
 refine bM Try.func50 J J (dK J) <| Rg 3 J <| bK (gF J J) J <| bK (gF J J) J <| bK (gE J) J <| Wn <| bS (z := 6) J kR <| aC (aH (l := .agg [_, _]) J J J J J) J <| aC (aJ J (abs_run _) (by simp)) J <| aC (aH (l := .agg [_, _]) J J J J J) J <| aC (aJ J (abs_run _) (by simp)) J <| cN (cV (cs' := [_, _]) J J J J J J J J) <| cN (cV (cs' := [_, _]) J J J J J J J J) <| bJ (aT kR) J <| aI <| bI (α := Nat × Nat) (fun ⟨a, b⟩ => [(2, .ptr 0 0), (3, .ptr 1 0), (4, .ptr 2 0)]) (fun ⟨a, b⟩ => [(0, { cells := (lvI (a : Int)).cells, sz := 2, elem := 44, st := 0 }), (1, { cells := (lvI (b : Int)).cells, sz := 2, elem := 44, st := 0 }), (2, { cells := [.v (.int .i64 0), .sl 0 []], sz := 2, elem := 44, st := 0 })]) (fun ⟨a, b⟩ n => Nat.gcd a b = v.gcd w ∧ len32 (a : Int) < 549755813888 ∧ len32 (b : Int) < 549755813888 ∧ 3 ≤ n) (fun ⟨a, b⟩ => b) (v.natAbs, w.natAbs) ⟨J, J, J, trivial⟩ ⟨J, J, J, trivial⟩ ⟨rfl, by rw [pN]; exact hv, by rw [pN]; exact hw, om⟩ ?_
 rintro ⟨a, b⟩ n hF
 change WC _ _ _ _ _ (_ :: _) (_ :: _) n _
 obtain ⟨hg, hla, hlb, hn3⟩ := hF
 refine aB <| Rg 3 J <| aA (aH (l := .agg [_, _]) J J J J J) J <| aA (aJ J (iU _) (by simp)) J <| aA (lD J J) J <| bL (fun h13 => ?_) (fun h13 => ?_)
 rotate_left
 ·refine Wn <| bC J <| bB <| aW <| aQ J <| Rg 2 J <| aA (aH (l := .agg [_, _]) J J J J J) J <| bG (cV (cs' := [_, _]) J J J J J J J J) <| Wn <| aP <| post (n := 0) (.inr J) J ?_ (by simp)
  have hb0 : b = 0 := by
   have := Int.sign_eq_zero_iff_zero (a := (b : Int)); omega
  subst hb0
  rw [Nat.gcd_zero_right] at hg
  rw [← hg]; rfl
 refine Wn <| bF J <| aG <| dM ?_
 have hb0 : 0 < b := by
  rcases Nat.eq_zero_or_pos b with h | h
  ·subst h; simp at h13
  ·exact h
 have hm : (a : Int).tmod b = ((a % b : Nat) : Int) := by rw [Int.tmod_eq_emod_of_nonneg om]; simp
 have hlm : len32 ((a % b : Nat) : Int) < 549755813888 := by rw [← hm]; have := len32_tmod (a : Int) (b : Int); omega
 refine Rg 10 J <| aA (aH (l := .agg [_, _]) J J J J J) J <| aA (aH (l := .agg [_, _]) J J J J J) J <| aA (aJ J (lV (a : Int) (b : Int) om hla hlb) (by simp)) J <| Um J J <| aA (fD J J) J <| aA (aO (b := lvI ((a % b : Nat) : Int)) (fD J J) (by rw [hm])) J <| bK (gE J) J <| bK (gE J) J <| bG (cV (cs' := [_, _]) J J J (g1 om g0) J J J J) <| bG (cV (cs' := [_, _]) J J J (g1 om g0) J J J J) <| Wn <| dC (z := 4) J kR <| aC (aH (l := .agg [_, _]) J J (g1 om (g1 om (g1 om (g1 om (g1 (by decide) g0))))) J J) J <| aC (aH (l := .agg [_, _]) J J g0 J J) J <| cN (cV (cs' := [_, _]) J J J (g1 om (g1 om (g1 om (g1 om g0)))) J J J J) <| cN (cV (cs' := [_, _]) J J J (g1 (by decide) (g1 om (g1 om (g1 om (g1 om (g1 (by decide) g0)))))) J J J J) <| bJ (aT kR) J <| gJ <| aF <| ⟨⟨b, a % b⟩, ⟨J, J, J, trivial⟩, ⟨g1 (by decide) g0, g0, g1 (by decide) (g1 (by decide) (g1 om (g1 om (g1 om (g1 om (g1 (by decide) (g1 (by decide) g0))))))), trivial⟩, ⟨by rw [← hg, Nat.gcd_comm b, ← Nat.gcd_rec b a, Nat.gcd_comm], hlb, hlm, om⟩, Nat.mod_lt _ hb0⟩
theorem hY (v w : Int) (hw0 : w ≠ 0) (hv : len32 v < 549755813888) (hw : len32 w < 549755813888) : Run Try.prog T E0 (.call 52 [lvI v, lvI w] (lvX (Rat.divInt v w, false))) := by
 have hgp : 0 < v.gcd w := Int.gcd_pos_of_ne_zero_right _ hw0
 obtain ⟨hL1, hL2⟩ := mO (a := v) hw0
 have hlg : len32 ((v.gcd w : Nat) : Int) < 549755813888 := by
  have h1 : v.gcd w ≤ w.natAbs := Nat.le_of_dvd om (Nat.gcd_dvd_right _ _)
  have := kY (v := ((v.gcd w : Nat) : Int)) (w := w) (by simpa using h1)
  omega
 obtain ⟨g, hg⟩ : ∃ g : Int, g = (v.gcd w : Nat) := ⟨_, rfl⟩
 rw [← hg] at hL1 hL2 hlg
 refine bM Try.func52 J J (dK J) ?_
 have J5 : ∀ (a b : Int) (ha : a = v.tdiv g) (hb : b = w.tdiv g) (n : Nat) , WC Try.prog T E0 Try.f52.ntmps (codeR (codeR (codeOf Try.f52))) [(2, .ptr 0 0), (3, .ptr 1 0), (4, .ptr 2 0)] [(0, { cells := (lvI a).cells, sz := 2, elem := 44, st := 0 }), (1, { cells := (lvI b).cells, sz := 2, elem := 44, st := 0 }), (2, { cells := [.v (.int .i64 0), .sl 0 [], .v (.int .i64 0), .sl 0 []], sz := 4, elem := 46, st := 0 })] n (Post T Try.f52.results.toList (lvX (Rat.divInt v w, false))) := by
  intro a b ha hb n
  subst ha hb
  refine aB <| Rg 3 J <| aA (aH (l := .agg [_, _]) J J J J J) J <| aA (aJ J (iU _) (by simp)) J <| aA (bX J J) J <| bL (fun h31 => ?_) (fun h31 => ?_)
  rotate_left
  ·refine Wn <| bC J <| aG <| Rg 4 J <| aA (aH (l := .agg [_, _]) J J J J J) J <| aA (aH (l := .agg [_, _]) J J J J J) J <| aA (iF (cs := [_, _, _, _]) J J J J J) J <| bG (cV (cs' := [_, _, _, _]) J J J J J J J J) <| Wn <| aP <| post (n := 0) (.inr J) J ?_ (by simp)
   obtain ⟨h1, h2⟩ := hL2 (by have := @Int.sign_neg_iff (w.tdiv g); omega)
   rw [lvX_f, ← h1, ← h2]; rfl
  refine Wn <| bF J <| bS (z := 6) J kR <| aC (aH (l := .agg [_, _]) J J J J J) J <| aC (aJ J (nX _) (by simp)) J <| aC (aH (l := .agg [_, _]) J J J J J) J <| aC (aJ J (nX _) (by simp)) J <| cN (cV (cs' := [_, _]) J J J J J J J J) <| cN (cV (cs' := [_, _]) J J J J J J J J) <| bJ (aT kR) J <| Rg 4 J <| aA (aH (l := .agg [_, _]) J J J J J) J <| aA (aH (l := .agg [_, _]) J J J J J) J <| aA (iF (cs := [_, _, _, _]) J J J J J) J <| bG (cV (cs' := [_, _, _, _]) J J J J J J J J) <| Wn <| aP <| post (n := 0) (.inr J) J ?_ (by simp)
  obtain ⟨h1, h2⟩ := hL1 (Int.sign_neg_iff.1 h31)
  rw [lvX_f, ← h1, ← h2]; rfl
 refine Rg 3 J <| bK (gF J J) J <| bK (gF J J) J <| bK (gE J) J <| Wn <| aB <| Rg 5 J <| aA (aH (l := .agg [_, _]) J J J J J) J <| aA (aH (l := .agg [_, _]) J J J J J) J <| aA (aJ J (hg ▸ gcd_run v w hv hw) (by simp)) J <| bK (gE J) J <| bG (cV (cs' := [_, _]) J J J J J J J J) <| Wn <| aB <| Rg 8 J <| aA (aV J J J J J) J <| aA (aH J J J J J) J <| aA (lD J J) J <| bL (fun h11 => ?_) (fun h11 => ?_)
 ·refine Um J J <| K1 J J <| K1 J J <| K1 J J <| aA (bT J J) J <| Nk [2,3,4,5,16] J <| bF J <| aB <| Rg 7 J <| aA (aH (l := .agg [_, _]) J J J J J) J <| aA (aH (l := .agg [_, _]) J J J J J) J <| aA (aJ J (lV v g om hv hlg) (by simp)) J <| Um J J <| aA (fD J J) J <| aA (fD J J) J <| bG (cV (cs' := [_, _]) J J J J J J J J) <| Wn <| Rg 7 J <| aA (aH (l := .agg [_, _]) J J J J J) J <| aA (aH (l := .agg [_, _]) J J J J J) J <| aA (aJ J (lV w g om hw hlg) (by simp)) J <| Um J J <| aA (fD J J) J ?_
  refine aA (fD J J) J <| bG (cV (cs' := [_, _]) J J J J J J J J) <| Nk [2,3,4] J <| Ck [2,3,4] J <| lF _ ?_ (J5 _ _ J J _)
  exact ⟨J, J, J, trivial⟩
 refine Um J J <| aM J (aV J J J J J) J <| aM J (aH J J J J J) J <| aM J (oNilN J J) J <| fN (fun h15 => ?_) (fun h15 => ?_)
 rotate_left
 ·refine aA (bU J J) J <| Nk [2,3,4,5,16] J <| bC J <| aG <| Ck [2,3,4] J ?_
  have h1 : g = 1 := by
   have := dB (oO.1 h15); omega
  have e1 : v = v.tdiv g := by rw [h1]; simp
  have e2 : w = w.tdiv g := by rw [h1]; simp
  refine lF _ ?_ (J5 _ _ e1 e2 _)
  exact ⟨J, J, J, trivial⟩
 refine aA (bU J J) J <| Nk [2,3,4,5,16] J <| bF J <| aB <| Rg 7 J <| aA (aH (l := .agg [_, _]) J J J J J) J <| aA (aH (l := .agg [_, _]) J J J J J) J <| aA (aJ J (lV v g om hv hlg) (by simp)) J <| Um J J <| aA (fD J J) J <| aA (fD J J) J <| bG (cV (cs' := [_, _]) J J J J J J J J) <| Wn <| Rg 7 J <| aA (aH (l := .agg [_, _]) J J J J J) J <| aA (aH (l := .agg [_, _]) J J J J J) J <| aA (aJ J (lV w g om hw hlg) (by simp)) J <| Um J J <| aA (fD J J) J <| aA (fD J J) J <| bG (cV (cs' := [_, _]) J J J J J J J J) <| Nk [2,3,4] J ?_
 refine Ck [2,3,4] J <| lF _ ?_ (J5 _ _ J J _)
 exact ⟨J, J, J, trivial⟩
theorem nV (x : X) : Run Try.prog T E0 (.call 57 [lvX x] (.v (.bool (xw x)))) := by
 refine bM Try.func57 J J (dK J) <| Rg 2 J <| bK (gF J J) J <| Ua J J <| Wn <| Rg 11 J <| aA (aV J J J J J) J <| aA (aV J J J J J) J <| aA (aH J J J J J) J <| aA (nE J J) J <| fN (fun h6 => ?_) (fun h6 => ?_)
 ·refine Um J J <| aM J (aV J J J J J) J <| aM J (aV J J J J J) J <| aM J (aH J J J J J) J <| aM J (oLeq J J) J <| aA (bT J J) J <| Ua J J <| Wn <| aP <| post (n := 0) (.inr J) J ?_ (by simp)
  have h1 : decide (ia (xlow x) ≤ 1) = xw x := by
   rw [dB (nD.1 h6)]; exact decide_eq_decide.2 (pC x)
  exact congrArg (fun z => LV.v (.bool z)) h1
 refine Um J J <| K1 J J <| K1 J J <| K1 J J <| K1 J J <| aA (bU J J) J <| Ua J J <| Wn <| aP <| post (n := 0) (.inr J) J ?_ (by simp)
 have h1 : false = xw x := by
  have h2 := ik_ne.1 h6
  have h3 := pC x
  have h4 : ¬ x.1.den = 1 := fun k => h2 (by have := h3.2 k; have := xlow_nonneg x; unfold small; omega)
  unfold xw; rw [decide_eq_false h4]
 exact congrArg (fun z => LV.v (.bool z)) h1
theorem dV (x : X) : Run Try.prog T E0 (.call 59 [lvX x] (lvI (x.1.den : Int))) := by
 refine bM Try.func59 J J (dK J) <| Rg 2 J <| bK (gF J J) J <| bK (gE J) J <| Wn <| aB <| Rg 4 J <| aA (aV J J J J J) J <| aA (aH (l := .agg [_, _]) J J J J J) J <| aA (aJ J (iU _) (by simp)) J <| aA (fS J J) J <| bL (fun h6 => ?_) (fun h6 => ?_)
 ·refine Wn <| bF J <| aB <| Rg 2 J <| aA (aJ J (one_run) (by simp)) J <| bG (cV (cs' := [_, _]) J J J J J J J J) <| Wn <| bQ <| post (n := 0) (.inr J) J ?_ (by simp)
  rw [xlow_zero (Int.sign_eq_zero_iff_zero.1 h6)]; rfl
 refine Wn <| bC J <| aG <| Rg 3 J <| aA (aV J J J J J) J <| aA (aH (l := .agg [_, _]) J J J J J) J <| bG (cV (cs' := [_, _]) J J J J J J J J) <| Wn <| aP <| post (n := 0) (.inr J) J ?_ (by simp)
 rw [← xlow_ne (fun k => h6 (by rw [k]; rfl))]; rfl
theorem top_run (x : X) : Run Try.prog T E0 (.call 83 [lvX x] (lvI x.1.num)) := by
 refine bM Try.func83 J J (dK J) <| Rg 2 J <| bK (gF J J) J <| bK (gE J) J <| Wn <| Rg 3 J <| aA (aV J J J J J) J <| aA (aH (l := .agg [_, _]) J J J J J) J <| bG (cV (cs' := [_, _]) J J J J J J J J) <| Wn <| aP <| post (n := 0) (.inr J) J ?_ (by simp)
 rfl
theorem eP (x : X) : Run Try.prog T E0 (.call 23 [lvX x] (.v (.int .i64 x.1.num.sign))) := by
 refine bM Try.func23 J J (dK J) <| Rg 2 J <| bK (gF J J) J <| Ua J J <| Wn <| Rg 4 J <| aA (aV J J J J J) J <| aA (aH (l := .agg [_, _]) J J J J J) J <| aA (aJ J (iU x.1.num) (by simp)) J <| Ua J J <| Wn <| aP ?_
 exact post (n := 0) (.inr J) J J (by simp)
theorem lZ (x : X) : Run Try.prog T E0 (.call 19 [lvX x] (lvX (xneg x))) := by
 refine bM Try.func19 J J (dK J) <| Rg 2 J <| bK (gF J J) J <| bK (gE J) J <| Wn <| bS (z := 7) J kR <| aC (aV J J J J J) J <| aC (aH (l := .agg [_, _]) J J J J J) J <| aC (aJ J (nX x.1.num) (by simp)) J <| aC (aV J J J J J) J <| aC (aH (l := .agg [_, _]) J J J J J) J <| aC (iF (cs := [_, _, _, _]) J J J J J) J <| cN (cV (cs' := [_, _, _, _]) J J J J J J J J) <| bJ (aT kR) J <| aP <| post (n := 0) (.inr J) J ?_ (by simp)
 rw [lvX_neg]; rfl
theorem mS (v : Int) (hv : I64 v) : Run Try.prog T E0 (.call 12 [.v (.int .i64 v)] (lvX (xint v))) := by
 unfold I64 at hv
 refine bM Try.func12 J J (dK J) <| Rg 1 J <| bK (gE J) J <| Wn <| Rg 4 J <| Um J J <| aA (aJ J (mN _ om) (by simp)) J <| aA (iF (cs := [_, _, _, _]) J J J J J) J <| bG (cV (cs' := [_, _, _, _]) J J J J J J J J) <| Wn <| aP <| post (n := 0) (.inr J) J ?_ (by simp)
 rw [lvX_int]; rfl
theorem lW (x y : X) (hx : Bd 68719476736 x.1) (hy : Bd 68719476736 y.1) : Run Try.prog T E0 (.call 47 [lvX x, lvX y] (lvX (xadd x y))) := by
 obtain ⟨hx1, hx2⟩ := hx
 obtain ⟨hy1, hy2⟩ := hy
 have m1 := dJ x.1.num y.1.den
 have m2 := dJ y.1.num x.1.den
 have m3 := pM (x.1.num * y.1.den) (y.1.num * x.1.den)
 have m4 := dJ x.1.den y.1.den
 refine bM Try.func47 J J (dK J) <| Rg 3 J <| bK (gF J J) J <| bK (gF J J) J <| bK (gE J) J <| Wn <| aB <| Rg 6 J <| aA (aH (l := .agg [_, _, _, _]) J J J J J) J <| aA (aJ J (nV x) (by simp)) J <| fN (fun h6 => ?_) (fun h6 => ?_)
 rotate_left
 ·refine Um J J <| K1 J J <| K1 J J <| aA (bU J J) J <| Wn <| bC J <| aG <| bS (z := 18) J kR <| aC (aV J J J J J) J <| aC (aH (l := .agg [_, _]) J J J J J) J <| aC (aH (l := .agg [_, _, _, _]) J J J J J) J <| aC (aJ J (dV y) (by simp)) J <| aC (aJ J (fR x.1.num y.1.den om om) (by simp)) J <| aC (aV J J J J J) J <| aC (aH (l := .agg [_, _]) J J J J J) J <| aC (aH (l := .agg [_, _, _, _]) J J J J J) J <| aC (aJ J (dV x) (by simp)) J <| aC (aJ J (fR y.1.num x.1.den om om) (by simp)) J <| aC (aJ J (qJ (x.1.num * y.1.den) (y.1.num * x.1.den) om om) (by simp)) J <| aC (aH (l := .agg [_, _, _, _]) J J J J J) J <| aC (aJ J (dV x) (by simp)) J <| aC (aH (l := .agg [_, _, _, _]) J J J J J) J <| aC (aJ J (dV y) (by simp)) J <| aC (aJ J (fR x.1.den y.1.den om om) (by simp)) J ?_
  refine aC (aJ J (hY (x.1.num * y.1.den + y.1.num * x.1.den) (x.1.den * y.1.den) (Int.mul_ne_zero (gB _) (gB _)) om om) (by simp)) J <| cN (cV (cs' := [_, _, _, _]) J J J J J J J J) <| bJ (aT kR) J <| Ck [4] J <| aP <| post (n := 0) (.inr J) J ?_ (by simp)
  rw [xadd_f (by rw [h6]; rfl)]; rfl
 refine Um J J <| aM J (aH (l := .agg [_, _, _, _]) J J J J J) J <| aM J (aJ J (nV y) (by simp)) J <| fN (fun h9 => ?_) (fun h9 => ?_)
 ·refine aA (bT J J) J <| Wn <| bF J <| aB <| Rg 7 J <| aA (aV J J J J J) J <| aA (aH (l := .agg [_, _]) J J J J J) J <| aA (aV J J J J J) J <| aA (aH (l := .agg [_, _]) J J J J J) J <| aA (aJ J (qJ x.1.num y.1.num om om) (by simp)) J <| aA (iF (cs := [_, _, _, _]) J J J J J) J <| bG (cV (cs' := [_, _, _, _]) J J J J J J J J) <| Nk [4] J <| bQ <| post (n := 0) (.inr J) J ?_ (by simp)
  rw [xadd_w h6 h9]; rfl
 refine aA (bT J J) J <| Wn <| bC J <| aG <| bS (z := 18) J kR <| aC (aV J J J J J) J <| aC (aH (l := .agg [_, _]) J J J J J) J <| aC (aH (l := .agg [_, _, _, _]) J J J J J) J <| aC (aJ J (dV y) (by simp)) J <| aC (aJ J (fR x.1.num y.1.den om om) (by simp)) J <| aC (aV J J J J J) J <| aC (aH (l := .agg [_, _]) J J J J J) J <| aC (aH (l := .agg [_, _, _, _]) J J J J J) J <| aC (aJ J (dV x) (by simp)) J <| aC (aJ J (fR y.1.num x.1.den om om) (by simp)) J <| aC (aJ J (qJ (x.1.num * y.1.den) (y.1.num * x.1.den) om om) (by simp)) J <| aC (aH (l := .agg [_, _, _, _]) J J J J J) J <| aC (aJ J (dV x) (by simp)) J <| aC (aH (l := .agg [_, _, _, _]) J J J J J) J <| aC (aJ J (dV y) (by simp)) J <| aC (aJ J (fR x.1.den y.1.den om om) (by simp)) J <| aC (aJ J (hY (x.1.num * y.1.den + y.1.num * x.1.den) (x.1.den * y.1.den) (Int.mul_ne_zero (gB _) (gB _)) om om) (by simp)) J <| cN (cV (cs' := [_, _, _, _]) J J J J J J J J) <| bJ (aT kR) J ?_
 refine Ck [4] J <| aP <| post (n := 0) (.inr J) J ?_ (by simp)
 rw [xadd_f (by rw [h6, h9]; rfl)]; rfl
theorem jW (x y : X) (hx : Bd 68719476736 x.1) (hy : Bd 68719476736 y.1) : Run Try.prog T E0 (.call 33 [lvX x, lvX y] (lvX (xmul x y))) := by
 obtain ⟨hx1, hx2⟩ := hx
 obtain ⟨hy1, hy2⟩ := hy
 have m1 := dJ x.1.num y.1.num
 have m4 := dJ x.1.den y.1.den
 refine bM Try.func33 J J (dK J) <| Rg 3 J <| bK (gF J J) J <| bK (gF J J) J <| bK (gE J) J <| Wn <| aB <| Rg 6 J <| aA (aH (l := .agg [_, _, _, _]) J J J J J) J <| aA (aJ J (nV x) (by simp)) J <| fN (fun h6 => ?_) (fun h6 => ?_)
 rotate_left
 ·refine Um J J <| K1 J J <| K1 J J <| aA (bU J J) J <| Wn <| bC J <| aG <| bS (z := 12) J kR <| aC (aV J J J J J) J <| aC (aH (l := .agg [_, _]) J J J J J) J <| aC (aV J J J J J) J <| aC (aH (l := .agg [_, _]) J J J J J) J <| aC (aJ J (fR x.1.num y.1.num om om) (by simp)) J <| aC (aH (l := .agg [_, _, _, _]) J J J J J) J <| aC (aJ J (dV x) (by simp)) J <| aC (aH (l := .agg [_, _, _, _]) J J J J J) J <| aC (aJ J (dV y) (by simp)) J <| aC (aJ J (fR x.1.den y.1.den om om) (by simp)) J <| aC (aJ J (hY (x.1.num * y.1.num) (x.1.den * y.1.den) (Int.mul_ne_zero (gB _) (gB _)) om om) (by simp)) J <| cN (cV (cs' := [_, _, _, _]) J J J J J J J J) <| bJ (aT kR) J <| Ck [4] J <| aP <| post (n := 0) (.inr J) J ?_ (by simp)
  rw [xmul_f (by rw [h6]; rfl)]; rfl
 refine Um J J <| aM J (aH (l := .agg [_, _, _, _]) J J J J J) J <| aM J (aJ J (nV y) (by simp)) J <| fN (fun h9 => ?_) (fun h9 => ?_)
 ·refine aA (bT J J) J <| Wn <| bF J <| aB <| Rg 7 J <| aA (aV J J J J J) J <| aA (aH (l := .agg [_, _]) J J J J J) J <| aA (aV J J J J J) J <| aA (aH (l := .agg [_, _]) J J J J J) J <| aA (aJ J (fR x.1.num y.1.num om om) (by simp)) J <| aA (iF (cs := [_, _, _, _]) J J J J J) J <| bG (cV (cs' := [_, _, _, _]) J J J J J J J J) <| Nk [4] J <| bQ <| post (n := 0) (.inr J) J ?_ (by simp)
  rw [xmul_w h6 h9]; rfl
 refine aA (bT J J) J <| Wn <| bC J <| aG <| bS (z := 12) J kR <| aC (aV J J J J J) J <| aC (aH (l := .agg [_, _]) J J J J J) J <| aC (aV J J J J J) J <| aC (aH (l := .agg [_, _]) J J J J J) J <| aC (aJ J (fR x.1.num y.1.num om om) (by simp)) J <| aC (aH (l := .agg [_, _, _, _]) J J J J J) J <| aC (aJ J (dV x) (by simp)) J <| aC (aH (l := .agg [_, _, _, _]) J J J J J) J <| aC (aJ J (dV y) (by simp)) J <| aC (aJ J (fR x.1.den y.1.den om om) (by simp)) J <| aC (aJ J (hY (x.1.num * y.1.num) (x.1.den * y.1.den) (Int.mul_ne_zero (gB _) (gB _)) om om) (by simp)) J <| cN (cV (cs' := [_, _, _, _]) J J J J J J J J) <| bJ (aT kR) J <| Ck [4] J <| aP <| post (n := 0) (.inr J) J ?_ (by simp)
 rw [xmul_f (by rw [h6, h9]; rfl)]; rfl
theorem rdiv_run (x y : X) (h0 : y.1 ≠ 0) (hx : Bd 68719476736 x.1) (hy : Bd 68719476736 y.1) : Run Try.prog T E0 (.call 65 [lvX x, lvX y] (lvX (xdiv x y))) := by
 obtain ⟨hx1, hx2⟩ := hx
 obtain ⟨hy1, hy2⟩ := hy
 have m1 := dJ x.1.num y.1.den
 have m4 := dJ x.1.den y.1.num
 refine bM Try.func65 J J (dK J) <| Rg 3 J <| bK (gF J J) J <| bK (gF J J) J <| bK (gE J) J <| Wn <| bS (z := 12) J kR <| aC (aV J J J J J) J <| aC (aH (l := .agg [_, _]) J J J J J) J <| aC (aH (l := .agg [_, _, _, _]) J J J J J) J <| aC (aJ J (dV y) (by simp)) J <| aC (aJ J (fR x.1.num y.1.den om om) (by simp)) J <| aC (aH (l := .agg [_, _, _, _]) J J J J J) J <| aC (aJ J (dV x) (by simp)) J <| aC (aV J J J J J) J <| aC (aH (l := .agg [_, _]) J J J J J) J <| aC (aJ J (fR x.1.den y.1.num om om) (by simp)) J <| aC (aJ J (hY (x.1.num * y.1.den) (x.1.den * y.1.num) (Int.mul_ne_zero (gB _) (num_ne h0)) om om) (by simp)) J <| cN (cV (cs' := [_, _, _, _]) J J J J J J J J) <| bJ (aT kR) J <| Ck [4] J <| aP <| post (n := 0) (.inr J) J ?_ (by simp)
 rw [xdiv_f h0]; rfl
theorem iE (a : NM) (h1 : I64 a.1) (h2 : I64 a.2) (h0 : a.2 ≠ 0) : Run Try.prog T E0 (.call 28 [lvM a] (lvX (Rat.divInt a.1 a.2, false))) := by
 unfold I64 at h1 h2
 have m1 := fI (v := a.1) om
 have m2 := fI (v := a.2) om
 refine bM Try.func28 J J (dK J) <| Rg 2 J <| bK (gF J J) J <| bK (gE J) J <| Wn <| bS (z := 8) J kR <| aC (aV J J J J J) J <| aC (aH J J J J J) J <| aC (aJ J (mN _ om) (by simp)) J <| aC (aV J J J J J) J <| aC (aH J J J J J) J <| aC (aJ J (mN _ om) (by simp)) J <| aC (aJ J (hY a.1 a.2 h0 om om) (by simp)) J <| cN (cV (cs' := [_, _, _, _]) J J J J J J J J) <| bJ (aT kR) J <| aP <| post (n := 0) (.inr J) J ?_ (by simp)
 rfl
theorem kZ (a : NM) (h1 : I64 a.1) (h2 : I64 a.2) : Run Try.prog T E0 (.call 27 [lvM a] (.v (.bool (decide (VN a))))) := by
 unfold I64 at h1 h2
 have m1 := fI (v := a.1) om
 have m2 := fI (v := a.2) om
 refine bM Try.func27 J J (dK J) <| Rg 2 J <| bK (gF J J) J <| Ua J J <| Wn <| aB <| Rg 18 J <| aA (aV J J J J J) J <| aA (aH J J J J J) J <| aA (bX J J) J <| bL (fun h7 => ?_) (fun h7 => ?_)
 ·refine Um J J <| K1 J J <| K1 J J <| K1 J J <| aA (bT J J) J <| Um J J <| K1 J J <| K1 J J <| K1 J J <| aA (bT J J) J <| Um J J <| K1 J J <| K1 J J <| K1 J J <| aA (bT J J) J <| Nk [1,22] J <| bF J <| aB ?_
  have hV : ¬ VN a := by unfold VN; omega
  refine Rg 1 J <| Ua J J <| Wn <| bQ <| post (n := 0) (.inr J) J ?_ (by simp)
  exact congrArg (fun z => LV.v (.bool z)) (decide_eq_false hV).symm
 refine Um J J <| aM J (aV J J J J J) J <| aM J (aH J J J J J) J <| aM J (lB J J) J <| bL (fun h11 => ?_) (fun h11 => ?_)
 ·refine aA (bU J J) J <| Um J J <| K1 J J <| K1 J J <| K1 J J <| aA (bT J J) J <| Um J J <| K1 J J <| K1 J J <| K1 J J <| aA (bT J J) J <| Nk [1,22] J <| bF J <| aB ?_
  have hV : ¬ VN a := by unfold VN; omega
  refine Rg 1 J <| Ua J J <| Wn <| bQ <| post (n := 0) (.inr J) J ?_ (by simp)
  exact congrArg (fun z => LV.v (.bool z)) (decide_eq_false hV).symm
 refine aA (bU J J) J <| Um J J <| aM J (aV J J J J J) J <| aM J (aH J J J J J) J <| aM J (lB J J) J <| bL (fun h16 => ?_) (fun h16 => ?_)
 ·refine aA (bU J J) J <| Um J J <| K1 J J <| K1 J J <| K1 J J <| aA (bT J J) J <| Nk [1,22] J <| bF J <| aB ?_
  have hV : ¬ VN a := by unfold VN; omega
  refine Rg 1 J <| Ua J J <| Wn <| bQ <| post (n := 0) (.inr J) J ?_ (by simp)
  exact congrArg (fun z => LV.v (.bool z)) (decide_eq_false hV).symm
 refine aA (bU J J) J <| Um J J <| aM J (aV J J J J J) J <| aM J (aH J J J J J) J <| aM J (bX J J) J <| bL (fun h21 => ?_) (fun h21 => ?_)
 ·refine aA (bU J J) J <| Nk [1,22] J <| bF J <| aB ?_
  have hV : ¬ VN a := by unfold VN; omega
  refine Rg 1 J <| Ua J J <| Wn <| bQ <| post (n := 0) (.inr J) J ?_ (by simp)
  exact congrArg (fun z => LV.v (.bool z)) (decide_eq_false hV).symm
 refine aA (bU J J) J <| Nk [1,22] J <| bC J <| aG ?_
 have hg1 : a.1.gcd a.2 ≤ a.2.natAbs := Nat.le_of_dvd om (Nat.gcd_dvd_right _ _)
 refine bS (z := 13) J kR <| aC (aV J J J J J) J <| aC (aH J J J J J) J <| aC (aJ J (mN _ om) (by simp)) J <| aC (aV J J J J J) J <| aC (aH J J J J J) J <| aC (aJ J (mN _ om) (by simp)) J <| aC (aJ J (gcd_run a.1 a.2 om om) (by simp)) J <| aC (aJ J (nU (a.1.gcd a.2 : Nat) 1152921504606846976 om) (by simp)) J <| Dm J J <| aC (fD J J) J <| aC (fD J J) J <| aC (iS J) J <| aC (iS J) J <| bJ (aT kR) J <| Ck [3] J <| Rg 3 J <| Um J J <| aA (fS J J) J <| Ua J J <| Wn <| aP <| post (n := 0) (.inr J) J ?_ (by simp)
 have hV : (decide ((if -1152921504606846976 ≤ ((a.1.gcd a.2 : Nat) : Int) ∧ ((a.1.gcd a.2 : Nat) : Int) ≤ 1152921504606846976 then ((a.1.gcd a.2 : Nat) : Int) else 0) = 1)) = decide (VN a) := by
  rw [if_pos om]; apply decide_eq_decide.2; unfold VN; omega
 exact congrArg (fun z => LV.v (.bool z)) hV
theorem nout_run (x : X) : Run Try.prog T E0 (.call 71 [lvX x] (lvO (outN x.1))) := by
 refine bM Try.func71 J J (dK J) <| Rg 3 J <| bK (gF J J) J <| bK (gE J) J <| Ua J J <| Wn <| Rg 8 J <| aA (aH (l := .agg [_, _, _, _]) J J J J J) J <| aA (aJ J (top_run x) (by simp)) J <| aA (aJ J (nU x.1.num 1152921504606846976 om) (by simp)) J <| Um J J <| aA (fD J J) J <| aA (fD J J) J <| fN (fun h13 => ?_) (fun h13 => ?_)
 rotate_left
 ·refine Ua J J <| Ua J J <| Wn <| Rg 8 J <| aA (aH (l := .agg [_, _, _, _]) J J J J J) J <| aA (aJ J (dV x) (by simp)) J <| aA (aJ J (nU x.1.den 1152921504606846976 om) (by simp)) J <| Um J J <| aA (fD J J) J <| aA (fD J J) J <| fN (fun h19 => ?_) (fun h19 => ?_)
  ·refine Ua J J <| Ua J J <| Nk [2,4,5,6,7] J <| aB <| Rg 6 J <| Um J J <| aA (fA J) J <| Um J J <| K1 J J <| K1 J J <| aA (bT J J) J <| Wn <| bF J <| aB ?_
   have hV : outN x.1 = none := by
    unfold outN; rw [if_neg]; simp at *; omega
   refine Rg 3 J <| aA (iF (cs := [_, _]) J J J J J) J <| bG (cV (cs' := [_, _]) J J J J J J J J) <| Ua J J <| Wn <| bQ <| post (n := 0) (.inr J) J ?_ (by simp)
   first | (rw [hV]; rfl) | (rw [hV, if_pos k1, if_pos k2]; rfl)
  refine Ua J J <| Ua J J <| Nk [2,4,5,6,7] J <| aB <| Rg 6 J <| Um J J <| aA (fA J) J <| Um J J <| K1 J J <| K1 J J <| aA (bT J J) J <| Wn <| bF J <| aB ?_
  have hV : outN x.1 = none := by
   unfold outN; rw [if_neg]; simp at *; omega
  refine Rg 3 J <| aA (iF (cs := [_, _]) J J J J J) J <| bG (cV (cs' := [_, _]) J J J J J J J J) <| Ua J J <| Wn <| bQ <| post (n := 0) (.inr J) J ?_ (by simp)
  first | (rw [hV]; rfl) | (rw [hV, if_pos k1, if_pos k2]; rfl)
 refine Ua J J <| Ua J J <| Wn <| Rg 8 J <| aA (aH (l := .agg [_, _, _, _]) J J J J J) J <| aA (aJ J (dV x) (by simp)) J <| aA (aJ J (nU x.1.den 1152921504606846976 om) (by simp)) J <| Um J J <| aA (fD J J) J <| aA (fD J J) J <| fN (fun h19 => ?_) (fun h19 => ?_)
 rotate_left
 ·refine Ua J J <| Ua J J <| Nk [2,4,5,6,7] J <| aB <| Rg 6 J <| Um J J <| aA (fA J) J <| Um J J <| aM J (dQ J) J <| aM J (fA J) J <| aA (bU J J) J <| Wn <| bF J <| aB ?_
  have hV : outN x.1 = none := by
   unfold outN; rw [if_neg]; simp at *; omega
  refine Rg 3 J <| aA (iF (cs := [_, _]) J J J J J) J <| bG (cV (cs' := [_, _]) J J J J J J J J) <| Ua J J <| Wn <| bQ <| post (n := 0) (.inr J) J ?_ (by simp)
  first | (rw [hV]; rfl) | (rw [hV, if_pos k1, if_pos k2]; rfl)
 refine Ua J J <| Ua J J <| Nk [2,4,5,6,7] J <| aB <| Rg 6 J <| Um J J <| aA (fA J) J <| Um J J <| aM J (dQ J) J <| aM J (fA J) J <| aA (bU J J) J <| Wn <| bC J <| aG ?_
 have k1 := of_decide_eq_true h13
 have k2 := of_decide_eq_true h19
 have hV : outN x.1 = some (x.1.num, (x.1.den : Int)) := by
  unfold outN; rw [if_pos ⟨k1, k2.2⟩]
 refine Rg 5 J <| Um J J <| Um J J <| aA (iF (cs := [_, _]) J J J J J) J <| bG (cV (cs' := [_, _]) J J J J J J J J) <| Ua J J <| Nk [2,3] J <| aP <| post (n := 0) (.inr J) J ?_ (by simp)
 first | (rw [hV]; rfl) | (rw [hV, if_pos k1, if_pos k2]; rfl)
end Go.Proofs.Ytohfklpfeilcpaa
