/- Part A of the proof of lpLarge_holds: what it rests on. No condition. -/
import Derived.WalkKit
import Derived.Great.FillDense
import Derived.Orders
import Derived.Eval
import Derived.CallsIn
import Derived.ControlIn
import Derived.LoopNIn
import Derived.OrdersIn
import Derived.RangeFuncIn
import Derived.RangeFuncCalls
import Derived.RangeFuncRecord
import Derived.RangeFuncLeaves
import Derived.ProofKit
namespace Go.Ab
theorem om {p : Prop} (q : p := by omega) : p := q
end Go.Ab
set_option linter.unusedVariables false
namespace Go.Ab
open Go.RowKit
inductive LV where
 | v (x : Value)
 | agg (cs : List LV)
 | tup (vs : List LV)
 | sl (k : Nat) (xs : List (List LV))
 | ro (cs : List LV)
 | ref (r sz off len : Nat)
 | ptr (r off : Nat)
 | fn (f : Fn) (first captured : List LV)
 | bad
 deriving Inhabited
def _root_.Go.Value.sc : Value → Bool
 | .bool _ | .int _ _ | .string _ | .nilFunc | .pointer none | .map none => true
 | .tuple vs => vs.isEmpty
 | _ => false
def LV.one : LV → Bool
 | .agg _ | .tup _ | .bad => false
 | .v (.tuple _) => false
 | _ => true
def LV.cells : LV → List LV
 | .agg cs => cs
 | x => [x]
structure Pl where
 blk : Nat
 base : Nat
 sz : Nat
 cap : Nat
structure Ob where
 cells : List LV
 sz : Nat
 elem : TypeId
 st : Nat
abbrev Mem := Nat → Option Ob
abbrev Places := Nat → Option Pl
def Cell (w : World) (ok : Nat → Prop) (a : Addr) (j : Nat) (v : Value) : Prop :=
 a.spot = none ∧ ok a.block ∧ w.cell? ⟨a.block, a.off + j, none⟩ = some v
inductive Rel (ok : Nat → Prop) (w : World) (σ : Places) : Value → LV → Prop
 | v (x : Value) : x.sc = true → Rel ok w σ x (.v x)
 | agg (vs : Array Value) (cs : List LV) : vs.size = cs.length → (∀ c, c ∈ cs → c.one = true) → (∀ (i : Nat) (v : Value) (c : LV), vs[i]? = some v → cs[i]? = some c → Rel ok w σ v c) → Rel ok w σ (.agg vs) (.agg cs)
 | tup (vs : Array Value) (cs : List LV) : vs.size = cs.length → (∀ (i : Nat) (v : Value) (c : LV), vs[i]? = some v → cs[i]? = some c → Rel ok w σ v c) → Rel ok w σ (.tuple vs) (.tup cs)
 | nil : Rel ok w σ (.slice none 0 0) (.sl 0 [])
 | sl (a : Addr) (cap k sz : Nat) (xs : List (List LV)) (vs : Nat → Nat → Value) : (k = 1 ∨ k = 2 ∧ cap = xs.length) → xs.length ≤ cap → (∀ row, row ∈ xs → row.length = sz ∧ ∀ c, c ∈ row → c.one = true) →
   (∀ (i j : Nat) (row : List LV) (c : LV), xs[i]? = some row → row[j]? = some c → Cell w ok a (i * sz + j) (vs i j)) →
   (∀ (i j : Nat) (row : List LV) (c : LV), xs[i]? = some row → row[j]? = some c → Rel ok w σ (vs i j) c) → Rel ok w σ (.slice (some a) xs.length cap) (.sl k xs)
 | ro (a : Addr) (cs : List LV) (vs : Nat → Value) : (∀ c, c ∈ cs → c.one = true) → (∀ (j : Nat) (c : LV), cs[j]? = some c → Cell w ok a j (vs j)) → (∀ (j : Nat) (c : LV), cs[j]? = some c → Rel ok w σ (vs j) c) → Rel ok w σ (.pointer (some a)) (.ro cs)
 | ref (r sz off len cap : Nat) (p : Pl) : σ r = some p → p.sz = sz → off + cap ≤ p.cap → len ≤ cap → Rel ok w σ (.slice (some ⟨p.blk, p.base + off * sz, none⟩) len cap) (.ref r sz off len)
 | ref0 (a : Addr) (r sz off : Nat) : Rel ok w σ (.slice (some a) 0 0) (.ref r sz off 0)
 | ptr (r off : Nat) (p : Pl) : σ r = some p → Rel ok w σ (.pointer (some ⟨p.blk, p.base + off, none⟩)) (.ptr r off)
 | fn (f : Fn) (vs us : Array Value) (cs ds : List LV) : vs.size = cs.length → us.size = ds.length → (∀ (i : Nat) (v : Value) (c : LV), vs[i]? = some v → cs[i]? = some c → Rel ok w σ v c) →
   (∀ (i : Nat) (v : Value) (c : LV), us[i]? = some v → ds[i]? = some c → Rel ok w σ v c) → Rel ok w σ (.func f vs us) (.fn f cs ds)
 | bad (v : Value) : Rel ok w σ v .bad
theorem Cell.lt {w : World} {ok : Nat → Prop} {a : Addr} {j : Nat} {v : Value} (h : Cell w ok a j v) : a.block < w.heap.size :=
 World.block_lt_of_cell? w ⟨a.block, a.off + j, none⟩ h.2.2
theorem Cell.mono {w w' : World} {ok ok' : Nat → Prop} {a : Addr} {j : Nat} {v : Value} (h : Cell w ok a j v)
  (hw : ∀ b, ok b → b < w.heap.size → ok' b ∧ w'.heap[b]? = w.heap[b]?) : Cell w' ok' a j v := by
 have hl := h.lt
 obtain ⟨h1, h2, h3⟩ := h
 have := hw a.block h2 hl
 exact ⟨h1, this.1, by rw [World.cell?_of_block (w := w) (a := ⟨a.block, a.off + j, none⟩) this.2]; exact h3⟩
theorem Rel.mono {ok ok' : Nat → Prop} {w w' : World} {σ σ' : Places} {v : Value} {l : LV} (h : Rel ok w σ v l)
  (hw : ∀ b, ok b → b < w.heap.size → ok' b ∧ w'.heap[b]? = w.heap[b]?) (hs : ∀ r p, σ r = some p → σ' r = some p) : Rel ok' w' σ' v l := by
 induction h with
 | v x h => exact .v x h
 | agg vs cs h1 h2 _ ih => exact .agg vs cs h1 h2 ih
 | tup vs cs h1 _ ih => exact .tup vs cs h1 ih
 | nil => exact .nil
 | sl a cap k sz xs vs h1 h2 h3 h4 _ ih => exact .sl a cap k sz xs vs h1 h2 h3 (fun i j row c hi hj => (h4 i j row c hi hj).mono hw) ih
 | ro a cs vs h0 h1 _ ih => exact .ro a cs vs h0 (fun j c hj => (h1 j c hj).mono hw) ih
 | ref r sz off len cap p h1 h2 h3 h4 => exact .ref r sz off len cap p (hs _ _ h1) h2 h3 h4
 | ref0 a r sz off => exact .ref0 a r sz off
 | ptr r off p h => exact .ptr r off p (hs _ _ h)
 | fn f vs us cs ds h1 h2 _ _ ih1 ih2 => exact .fn f vs us cs ds h1 h2 ih1 ih2
 | bad v => exact .bad v
def okS (okF : Nat → Prop) (σ : Places) (m : Mem) (b : Nat) : Prop :=
 okF b ∧ ∀ r o p, m r = some o → o.st = 0 → σ r = some p → p.blk ≠ b
structure Inv (okF : Nat → Prop) (B : Nat) (σ : Places) (m : Mem) (w : World) : Prop where
 at_ : ∀ r o, m r = some o → o.st ≠ 2 → ∃ p c, σ r = some p ∧ p.sz = o.sz ∧ w.heap[p.blk]? = some (.cells c o.elem (0, 0)) ∧ p.base + p.cap * p.sz ≤ c.size ∧ o.cells.length ≤ p.cap * p.sz ∧
  B ≤ p.blk ∧ (∀ x, x ∈ o.cells → x.one = true) ∧ (∀ (j : Nat) (x : LV), o.cells[j]? = some x → ∃ v, c[p.base + j]? = some v ∧ Rel (okS okF σ m) w σ v x)
 inj : ∀ r o r' o' p p', m r = some o → o.st = 0 → m r' = some o' → o'.st ≠ 2 → r ≠ r' → σ r = some p → σ r' = some p' → p.blk ≠ p'.blk
 dom : ∀ r p, σ r = some p → ∃ o, m r = some o
 new : ∀ b, B ≤ b → okF b
 size : B ≤ w.heap.size
structure Ext (okF : Nat → Prop) (B : Nat) (σ : Places) (m : Mem) (w : World) (σ' : Places) (m' : Mem) (w' : World) : Prop where
 keep : ∀ b, okS okF σ m b → b < w.heap.size → okS okF σ' m' b ∧ w'.heap[b]? = w.heap[b]?
 places : ∀ r p, σ r = some p → σ' r = some p
 below : Below B w w'
theorem Ext.refl (okF : Nat → Prop) (B : Nat) (σ : Places) (m : Mem) (w : World) : Ext okF B σ m w σ m w :=
 ⟨fun b h _ => ⟨h, rfl⟩, fun _ _ h => h, Below.refl _ _⟩
theorem Ext.trans {okF : Nat → Prop} {B : Nat} {σ σ' σ'' : Places} {m m' m'' : Mem} {w w' w'' : World} (h : Ext okF B σ m w σ' m' w') (k : Ext okF B σ' m' w' σ'' m'' w'') :
  Ext okF B σ m w σ'' m'' w'' := by
 refine ⟨fun b hb hl => ?_, fun r p hr => k.places r p (h.places r p hr), h.below.trans k.below⟩
 have h1 := h.keep b hb hl
 have hl' : b < w'.heap.size := Nat.lt_of_lt_of_le hl h.below.size
 have h2 := k.keep b h1.1 hl'
 exact ⟨h2.1, h2.2.trans h1.2⟩
theorem Ext.rel {okF : Nat → Prop} {B : Nat} {σ σ' : Places} {m m' : Mem} {w w' : World} (h : Ext okF B σ m w σ' m' w') {v : Value} {l : LV} (hr : Rel (okS okF σ m) w σ v l) :
  Rel (okS okF σ' m') w' σ' v l := hr.mono h.keep h.places
theorem Inv.world {okF : Nat → Prop} {B : Nat} {σ : Places} {m : Mem} {w w' : World} (h : Inv okF B σ m w) (hb : Below w.heap.size w w') : Inv okF B σ m w' ∧ Ext okF B σ m w σ m w' := by
 have e : Ext okF B σ m w σ m w' := ⟨fun b hk hl => ⟨hk, hb.block b hl⟩, fun _ _ h => h, hb.mono h.size⟩
 refine ⟨⟨fun r o hr hs => ?_, h.inj, h.dom, h.new, Nat.le_trans h.size hb.size⟩, e⟩
 obtain ⟨p, c, h1, h2, h3, h4, h5, h6, h8, h7⟩ := h.at_ r o hr hs
 have hlt : p.blk < w.heap.size := by
  rcases Nat.lt_or_ge p.blk w.heap.size with h | h
  ·exact h
  ·rw [Array.getElem?_eq_none h] at h3; cases h3
 refine ⟨p, c, h1, h2, by rw [hb.block _ hlt]; exact h3, h4, h5, h6, h8, fun j x hx => ?_⟩
 obtain ⟨v, hv, hr⟩ := h7 j x hx
 exact ⟨v, hv, e.rel hr⟩
def setM {α : Type} (m : Nat → Option α) (r : Nat) (o : α) : Nat → Option α := fun i => if i = r then some o else m i
theorem bE {α : Type} (m : Nat → Option α) (r : Nat) (o : α) : setM m r o r = some o := by simp [setM]
theorem bP {α : Type} (m : Nat → Option α) (r : Nat) (o : α) (i : Nat) (h : i ≠ r) : setM m r o i = m i := by simp [setM, h]
theorem eS {w : World} {b : Nat} {o : Obj} (h : w.heap[b]? = some o) : b < w.heap.size := by
 rcases Nat.lt_or_ge b w.heap.size with h' | h'
 ·exact h'
 ·rw [Array.getElem?_eq_none h'] at h; cases h
theorem Inv.alloc {okF : Nat → Prop} {B : Nat} {σ : Places} {m : Mem} {w : World} (h : Inv okF B σ m w) {id : Nat} (hm : m id = none) (c : Array Value) (o : Ob) (cap : Nat)
  (hst : o.st = 0) (ho : ∀ x, x ∈ o.cells → x.one = true) (hc : cap * o.sz ≤ c.size) (hl : o.cells.length ≤ cap * o.sz) (hr : ∀ (j : Nat) (x : LV), o.cells[j]? = some x → ∃ v, c[j]? = some v ∧ Rel (okS okF σ m) w σ v x) :
  let p : Pl := ⟨w.heap.size, 0, o.sz, cap⟩
  Inv okF B (setM σ id p) (setM m id o) (w.alloc (.cells c o.elem (0, 0))) ∧ Ext okF B σ m w (setM σ id p) (setM m id o) (w.alloc (.cells c o.elem (0, 0))) := by
 intro p
 have hσ : σ id = none := by
  cases hs : σ id with
  | none => rfl
  | some q => obtain ⟨o', ho'⟩ := h.dom id q hs; rw [hm] at ho'; cases ho'
 have hblk : ∀ k, k < w.heap.size → (w.alloc (.cells c o.elem (0, 0))).heap[k]? = w.heap[k]? := fun k hk => Below.heap_alloc _ _ _ hk
 have hnew : (w.alloc (.cells c o.elem (0, 0))).heap[w.heap.size]? = some (.cells c o.elem (0, 0)) := by show (w.heap.push _)[w.heap.size]? = _; simp
 have e : Ext okF B σ m w (setM σ id p) (setM m id o) (w.alloc (.cells c o.elem (0, 0))) := by
  refine ⟨fun b hb hlt => ⟨⟨hb.1, ?_⟩, hblk b hlt⟩, ?_, (Below.refl _ _).alloc h.size _⟩
  ·intro r o' q hr' hs' hq
   by_cases hid : r = id
   ·subst hid; rw [bE] at hq; cases hq; simp [p]; omega
   ·rw [bP _ _ _ _ hid] at hr' hq; exact hb.2 r o' q hr' hs' hq
  ·intro r q hq
   by_cases hid : r = id
   ·subst hid; rw [hσ] at hq; cases hq
   ·rw [bP _ _ _ _ hid]; exact hq
 refine ⟨⟨?_, ?_, ?_, h.new, by simp; have := h.size; omega⟩, e⟩
 ·intro r o' hr' hs'
  by_cases hid : r = id
  ·subst hid; rw [bE] at hr'; cases hr'
   refine ⟨p, c, bE _ _ _, rfl, hnew, by simpa [p] using hc, by simpa [p] using hl, h.size, ho, fun j x hx => ?_⟩
   obtain ⟨v, hv, hvr⟩ := hr j x hx
   exact ⟨v, by simpa [p] using hv, e.rel hvr⟩
  ·rw [bP _ _ _ _ hid] at hr'
   obtain ⟨q, c', h1, h2, h3, h4, h5, h6, h8, h7⟩ := h.at_ r o' hr' hs'
   refine ⟨q, c', by rw [bP _ _ _ _ hid]; exact h1, h2, by rw [hblk _ (eS h3)]; exact h3, h4, h5, h6, h8, fun j x hx => ?_⟩
   obtain ⟨v, hv, hvr⟩ := h7 j x hx
   exact ⟨v, hv, e.rel hvr⟩
 ·intro r o1 r' o2 q q' hr1 hs1 hr2 hs2 hne hq hq'
  by_cases h1 : r = id
  ·subst h1; rw [bE] at hq; cases hq
   rw [bP _ _ _ _ (Ne.symm hne)] at hr2 hq'
   obtain ⟨q2, c', g1, _, g3, _⟩ := h.at_ r' o2 hr2 hs2
   rw [g1] at hq'; cases hq'
   have := eS g3
   simp only [p]; omega
  ·rw [bP _ _ _ _ h1] at hr1 hq
   by_cases h2 : r' = id
   ·subst h2; rw [bE] at hq'; cases hq'
    obtain ⟨q2, c', g1, _, g3, _⟩ := h.at_ r o1 hr1 om
    rw [g1] at hq; cases hq
    have := eS g3
    simp only [p]; omega
   ·rw [bP _ _ _ _ h2] at hr2 hq'
    exact h.inj r o1 r' o2 q q' hr1 hs1 hr2 hs2 hne hq hq'
 ·intro r q hq
  by_cases hid : r = id
  ·exact ⟨o, by subst hid; exact bE _ _ _⟩
  ·rw [bP _ _ _ _ hid] at hq ⊢; exact h.dom r q hq
theorem Inv.freeze {okF : Nat → Prop} {B : Nat} {σ : Places} {m : Mem} {w : World} (h : Inv okF B σ m w) {r : Nat} {o : Ob} (hm : m r = some o) (hs : o.st ≠ 2) :
  Inv okF B σ (setM m r { o with st := 1 }) w ∧ Ext okF B σ m w σ (setM m r { o with st := 1 }) w := by
 have e : Ext okF B σ m w σ (setM m r { o with st := 1 }) w := by
  refine ⟨fun b hb hlt => ⟨⟨hb.1, ?_⟩, rfl⟩, fun _ _ h => h, Below.refl _ _⟩
  intro r' o' q hr' hs' hq
  by_cases hid : r' = r
  ·subst hid; rw [bE] at hr'; cases hr'; cases hs'
  ·rw [bP _ _ _ _ hid] at hr'; exact hb.2 r' o' q hr' hs' hq
 refine ⟨⟨?_, ?_, ?_, h.new, h.size⟩, e⟩
 ·intro r' o' hr' hs'
  by_cases hid : r' = r
  ·subst hid; rw [bE] at hr'; cases hr'
   obtain ⟨q, c', h1, h2, h3, h4, h5, h6, h8, h7⟩ := h.at_ r' o hm hs
   exact ⟨q, c', h1, h2, h3, h4, h5, h6, h8, fun j x hx => let ⟨v, hv, hvr⟩ := h7 j x hx; ⟨v, hv, e.rel hvr⟩⟩
  ·rw [bP _ _ _ _ hid] at hr'
   obtain ⟨q, c', h1, h2, h3, h4, h5, h6, h8, h7⟩ := h.at_ r' o' hr' hs'
   exact ⟨q, c', h1, h2, h3, h4, h5, h6, h8, fun j x hx => let ⟨v, hv, hvr⟩ := h7 j x hx; ⟨v, hv, e.rel hvr⟩⟩
 ·intro r1 o1 r2 o2 q q' hr1 hs1 hr2 hs2 hne hq hq'
  have hid1 : r1 ≠ r := by intro hid; subst hid; rw [bE] at hr1; cases hr1; cases hs1
  rw [bP _ _ _ _ hid1] at hr1
  by_cases hid : r2 = r
  ·subst hid; exact h.inj r1 o1 r2 o q q' hr1 hs1 hm hs hne hq hq'
  ·rw [bP _ _ _ _ hid] at hr2; exact h.inj r1 o1 r2 o2 q q' hr1 hs1 hr2 hs2 hne hq hq'
 ·intro r' q hq
  by_cases hid : r' = r
  ·exact ⟨_, by subst hid; exact bE _ _ _⟩
  ·rw [bP _ _ _ _ hid]; exact h.dom r' q hq
theorem Inv.write {okF : Nat → Prop} {B : Nat} {σ : Places} {m : Mem} {w : World} (h : Inv okF B σ m w) {r : Nat} {o : Ob} {p : Pl} {c c' : Array Value} {cells : List LV} (hm : m r = some o) (hs : o.st = 0)
  (hp : σ r = some p) (hc : w.heap[p.blk]? = some (.cells c o.elem (0, 0))) (hsz : c'.size = c.size) (hl : cells.length = o.cells.length) (h1 : ∀ x, x ∈ cells → x.one = true)
  (hr : ∀ (j : Nat) (x : LV), cells[j]? = some x → ∃ v, c'[p.base + j]? = some v ∧ Rel (okS okF σ m) w σ v x) :
  Inv okF B σ (setM m r { o with cells := cells }) (w.setRow p.blk c') ∧ Ext okF B σ m w σ (setM m r { o with cells := cells }) (w.setRow p.blk c') := by
 obtain ⟨q, c0, g1, g2, g3, g4, g5, g6, g8, g7⟩ := h.at_ r o hm om
 rw [hp] at g1; cases g1
 rw [hc] at g3; cases g3
 have hother : ∀ k, k ≠ p.blk → (w.setRow p.blk c').heap[k]? = w.heap[k]? := fun k hk => by
  simp only [World.setRow, Array.getElem?_modify]; rw [if_neg om]
 have hsame : (w.setRow p.blk c').heap[p.blk]? = some (.cells c' o.elem (0, 0)) := setRow_heap w p.blk c c' o.elem (0, 0) hc
 have hsize : (w.setRow p.blk c').heap.size = w.heap.size := by simp [World.setRow]
 have e : Ext okF B σ m w σ (setM m r { o with cells := cells }) (w.setRow p.blk c') := by
  refine ⟨fun b hb hlt => ⟨⟨hb.1, ?_⟩, hother b fun hq => hb.2 r o p hm hs hp hq.symm⟩, fun _ _ h => h, ⟨rfl, rfl, rfl, om, fun k hk => hother k om⟩⟩
  intro r' o' q hr' hs' hq
  by_cases hid : r' = r
  ·subst hid; exact hb.2 r' o q hm hs hq
  ·rw [bP _ _ _ _ hid] at hr'; exact hb.2 r' o' q hr' hs' hq
 refine ⟨⟨?_, ?_, ?_, h.new, by rw [hsize]; exact h.size⟩, e⟩
 ·intro r' o' hr' hs'
  by_cases hid : r' = r
  ·subst hid; rw [bE] at hr'; cases hr'
   refine ⟨p, c', hp, g2, hsame, om, by simp only; omega, g6, h1, fun j x hx => ?_⟩
   obtain ⟨v, hv, hvr⟩ := hr j x hx
   exact ⟨v, hv, e.rel hvr⟩
  ·rw [bP _ _ _ _ hid] at hr'
   obtain ⟨q, c2, k1, k2, k3, k4, k5, k6, k8, k7⟩ := h.at_ r' o' hr' hs'
   refine ⟨q, c2, k1, k2, by rw [hother _ (fun hq => h.inj r o r' o' p q hm hs hr' hs' (Ne.symm hid) hp k1 hq.symm)]; exact k3, k4, k5, k6, k8, fun j x hx => ?_⟩
   obtain ⟨v, hv, hvr⟩ := k7 j x hx
   exact ⟨v, hv, e.rel hvr⟩
 ·intro r1 o1 r2 o2 q q' hr1 hs1 hr2 hs2 hne hq hq'
  have k1 : ∃ o1', m r1 = some o1' ∧ o1'.st = 0 := by
   by_cases hid : r1 = r
   ·exact ⟨o, by rw [hid]; exact hm, hs⟩
   ·rw [bP _ _ _ _ hid] at hr1; exact ⟨o1, hr1, hs1⟩
  have k2 : ∃ o2', m r2 = some o2' ∧ o2'.st ≠ 2 := by
   by_cases hid : r2 = r
   ·exact ⟨o, by rw [hid]; exact hm, om⟩
   ·rw [bP _ _ _ _ hid] at hr2; exact ⟨o2, hr2, hs2⟩
  obtain ⟨o1', e1, e2⟩ := k1
  obtain ⟨o2', e3, e4⟩ := k2
  exact h.inj r1 o1' r2 o2' q q' e1 e2 e3 e4 hne hq hq'
 ·intro r' q hq
  by_cases hid : r' = r
  ·exact ⟨_, by subst hid; exact bE _ _ _⟩
  ·rw [bP _ _ _ _ hid]; exact h.dom r' q hq
theorem Inv.move {okF : Nat → Prop} {B : Nat} {σ : Places} {m : Mem} {w : World} (h : Inv okF B σ m w) {r id : Nat} {o o' : Ob} {p p' : Pl} {c c' : Array Value} (hm : m r = some o) (hs : o.st = 0) (hid : m id = none)
  (hp : σ r = some p) (hc : w.heap[p.blk]? = some (.cells c o.elem (0, 0))) (hsz : c'.size = c.size) (hb' : p'.blk = p.blk) (hz : p'.sz = o'.sz) (he : o'.elem = o.elem) (hcap : p'.base + p'.cap * p'.sz ≤ c.size) (hl : o'.cells.length ≤ p'.cap * p'.sz)
  (hst : o'.st = 0) (h1 : ∀ x, x ∈ o'.cells → x.one = true)
  (hr : ∀ (j : Nat) (x : LV), o'.cells[j]? = some x → ∃ v, c'[p'.base + j]? = some v ∧ Rel (okS okF σ m) w σ v x) :
  Inv okF B (setM σ id p') (setM (setM m r { o with cells := [], st := 2 }) id o') (w.setRow p.blk c') ∧ Ext okF B σ m w (setM σ id p') (setM (setM m r { o with cells := [], st := 2 }) id o') (w.setRow p.blk c') := by
 have hne : r ≠ id := by intro hq; subst hq; rw [hm] at hid; cases hid
 have hσ : σ id = none := by
  cases hs : σ id with
  | none => rfl
  | some q => obtain ⟨o', ho'⟩ := h.dom id q hs; rw [hid] at ho'; cases ho'
 obtain ⟨q, c0, g1, g2, g3, g4, g5, g6, g8, g7⟩ := h.at_ r o hm om
 rw [hp] at g1; cases g1
 rw [hc] at g3; cases g3
 have hother : ∀ k, k ≠ p.blk → (w.setRow p.blk c').heap[k]? = w.heap[k]? := fun k hk => by
  simp only [World.setRow, Array.getElem?_modify]; rw [if_neg om]
 have hsame : (w.setRow p.blk c').heap[p.blk]? = some (.cells c' o.elem (0, 0)) := setRow_heap w p.blk c c' o.elem (0, 0) hc
 have hsize : (w.setRow p.blk c').heap.size = w.heap.size := by simp [World.setRow]
 have look : ∀ r' o1, (setM (setM m r { o with cells := [], st := 2 }) id o') r' = some o1 → o1.st ≠ 2 → (r' = id ∧ o1 = o') ∨ (r' ≠ id ∧ r' ≠ r ∧ m r' = some o1) := by
  intro r' o1 hr' hs'
  by_cases h1 : r' = id
  ·subst h1; rw [bE] at hr'; cases hr'; exact .inl ⟨rfl, rfl⟩
  ·rw [bP _ _ _ _ h1] at hr'
   by_cases h2 : r' = r
   ·subst h2; rw [bE] at hr'; cases hr'; exact absurd rfl hs'
   ·rw [bP _ _ _ _ h2] at hr'; exact .inr ⟨h1, h2, hr'⟩
 have e : Ext okF B σ m w (setM σ id p') (setM (setM m r { o with cells := [], st := 2 }) id o') (w.setRow p.blk c') := by
  refine ⟨fun b hb hlt => ⟨⟨hb.1, ?_⟩, hother b fun hq => hb.2 r o p hm hs hp hq.symm⟩, ?_, ⟨rfl, rfl, rfl, om, fun k hk => hother k om⟩⟩
  ·intro r' o1 q hr' hs' hq
   rcases look r' o1 hr' om with ⟨rfl, rfl⟩ | ⟨k1, k2, k3⟩
   ·rw [bE] at hq; cases hq; rw [hb']; exact hb.2 r o p hm hs hp
   ·rw [bP _ _ _ _ k1] at hq; exact hb.2 r' o1 q k3 hs' hq
  ·intro r' q hq
   by_cases k : r' = id
   ·subst k; rw [hσ] at hq; cases hq
   ·rw [bP _ _ _ _ k]; exact hq
 refine ⟨⟨?_, ?_, ?_, h.new, by rw [hsize]; exact h.size⟩, e⟩
 ·intro r' o1 hr' hs'
  rcases look r' o1 hr' hs' with ⟨rfl, rfl⟩ | ⟨k1, k2, k3⟩
  ·refine ⟨p', c', bE _ _ _, hz, by rw [hb', he]; exact hsame, om, hl, by rw [hb']; exact g6, h1, fun j x hx => ?_⟩
   obtain ⟨v, hv, hvr⟩ := hr j x hx
   exact ⟨v, hv, e.rel hvr⟩
  ·obtain ⟨q, c2, j1, j2, j3, j4, j5, j6, j8, j7⟩ := h.at_ r' o1 k3 hs'
   refine ⟨q, c2, by rw [bP _ _ _ _ k1]; exact j1, j2, by rw [hother _ (fun hq => h.inj r o r' o1 p q hm hs k3 hs' (Ne.symm k2) hp j1 hq.symm)]; exact j3, j4, j5, j6, j8, fun j x hx => ?_⟩
   obtain ⟨v, hv, hvr⟩ := j7 j x hx
   exact ⟨v, hv, e.rel hvr⟩
 ·intro r1 o1 r2 o2 q q' hr1 hs1 hr2 hs2 hne' hq hq'
  rcases look r1 o1 hr1 om with ⟨rfl, rfl⟩ | ⟨k1, k2, k3⟩
  ·rw [bE] at hq; cases hq
   rcases look r2 o2 hr2 hs2 with ⟨rfl, rfl⟩ | ⟨l1, l2, l3⟩
   ·exact absurd rfl hne'
   ·rw [bP _ _ _ _ l1] at hq'; rw [hb']; exact h.inj r o r2 o2 p q' hm hs l3 hs2 (Ne.symm l2) hp hq'
  ·rw [bP _ _ _ _ k1] at hq
   rcases look r2 o2 hr2 hs2 with ⟨rfl, rfl⟩ | ⟨l1, l2, l3⟩
   ·rw [bE] at hq'; cases hq'; rw [hb']; exact h.inj r1 o1 r o q p k3 hs1 hm om k2 hq hp
   ·rw [bP _ _ _ _ l1] at hq'; exact h.inj r1 o1 r2 o2 q q' k3 hs1 l3 hs2 hne' hq hq'
 ·intro r' q hq
  by_cases k1 : r' = id
  ·exact ⟨_, by subst k1; exact bE _ _ _⟩
  ·rw [bP _ _ _ _ k1] at hq ⊢
   by_cases k2 : r' = r
   ·exact ⟨_, by subst k2; exact bE _ _ _⟩
   ·rw [bP _ _ _ _ k2]; exact h.dom r' q hq
open Go.RowKit
inductive TD where
 | int (k : IntKind) | bool | str | ptr | sl (e : TypeId) | arr (n : Nat) (e : TypeId) | st (fs : List (Nat × TypeId)) | func | map (k e : TypeId)
 deriving Inhabited
structure TI where
 size : Nat
 bytes : Nat
 zero : List Value
 desc : TD
 deriving Inhabited
def TI.agg (t : TI) : Bool := match t.desc with | .st _ | .arr _ _ => true | _ => false
def TD.fits : TD → TypeDesc → Prop
 | .int k, d => d = .int k
 | .bool, d => d = .bool
 | .str, d => d = .string
 | .ptr, d => ∃ e, d = .pointer e
 | .sl e, d => d = .slice e
 | .arr n e, d => d = .array n e
 | .st fs, d => ∃ gs : Array Field, d = .struct gs ∧ gs.toList.map (fun f => (f.offset, f.type)) = fs
 | .func, d => ∃ a b c, d = .func a b c
 | .map k e, d => d = .map k e
def zsc : Value → Bool
 | .slice none 0 0 => true
 | .tuple _ => false
 | x => x.sc
def lz : Value → LV
 | .slice none 0 0 => .sl 0 []
 | x => .v x
abbrev TT := TypeId → Option TI
structure TypeOk (P : Program) (t : TypeId) (ti : TI) : Prop where
 info : ∃ i z, P.info? t = some i ∧ i.size = ti.size ∧ i.bytes = ti.bytes ∧ i.zero = some z ∧ z.cells.toList = ti.zero
 under : ∃ d, P.underlying t = some d ∧ ti.desc.fits d
 size : ti.zero.length = ti.size
 zeros : ∀ v, v ∈ ti.zero → zsc v = true
def TypesOk (P : Program) (T : TT) : Prop := ∀ t ti, T t = some ti → TypeOk P t ti
def EqKind (P : Program) (t : TypeId) (x y : Value) : Prop := match P.underlying t with
 | some (.array _ _) => ∃ p q, x = .bool p ∧ y = .bool q
 | _ => ∃ k a b, x = .int k a ∧ y = .int k b
def EqOk (P : Program) (t : TypeId) : Prop := P.eqGuardType P.depth t = false ∧
 ∀ (xs ys : Array Value) (w : World), xs.size = ys.size → P.cellsOf t = xs.size →
  (∀ (i : Nat) (x y : Value), xs[i]? = some x → ys[i]? = some y → EqKind P t x y) →
  ∃ b, (Op.equalIn 10000 t (.agg xs) (.agg ys)).run P w = .ok b w ∧ (b = true ↔ xs = ys)
def dsc (T : TT) (t : TypeId) : Option TD := match T t with
 | some ti => some ti.desc
 | none => none
def cellsAt (m : Mem) : LV → Option (List LV)
 | .ro cs => some cs
 | .ptr r off => match m r with
  | some o => if o.st = 2 then none else some (o.cells.drop off)
  | none => none
 | _ => none
def loadLV (ti : TI) (cs : List LV) : Option LV :=
 if ti.agg then (if ti.size ≤ cs.length then some (.agg (cs.take ti.size)) else none) else cs[0]?
def putCells (cs : List LV) (off : Nat) (vs : List LV) : Option (List LV) :=
 if off + vs.length ≤ cs.length then some (cs.take off ++ (vs ++ cs.drop (off + vs.length))) else none
def LV.storable : LV → Bool
 | .agg _ => true
 | x => x.one
def intBin (op : BinOp) (k : IntKind) (a b : Int) : Option Value :=
 match op with
 | .add => some (.int k (k.wrap (a + b)))
 | .sub => some (.int k (k.wrap (a - b)))
 | .mul => some (.int k (k.wrap (a * b)))
 | .quo => if b = 0 then none else some (.int k (k.wrap (a.tdiv b)))
 | .rem => if b = 0 then none else some (.int k (a.tmod b))
 | .and => some (.int k (k.wrap (BitVec.ofInt k.bits a &&& BitVec.ofInt k.bits b).toNat))
 | .or => some (.int k (k.wrap (BitVec.ofInt k.bits a ||| BitVec.ofInt k.bits b).toNat))
 | .xor => some (.int k (k.wrap (BitVec.ofInt k.bits a ^^^ BitVec.ofInt k.bits b).toNat))
 | .andNot => some (.int k (k.wrap (BitVec.ofInt k.bits a &&& ~~~ BitVec.ofInt k.bits b).toNat))
 | .eql => some (.bool (a == b))
 | .neq => some (.bool (a != b))
 | .lss => some (.bool (decide (a < b)))
 | .leq => some (.bool (decide (a ≤ b)))
 | .gtr => some (.bool (decide (a > b)))
 | .geq => some (.bool (decide (a ≥ b)))
 | _ => none
def shiftBin (op : BinOp) (k : IntKind) (a b : Int) : Option Value :=
 if b < 0 then none else
 match op with
 | .shl => some (.int k (k.wrap (a * 2 ^ (min b.toNat k.bits))))
 | .shr => some (.int k (a.fdiv (2 ^ (min b.toNat k.bits))))
 | _ => none
def cellsEq : List LV → List LV → Option Bool
 | [], [] => some true
 | .v (.int k a) :: xs, .v (.int k' b) :: ys => if k = k' then (cellsEq xs ys).map ((a == b) && ·) else none
 | _, _ => none
def cellsEqB : List LV → List LV → Option Bool
 | [], [] => some true
 | .v (.bool a) :: xs, .v (.bool b) :: ys => (cellsEqB xs ys).map ((a == b) && ·)
 | _, _ => none
def eqK (ti : TI) (cs ds : List LV) : Option Bool := match ti.desc with
 | .arr _ _ => cellsEqB cs ds
 | _ => cellsEq cs ds
def binLV (T : TT) (E : TypeId → Bool) (op : BinOp) (t : TypeId) (x y : LV) : Option Value :=
 match x, y with
 | .v (.int k a), .v (.int k' b) =>
  match op with
  | .shl | .shr => shiftBin op k a b
  | _ => if k = k' then intBin op k a b else none
 | .v (.bool a), .v (.bool b) =>
  match dsc T t, op with
  | some .bool, .eql => some (.bool (a == b))
  | some .bool, .neq => some (.bool (a != b))
  | _, _ => none
 | .sl k _, .sl 0 _ =>
  match dsc T t, op with
  | some (.sl _), .eql => some (.bool (k == 0))
  | some (.sl _), .neq => some (.bool (k != 0))
  | _, _ => none
 | .ref .., .sl 0 _ =>
  match dsc T t, op with
  | some (.sl _), .eql => some (.bool false)
  | some (.sl _), .neq => some (.bool true)
  | _, _ => none
 | .agg cs, .agg ds =>
  match T t with
  | some ti => if E t && decide (cs.length = ti.size) then
    match op with
    | .eql => (eqK ti cs ds).map .bool
    | .neq => (eqK ti cs ds).map fun b => .bool (!b)
    | _ => none
   else none
  | none => none
 | _, _ => none
def unLV (op : UnOp) (x : LV) : Option Value :=
 match op, x with
 | .neg, .v (.int k a) => some (.int k (k.wrap (0 - a)))
 | .xor, .v (.int k a) => intBin .xor k (if k.signed then -1 else k.max) a
 | .not, .v (.bool b) => some (.bool !b)
 | _, _ => none
def fillLV (place : Nat → Option (Nat × Nat)) (cs : List LV) : List (Nat × LV) → Option (List LV)
 | [] => some cs
 | (i, x) :: rest =>
  match place i with
  | none => none
  | some (off, size) =>
   if x.storable && decide (x.cells.length = size) then
    match putCells cs off x.cells with
    | some cs' => fillLV place cs' rest
    | none => none
   else none
def partLV (ti : TI) (cs : List LV) (off : Nat) : Option LV :=
 if ti.agg then (if off + ti.size ≤ cs.length then some (.agg ((cs.drop off).take ti.size)) else none) else cs[off]?
def boundLV (v : Option LV) (d : Nat) : Option Nat := match v with
 | none => some d
 | some (.v (.int _ i)) => if 0 ≤ i then some i.toNat else none
 | _ => none
def sliceLV (x : LV) (lo hi : Option LV) : Option LV :=
 match x with
 | .sl k xs => match boundLV hi xs.length, boundLV lo 0 with
  | some h, some l => if l ≤ h ∧ h ≤ xs.length then some (.sl (if k = 2 ∧ h < xs.length then 1 else k) ((xs.take h).drop l)) else none
  | _, _ => none
 | .ref r sz off len => match boundLV hi len, boundLV lo 0 with
  | some h, some l => if l ≤ h ∧ h ≤ len then some (.ref r sz (off + l) (h - l)) else none
  | _, _ => none
 | _ => none
def rowsOf (sz : Nat) (cells : List LV) (n : Nat) : List (List LV) := (List.range n).map fun i => (cells.drop (i * sz)).take sz
def flat (m : Mem) (sz : Nat) : LV → Option (List LV × Nat)
 | .sl _ xs => if 0 < sz ∧ xs.all (fun row => row.length == sz) then some (xs.flatten, xs.length) else none
 | .ref r sz' off len => match m r with
  | some o => if 0 < sz ∧ o.st ≠ 2 ∧ sz' = sz ∧ o.sz = sz ∧ (off + len) * sz ≤ o.cells.length then some ((o.cells.drop (off * sz)).take (len * sz), len) else none
  | none => none
 | _ => none
abbrev Delta := List (Nat × Ob)
def app (d : Delta) (m : Mem) : Mem := d.foldl (fun m p => setM m p.1 p.2) m
def appendLV (T : TT) (t xt : TypeId) (s x : LV) (m : Mem) (id : Nat) : Option (LV × Delta) :=
 match dsc T t, dsc T xt with
 | some (.sl e), some (.sl _) =>
  match T e with
  | none => none
  | some te =>
   match flat m te.size x with
   | none => none
   | some (new, n) =>
    if n = 0 then
     match s with
     | .sl k xs => some (.sl k xs, [])
     | .ref r sz off len => some (.ref r sz off len, [])
     | _ => none
    else
     match s with
     | .sl k xs =>
      if (k = 0 ∧ xs = [] ∨ k = 2) ∧ xs.all (fun row => row.length == te.size) ∧ (2 * (xs.length + n) + 256) * te.bytes ≤ 2 ^ 48 ∧ xs.length + n < 2 ^ 62 then
       some (.ref id te.size 0 (xs.length + n), [(id, { cells := xs.flatten ++ new, sz := te.size, elem := e, st := 0 })])
      else none
     | .ref r sz off len =>
      match m r with
      | some o =>
       if o.st = 0 ∧ sz = te.size ∧ o.sz = te.size ∧ o.elem = e ∧ (off + len) * te.size = o.cells.length ∧ (2 * (len + n) + 256) * te.bytes ≤ 2 ^ 48 ∧ len + n < 2 ^ 62 then
        some (.ref id te.size 0 (len + n), [(r, { o with cells := [], st := 2 }), (id, { cells := o.cells.drop (off * te.size) ++ new, sz := te.size, elem := e, st := 0 })])
       else none
      | none => none
     | _ => none
 | _, _ => none
def copyLV (T : TT) (t : TypeId) (d x : LV) (m : Mem) : Option (LV × Delta) :=
 match dsc T t with
 | some (.sl e) =>
  match T e with
  | none => none
  | some te =>
   match d with
   | .ref r sz off len =>
    match m r, flat m te.size x with
    | some o, some (new, n) =>
     if o.st = 0 ∧ sz = te.size ∧ o.sz = te.size ∧ (off + len) * te.size ≤ o.cells.length ∧ n ≤ len then
      match putCells o.cells (off * te.size) new with
      | some cs => some (.v (.int .i64 n), [(r, { o with cells := cs })])
      | none => none
     else none
    | _, _ => none
   | _ => none
 | _ => none
def lenLV : LV → Option Nat
 | .sl _ xs => some xs.length
 | .ref _ _ _ len => some len
 | _ => none
def ext1 (f : Int → Int → Int) (k : IntKind) (a : Int) : List LV → Option LV
 | [] => some (.v (.int k a))
 | .v (.int k' b) :: rest => if k = k' then ext1 f k (f a b) rest else none
 | _ => none
def extremes (f : Int → Int → Int) : List LV → Option LV
 | .v (.int k a) :: rest => ext1 f k a rest
 | _ => none
def builtinLV (T : TT) (b : Builtin) (at_ : Array TypeId) (xs : List LV) (m : Mem) (id : Nat) : Option (LV × Delta) :=
 match b with
 | .len => match xs with
  | [x] => match dsc T (at_.getD 0 0) with
   | some (.sl _) => if at_.size = 0 then none else match lenLV x with
    | some n => some (.v (.int .i64 n), [])
    | none => none
   | some (.arr n _) => if at_.size = 0 then none else some (.v (.int .i64 n), [])
   | _ => none
  | _ => none
 | .append => match xs with
  | [s, x] => if at_.size = 2 then appendLV T (at_.getD 0 0) (at_.getD 1 0) s x m id else none
  | _ => none
 | .copy => match xs with
  | [d, x] => if at_.size = 0 then none else copyLV T (at_.getD 0 0) d x m
  | _ => none
 | .min => match extremes (fun a b => if b < a then b else a) xs with
  | some y => some (y, [])
  | none => none
 | .max => match extremes (fun a b => if b > a then b else a) xs with
  | some y => some (y, [])
  | none => none
 | _ => none
def aop (T : TT) (E : TypeId → Bool) (o : Op) (ev : Operand → LV) (m : Mem) (id : Nat) : Option (LV × Delta) :=
 let v (x : Option Value) : Option (LV × Delta) := x.map fun y => (.v y, [])
 let l (x : Option LV) : Option (LV × Delta) := x.map fun y => (y, [])
 match o with
 | .move x | .assign x => some (ev x, [])
 | .pick c a b => match ev c with
  | .v (.bool t) => some (if t then ev a else ev b, [])
  | _ => none
 | .alloc e => match T e with
  | some te => some (.ptr id 0, [(id, { cells := te.zero.map lz, sz := te.size, elem := e, st := 0 })])
  | none => none
 | .box e x => if (ev x).storable then some (.ptr id 0, [(id, { cells := (ev x).cells, sz := (ev x).cells.length, elem := e, st := 0 })]) else none
 | .build t parts => match T t with
  | some ti => match ti.desc with
   | .st fs => if fs.all (fun f => (T f.2).isSome) then l ((fillLV (fun i => (fs[i]?).bind fun f => (T f.2).map fun tf => (f.1, tf.size)) (ti.zero.map lz) (parts.toList.map fun p => (p.1, ev p.2))).map .agg) else none
   | .arr _ e => match T e with
    | some te => l ((fillLV (fun i => some (i * te.size, te.size)) (ti.zero.map lz) (parts.toList.map fun p => (p.1, ev p.2))).map .agg)
    | none => none
   | _ => none
  | none => none
 | .buildSlice t len parts => match dsc T t with
  | some (.sl e) => match T e with
   | some te =>
    if 0 < te.size ∧ len * te.size ≤ 2 ^ 24 then
     (fillLV (fun i => some (i * te.size, te.size)) (List.replicate len (te.zero.map lz)).flatten (parts.toList.map fun p => (p.1, ev p.2))).map fun cs => (.sl 2 (rowsOf te.size cs len), [])
    else none
   | none => none
  | _ => none
 | .load t a => match T t, cellsAt m (ev a) with
  | some ti, some cs => l (loadLV ti cs)
  | _, _ => none
 | .store t a x => match ev a, T t with
  | .ptr r off, some ti => match m r with
   | some o => if o.st = 0 ∧ (ev x).storable ∧ (ev x).cells.length = ti.size then
     match putCells o.cells off (ev x).cells with
     | some cs => some (.v undef, [(r, { o with cells := cs })])
     | none => none
    else none
   | none => none
  | _, _ => none
 | .nilCheck x => match ev x with
  | .ptr r off => some (.ptr r off, [])
  | .ro cs => some (.ro cs, [])
  | .fn (.func f) a b => some (.fn (.func f) a b, [])
  | _ => none
 | .binOp op t x y _ => v (binLV T E op t (ev x) (ev y))
 | .unOp op _ x => v (unLV op (ev x))
 | .convert s d x => match dsc T s, dsc T d, ev x with
  | some (.int _), some (.int k), .v (.int _ n) => some (.v (.int k (k.wrap n)), [])
  | _, _, _ => none
 | .makeFunc f first captured => some (.fn f (first.toList.map ev) (captured.toList.map ev), [])
 | .makeSlice t n c => match dsc T t, ev n, ev c with
  | some (.sl e), .v (.int _ l), .v (.int _ k) => match T e with
   | some te =>
    if 0 < te.size ∧ 0 ≤ l ∧ l ≤ k ∧ (te.bytes : Int) * k ≤ 2 ^ 48 ∧ k ≤ 2 ^ 48 then
     some (.ref id te.size 0 l.toNat, [(id, { cells := (List.replicate l.toNat (te.zero.map lz)).flatten, sz := te.size, elem := e, st := 0 })])
    else none
   | none => none
  | _, _, _ => none
 | .slice t x lo hi mx => match dsc T t, mx with
  | some (.sl e), none => match T e with
   | some te => match ev x with
    | .sl k xs => if xs.all (fun row => row.length == te.size) then l (sliceLV (.sl k xs) (lo.map ev) (hi.map ev)) else none
    | .ref r sz off len => if sz = te.size then l (sliceLV (.ref r sz off len) (lo.map ev) (hi.map ev)) else none
    | _ => none
   | none => none
  | _, _ => none
 | .fieldAddr t x f => match dsc T t with
  | some (.st fs) => match fs[f]? with
   | some (off, ft) => match T ft with
    | some tf => if tf.size = 0 then none else match ev x with
     | .ptr r o => some (.ptr r (o + off), [])
     | .ro cs => some (.ro (cs.drop off), [])
     | _ => none
    | none => none
   | none => none
  | _ => none
 | .field t x f => match dsc T t with
  | some (.st fs) => match fs[f]? with
   | some (off, ft) => match T ft, ev x with
    | some tf, .agg cs => l (partLV tf cs off)
    | _, _ => none
   | none => none
  | _ => none
 | .indexAddr t x i => match ev i with
  | .v (.int _ n) => match dsc T t with
   | some (.sl e) => match T e with
    | some te => match ev x with
     | .sl _ xs => if 0 ≤ n then match xs[n.toNat]? with
       | some row => if row.length = te.size then some (.ro row, []) else none
       | none => none
      else none
     | .ref r sz off len => if 0 ≤ n ∧ n < len ∧ sz = te.size then some (.ptr r ((off + n.toNat) * sz), []) else none
     | _ => none
    | none => none
   | some (.arr k e) => match T e with
    | some te => if 0 ≤ n ∧ n < k then match ev x with
      | .ptr r o => some (.ptr r (o + n.toNat * te.size), [])
      | .ro cs => some (.ro (cs.drop (n.toNat * te.size)), [])
      | _ => none
     else none
    | none => none
   | _ => none
  | _ => none
 | .index t x i => match ev i, dsc T t, ev x with
  | .v (.int _ n), some (.arr k e), .agg cs => match T e with
   | some te => if 0 ≤ n ∧ n < k then l (partLV te cs (n.toNat * te.size)) else none
   | none => none
  | .v (.int _ n), some .str, .v (.string s) => if 0 ≤ n then match s[n.toNat]? with
    | some b => some (.v (.int .u8 b.toNat), [])
    | none => none
   else none
  | _, _, _ => none
 | .extract t i => match ev t with
  | .tup vs => l vs[i]?
  | _ => none
 | .call c => match c.callee with
  | .builtin b => builtinLV T b c.argTypes (c.args.toList.map ev) m id
  | _ => none
 | _ => none
end Go.Ab
set_option linter.unusedSimpArgs false
namespace Go.Ab
open Go.RowKit
structure Sim (P : Program) (okF : Nat → Prop) (B : Nat) (σ : Places) (m : Mem) (w : World) (res : Result Next) (r : LV) (m' : Mem) : Prop where
 ex : ∃ v w' σ', (res = .ok (.value v) w' ∨ (res = .ok .skip w' ∧ v = undef)) ∧ Rel (okS okF σ' m') w' σ' v r ∧ Inv okF B σ' m' w' ∧ Ext okF B σ m w σ' m' w'
section
variable {P : Program} {T : TT} {E : TypeId → Bool} {okF : Nat → Prop} {B : Nat} {σ : Places} {m : Mem} {w : World}
theorem Sim.pure (hI : Inv okF B σ m w) {res : Result Next} {v : Value} {r : LV} (h : res = .ok (.value v) w) (hr : Rel (okS okF σ m) w σ v r) : Sim P okF B σ m w res r m :=
 ⟨v, w, σ, .inl h, hr, hI, .refl _ _ _ _ _⟩
def Seg (okF : Nat → Prop) (σ : Places) (m : Mem) (w : World) (a : Addr) (cs : List LV) (vs : Nat → Value) : Prop :=
 ∀ (j : Nat) (c : LV), cs[j]? = some c → a.spot = none ∧ w.cell? ⟨a.block, a.off + j, none⟩ = some (vs j) ∧ Rel (okS okF σ m) w σ (vs j) c ∧ c.one = true
theorem eT {α : Type} {l : List α} {i : Nat} {x : α} (h : l[i]? = some x) : x ∈ l := List.mem_of_getElem? h
theorem Inv.seg (hI : Inv okF B σ m w) {r : Nat} {o : Ob} (hm : m r = some o) (hs : o.st ≠ 2) {p : Pl} (hp : σ r = some p) (off : Nat) :
  Seg okF σ m w ⟨p.blk, p.base + off, none⟩ (o.cells.drop off) (fun j => (w.cell? ⟨p.blk, p.base + off + j, none⟩).getD undef) := by
 intro j c hj
 obtain ⟨q, c0, g1, g2, g3, g4, g5, g6, g8, g7⟩ := hI.at_ r o hm hs
 rw [hp] at g1; cases g1
 rw [List.getElem?_drop] at hj
 obtain ⟨v, hv, hr⟩ := g7 (off + j) c hj
 have hc : w.cell? ⟨p.blk, p.base + off + j, none⟩ = some v := by
  simp only [World.cell?, g3]; simpa [Nat.add_assoc] using hv
 have hv' : (w.cell? ⟨p.blk, p.base + off + j, none⟩).getD undef = v := by rw [hc]; rfl
 exact ⟨rfl, by show w.cell? _ = some ((w.cell? _).getD undef); rw [hv']; exact hc, by show Rel _ _ _ ((w.cell? _).getD undef) _; rw [hv']; exact hr, g8 c (eT hj)⟩
theorem mX (hI : Inv okF B σ m w) {v : Value} {l : LV} {cs : List LV} (h : cellsAt m l = some cs) (hr : Rel (okS okF σ m) w σ v l) :
  ∃ a vs, v = .pointer (some a) ∧ Seg okF σ m w a cs vs := by
 cases l with
 | ro cs' =>
  simp only [cellsAt, Option.some.injEq] at h; subst h
  cases hr with
  | ro a cs vs h1 h2 h3 => exact ⟨a, vs, rfl, fun j c hj => ⟨(h2 j c hj).1, (h2 j c hj).2.2, h3 j c hj, h1 c (eT hj)⟩⟩
 | ptr r off =>
  simp only [cellsAt] at h
  cases hm : m r with
  | none => rw [hm] at h; cases h
  | some o =>
   rw [hm] at h
   by_cases hs : o.st = 2
   ·simp [hs] at h
   ·simp only [hs, if_false, Option.some.injEq] at h; subst h
    cases hr with
    | ptr r off p hp => exact ⟨_, _, rfl, hI.seg hm hs hp off⟩
 | _ => simp [cellsAt] at h
theorem pL (hT : TypesOk P T) {t : TypeId} {ti : TI} (h : T t = some ti) (w : World) : (isAgg t).run P w = .ok ti.agg w := by
 obtain ⟨⟨i, z, h1, h2, h3, h4, h5⟩, ⟨d, h6, h7⟩, h8, h9⟩ := hT t ti h
 simp only [isAgg, Sem.run_bind, run_underlying h6, Result.andThen_ok]
 unfold TI.agg
 cases hd : ti.desc <;> simp only [hd, TD.fits] at h7
 all_goals first
  | (subst h7; rfl)
  | (obtain ⟨e, rfl⟩ := h7; rfl)
  | (obtain ⟨e, rfl, _⟩ := h7; rfl)
  | (obtain ⟨_, _, _, rfl⟩ := h7; rfl)
theorem cA (hT : TypesOk P T) {t : TypeId} {ti : TI} (h : T t = some ti) (w : World) : (sizeOf t).run P w = .ok ti.size w := by
 obtain ⟨⟨i, z, h1, h2, h3, h4, h5⟩, _⟩ := hT t ti h
 simp [sizeOf, typeInfo, h1, h2]
theorem iL (hT : TypesOk P T) {t : TypeId} {ti : TI} (h : T t = some ti) (w : World) : ∃ z, (zeroValue t).run P w = .ok z w ∧ z.cells.toList = ti.zero := by
 obtain ⟨⟨i, z, h1, h2, h3, h4, h5⟩, _⟩ := hT t ti h
 exact ⟨z, by simp [zeroValue, typeInfo, h1, h4], h5⟩
theorem fO (a : Addr) (j : Nat) (h : a.spot = none) : a.add j = ⟨a.block, a.off + j, none⟩ := by
 unfold Addr.add
 split
 ·rename_i h0; subst h0; cases a; simp_all
 ·cases a; simp_all
theorem load_run (hT : TypesOk P T) {t : TypeId} {ti : TI} (h : T t = some ti) {a : Addr} {cs : List LV} {vs : Nat → Value} (hs : Seg okF σ m w a cs vs) {r : LV} (hl : loadLV ti cs = some r) :
  ∃ v, (loadVar t a).run P w = .ok v w ∧ Rel (okS okF σ m) w σ v r := by
 simp only [loadVar, Sem.run_bind, pL hT h, Result.andThen_ok]
 unfold loadLV at hl
 by_cases hg : ti.agg = true
 ·simp only [hg, if_true] at hl ⊢
  by_cases hn : ti.size ≤ cs.length
  ·simp only [hn, if_true, Option.some.injEq] at hl; subst hl
   simp only [Sem.run_bind, cA hT h, Result.andThen_ok]
   rw [run_loadCells w a ti.size vs (fun j hj => by
    obtain ⟨h1, h2, _⟩ := hs j _ (List.getElem?_eq_getElem (by omega : j < cs.length))
    rw [fO a j h1]; exact h2)]
   refine ⟨_, rfl, .agg _ _ (by simp; omega) (fun c hc => ?_) (fun i v c hv hc => ?_)⟩
   ·obtain ⟨j, hj⟩ := List.getElem?_of_mem hc
    have hj2 : cs[j]? = some c := by
     rw [List.getElem?_take] at hj; split at hj
     ·exact hj
     ·cases hj
    exact (hs j c hj2).2.2.2
   ·rw [List.getElem?_take] at hc
    split at hc
    ·rename_i hlt
     have : v = vs i := by
      simp only [List.getElem?_toArray, List.getElem?_map, List.getElem?_range hlt, Option.map_some, Option.some.injEq] at hv
      exact hv.symm
     subst this
     exact (hs i c hc).2.2.1
    ·cases hc
  ·simp [hn] at hl
 ·simp only [Bool.not_eq_true] at hg
  simp only [hg, Bool.false_eq_true, if_false] at hl ⊢
  obtain ⟨h1, h2, h3, _⟩ := hs 0 r hl
  have ha : a = ⟨a.block, a.off + 0, none⟩ := by cases a; simp_all
  refine ⟨vs 0, ?_, h3⟩
  rw [run_load, show w.cell? a = some (vs 0) from by rw [ha]; exact h2]
theorem one_cell {ok : Nat → Prop} {w : World} {v : Value} {l : LV} (h : Rel ok w σ v l) (h1 : l.one = true) : v.oneCell' = true := by
 cases h with
 | v _ hx => cases v <;> simp_all [Value.oneCell', LV.one, Value.sc]
 | agg => simp [LV.one] at h1
 | tup => simp [LV.one] at h1
 | bad => simp [LV.one] at h1
 | _ => rfl
structure RelL (okF : Nat → Prop) (σ : Places) (m : Mem) (w : World) (vs : Array Value) (cs : List LV) : Prop where
 size : vs.size = cs.length
 one : ∀ c, c ∈ cs → c.one = true
 rel : ∀ (i : Nat) (v : Value) (c : LV), vs[i]? = some v → cs[i]? = some c → Rel (okS okF σ m) w σ v c
theorem Rel.toL {v : Value} {l : LV} (h : Rel (okS okF σ m) w σ v l) (h1 : l.storable = true) : RelL okF σ m w v.cells l.cells := by
 have single : ∀ {v : Value} {l : LV}, Rel (okS okF σ m) w σ v l → l.one = true → v.cells = #[v] → l.cells = [l] → RelL okF σ m w v.cells l.cells := by
  intro v l h h1 e1 e2
  rw [e1, e2]
  refine ⟨rfl, fun c hc => by simp at hc; subst hc; exact h1, fun i x c hx hc => ?_⟩
  cases i with
  | zero => simp at hx hc; subst hx; subst hc; exact h
  | succ i => simp at hc
 cases h with
 | agg vs cs g1 g2 g3 => exact ⟨g1, g2, g3⟩
 | v _ hx =>
  have : (LV.v v).one = true := h1
  refine single (.v v hx) this ?_ rfl
  cases v <;> simp_all [Value.cells, LV.one, Value.sc]
 | tup => simp [LV.storable, LV.one] at h1
 | bad => simp [LV.storable, LV.one] at h1
 | nil => exact single .nil rfl rfl rfl
 | sl a cap k sz xs vs g1 g2 g3 g4 g5 => exact single (.sl a cap k sz xs vs g1 g2 g3 g4 g5) rfl rfl rfl
 | ro a cs vs g1 g2 g3 => exact single (.ro a cs vs g1 g2 g3) rfl rfl rfl
 | ref r sz off len cap p g1 g2 g3 g4 => exact single (.ref r sz off len cap p g1 g2 g3 g4) rfl rfl rfl
 | ref0 a r sz off => exact single (.ref0 a r sz off) rfl rfl rfl
 | ptr r off p g => exact single (.ptr r off p g) rfl rfl rfl
 | fn f vs us cs ds g1 g2 g3 g4 => exact single (.fn f vs us cs ds g1 g2 g3 g4) rfl rfl rfl
theorem RelL.ones {vs : Array Value} {cs : List LV} (h : RelL okF σ m w vs cs) : ∀ v, v ∈ vs.toList → v.oneCell' = true := by
 intro v hv
 obtain ⟨i, hi⟩ := List.getElem?_of_mem hv
 have hlt : i < cs.length := by
  have := (List.getElem?_eq_some_iff.1 hi).1
  rw [Array.length_toList, h.size] at this; exact this
 have hc := List.getElem?_eq_getElem hlt
 exact one_cell (h.rel i v _ (by simpa using hi) hc) (h.one _ (eT hc))
theorem put_rel (hI : Inv okF B σ m w) {r : Nat} {o : Ob} {p : Pl} {c : Array Value} (hm : m r = some o) (hs : o.st ≠ 2) (hp : σ r = some p) (hc : w.heap[p.blk]? = some (.cells c o.elem (0, 0)))
  {off : Nat} {vs : Array Value} {xs cells : List LV} (hx : RelL okF σ m w vs xs) (hput : putCells o.cells off xs = some cells) :
  cells.length = o.cells.length ∧ (∀ x, x ∈ cells → x.one = true) ∧ p.base + off + vs.size ≤ c.size ∧
  ∀ (j : Nat) (x : LV), cells[j]? = some x → ∃ v, ((c.toList.take (p.base + off) ++ vs.toList ++ c.toList.drop (p.base + off + vs.toList.length)).toArray)[p.base + j]? = some v ∧ Rel (okS okF σ m) w σ v x := by
 obtain ⟨q, c0, g1, g2, g3, g4, g5, g6, g8, g7⟩ := hI.at_ r o hm hs
 rw [hp] at g1; cases g1
 rw [hc] at g3; cases g3
 unfold putCells at hput
 by_cases hle : off + xs.length ≤ o.cells.length
 ·simp only [hle, if_true, Option.some.injEq] at hput; subst hput
  have hsz := hx.size
  have hb : p.base + off + vs.size ≤ c.size := by omega
  refine ⟨by simp; omega, fun x hx' => ?_, hb, fun j x hj => ?_⟩
  ·simp only [List.mem_append] at hx'
   rcases hx' with h | h | h
   ·exact g8 x (List.mem_of_mem_take h)
   ·exact hx.one x h
   ·exact g8 x (List.mem_of_mem_drop h)
  ·simp only [List.getElem?_append, List.length_take, List.getElem?_take, List.getElem?_drop] at hj
   simp only [List.getElem?_toArray, List.getElem?_append, List.length_append, List.length_take, Array.length_toList, List.getElem?_take, List.getElem?_drop]
   have hm1 : min off o.cells.length = off := by omega
   have hm2 : min (p.base + off) c.size = p.base + off := by omega
   rw [hm1] at hj; rw [hm2]
   by_cases h1 : j < off
   ·simp only [h1, if_true] at hj
    obtain ⟨v, hv, hr⟩ := g7 j x hj
    refine ⟨v, ?_, hr⟩
    rw [if_pos om, if_pos om, if_pos om]
    simpa using hv
   ·simp only [h1, if_false] at hj
    by_cases h2 : j - off < xs.length
    ·rw [if_pos h2] at hj
     have h3 : j - off < vs.size := by omega
     refine ⟨vs[j - off], ?_, hx.rel (j - off) _ x (Array.getElem?_eq_getElem h3) hj⟩
     rw [if_pos om, if_neg om]
     rw [show p.base + j - (p.base + off) = j - off by omega]
     simp [h3]
    ·rw [if_neg h2] at hj
     rw [show off + xs.length + (j - off - xs.length) = j by omega] at hj
     obtain ⟨v, hv, hr⟩ := g7 j x hj
     refine ⟨v, ?_, hr⟩
     rw [if_neg om]
     rw [show p.base + off + vs.size + (p.base + j - (p.base + off + vs.size)) = p.base + j by omega]
     simpa using hv
 ·simp [hle] at hput
theorem nJ (hI : Inv okF B σ m w) {r : Nat} {o : Ob} {p : Pl} (hm : m r = some o) (hs : o.st = 0) (hp : σ r = some p) {off : Nat} {vs : Array Value} {xs cells : List LV}
  (hx : RelL okF σ m w vs xs) (hput : putCells o.cells off xs = some cells) :
  ∃ w', (storeCells ⟨p.blk, p.base + off, none⟩ vs.toList).run P w = .ok () w' ∧ Inv okF B σ (setM m r { o with cells := cells }) w' ∧ Ext okF B σ m w σ (setM m r { o with cells := cells }) w' := by
 obtain ⟨q, c, g1, g2, g3, g4, g5, g6, g8, g7⟩ := hI.at_ r o hm om
 rw [hp] at g1; cases g1
 obtain ⟨h1, h2, h3, h4⟩ := put_rel hI hm om hp g3 hx hput
 have hrun := run_storeCells_at (P := P) p.blk (p.base + off) o.elem vs.toList 0 c w g3 (by simp; omega) hx.ones
 simp only [Nat.add_zero] at hrun
 have := hI.write hm hs hp g3 (c' := (c.toList.take (p.base + off) ++ vs.toList ++ c.toList.drop (p.base + off + vs.toList.length)).toArray) (by simp; omega) h1 h2 h4
 exact ⟨_, hrun, this.1, this.2⟩
end
end Go.Ab
namespace Go.Ab
open Go.RowKit
section
variable {P : Program} {T : TT} {E : TypeId → Bool} {okF : Nat → Prop} {B : Nat} {σ : Places} {m : Mem} {w : World}
theorem intBin_run {op : BinOp} {t : TypeId} {k : IntKind} {a b : Int} {v : Value} (hop : op ≠ .shl ∧ op ≠ .shr) (h : intBin op k a b = some v) : (binOp op t (.int k a) (.int k b)).run P w = .ok v w ∧ v.sc = true := by
  cases op <;> simp only [intBin] at h <;> first
    | (cases h; done)
    | (simp at hop; done)
    | (split at h; · cases h
       rename_i hb; cases h; simp [binOp, Op.intDiv, hb, Value.sc])
    | (cases h; simp [binOp, Op.intArith, Op.intBits, Op.intCmp, Value.sc]; done)
theorem mA {op : BinOp} {t : TypeId} {k k' : IntKind} {a b : Int} {v : Value} (h : shiftBin op k a b = some v) : (binOp op t (.int k a) (.int k' b)).run P w = .ok v w ∧ v.sc = true := by
  unfold shiftBin at h
  split at h
  · cases h
  · rename_i hb
    cases op <;> simp only at h <;> first
      | (cases h; done)
      | (cases h; simp [binOp, Op.shift, hb, Value.sc])
theorem lK : ∀ {cs ds : List LV} {b : Bool}, cellsEq cs ds = some b → cs.length = ds.length ∧
    (∀ (i : Nat) (x y : LV), cs[i]? = some x → ds[i]? = some y → ∃ k a b, x = .v (.int k a) ∧ y = .v (.int k b)) ∧ (b = true ↔ cs = ds)
  | [], [], b, h => by simp [cellsEq] at h; subst h; simp
  | [], y :: ds, b, h => by simp [cellsEq] at h
  | x :: cs, ds, b, h => by
    unfold cellsEq at h
    split at h
    · rename_i h1; cases h1
    · rename_i k a xs k' a' ys h1
      cases h1
      split at h
      · rename_i hk; subst hk
        cases hq : cellsEq cs ys with
        | none => simp [hq] at h
        | some b' =>
          simp only [hq, Option.map_some, Option.some.injEq] at h
          obtain ⟨i1, i2, i3⟩ := lK hq
          refine ⟨by simp [i1], fun i x y hx hy => ?_, ?_⟩
          · cases i with
            | zero => simp at hx hy; subst hx; subst hy; exact ⟨_, _, _, rfl, rfl⟩
            | succ i => simp at hx hy; exact i2 i x y hx hy
          · subst h; simp [i3]
      · cases h
    · cases h
theorem gO {op : BinOp} {t : TypeId} {x y : Operand} {a b : Value} (h : (∃ xs ys, a = .agg xs ∧ b = .agg ys ∧ P.eqGuardType P.depth t = false) ∨ ((∀ xs, a ≠ .agg xs) ∧ a ≠ .nilIface)) :
    (eqGuard op t x y a b).run P w = .ok () w := by
  rcases h with ⟨xs, ys, rfl, rfl, h⟩ | ⟨h1, h2⟩
  · exact run_eqGuard_agg (P := P) w op t x y xs ys h
  · cases a <;> first
      | (exfalso; exact h1 _ rfl)
      | (exfalso; exact h2 rfl)
      | (cases op <;> rfl)
theorem mY {t : TypeId} {p q : Bool} (hu : P.underlying t = some .bool) : (Op.equal t (.bool p) (.bool q)).run P w = .ok (p == q) w := by
  exact run_equalIn_bool' w 9999 t p q hu
theorem jB {t : TypeId} {e : TypeId} {a : Option Addr} {l c : Nat} (hu : P.underlying t = some (.slice e)) : (Op.equal t (.slice a l c) (.slice none 0 0)).run P w = .ok a.isNone w := by
  have key : ∀ d, (Op.equalIn (d + 1) t (.slice a l c) (.slice none 0 0)).run P w = .ok a.isNone w := fun d => by cases a <;> simp [Op.equalIn, run_underlying hu]
  exact key 9999
theorem cH (hT : TypesOk P T) {t : TypeId} {d : TD} (h : dsc T t = some d) : ∃ d', P.underlying t = some d' ∧ d.fits d' := by
  unfold dsc at h
  cases ht : T t with
  | none => rw [ht] at h; cases h
  | some ti => rw [ht] at h; cases h; exact (hT t ti ht).under
theorem kU : ∀ {cs ds : List LV} {b : Bool}, cellsEqB cs ds = some b → cs.length = ds.length ∧
    (∀ (i : Nat) (x y : LV), cs[i]? = some x → ds[i]? = some y → ∃ p q, x = .v (.bool p) ∧ y = .v (.bool q)) ∧ (b = true ↔ cs = ds)
  | [], [], b, h => by simp [cellsEqB] at h; subst h; simp
  | [], y :: ds, b, h => by simp [cellsEqB] at h
  | x :: cs, ds, b, h => by
    unfold cellsEqB at h
    split at h
    · rename_i h1; cases h1
    · rename_i a xs a' ys h1
      cases h1
      cases hq : cellsEqB cs ys with
      | none => simp [hq] at h
      | some b' =>
        simp only [hq, Option.map_some, Option.some.injEq] at h
        obtain ⟨i1, i2, i3⟩ := kU hq
        refine ⟨by simp [i1], fun i x y hx hy => ?_, ?_⟩
        · cases i with
          | zero => simp at hx hy; subst hx; subst hy; exact ⟨_, _, rfl, rfl⟩
          | succ i => simp at hx hy; exact i2 i x y hx hy
        · subst h; simp [i3]
    · cases h
theorem eqK_scal {t : TypeId} {ti : TI} {d : TypeDesc} (hu : P.underlying t = some d) (hf : ti.desc.fits d) {cs ds : List LV} {b : Bool} (h : eqK ti cs ds = some b) : cs.length = ds.length ∧
    (∀ (i : Nat) (x y : LV), cs[i]? = some x → ds[i]? = some y → ∃ u v, x = .v u ∧ y = .v v ∧ EqKind P t u v) ∧ (b = true ↔ cs = ds) := by
  have na : (∀ n e, ti.desc ≠ .arr n e) → cs.length = ds.length ∧
    (∀ (i : Nat) (x y : LV), cs[i]? = some x → ds[i]? = some y → ∃ u v, x = .v u ∧ y = .v v ∧ EqKind P t u v) ∧ (b = true ↔ cs = ds) := fun hn => by
    have h' : cellsEq cs ds = some b := by
      unfold eqK at h
      split at h
      · rename_i n e he; exact absurd he (hn n e)
      · exact h
    obtain ⟨h1, h2, h3⟩ := lK h'
    refine ⟨h1, fun i x y hx hy => ?_, h3⟩
    obtain ⟨k, a, b, rfl, rfl⟩ := h2 i x y hx hy
    refine ⟨_, _, rfl, rfl, ?_⟩
    unfold EqKind
    rw [hu]
    cases d with
    | array n e =>
      exfalso
      cases hd : ti.desc with
      | arr n' e' => exact hn _ _ hd
      | st fs => rw [hd] at hf; obtain ⟨gs, hg, _⟩ := hf; cases hg
      | ptr => rw [hd] at hf; obtain ⟨_, hg⟩ := hf; cases hg
      | func => rw [hd] at hf; obtain ⟨_, _, _, hg⟩ := hf; cases hg
      | _ => rw [hd] at hf; cases hf
    | _ => exact ⟨k, a, b, rfl, rfl⟩
  cases hd : ti.desc with
  | arr n e =>
    have h' : cellsEqB cs ds = some b := by unfold eqK at h; rw [hd] at h; exact h
    obtain ⟨h1, h2, h3⟩ := kU h'
    refine ⟨h1, fun i x y hx hy => ?_, h3⟩
    obtain ⟨p, q, rfl, rfl⟩ := h2 i x y hx hy
    refine ⟨_, _, rfl, rfl, ?_⟩
    rw [hd] at hf
    have hf : d = .array n e := hf
    unfold EqKind
    rw [hu, hf]
    exact ⟨p, q, rfl, rfl⟩
  | _ => exact na (by rw [hd]; intro n e hc; cases hc)
theorem agg_run {t : TypeId} {ti : TI} {d : TypeDesc} (hu : P.underlying t = some d) (hf : ti.desc.fits d) (hE : EqOk P t) {xs ys : Array Value} {cs ds : List LV} (hx : RelL okF σ m w xs cs) (hy : RelL okF σ m w ys ds) {b : Bool} (hc : P.cellsOf t = cs.length) (h : eqK ti cs ds = some b) :
    (Op.equalIn 10000 t (.agg xs) (.agg ys)).run P w = .ok b w := by
  obtain ⟨h1, h2, h3⟩ := eqK_scal hu hf h
  have inv : ∀ {v : Value} {x : LV} {y : Value}, Rel (okS okF σ m) w σ v x → x = .v y → v = y := by
    intro v x y hr e; subst e; cases hr; rfl
  obtain ⟨b', hb, hb'⟩ := hE.2 xs ys w (by rw [hx.size, hy.size, h1]) (by rw [hc, hx.size]) (fun i x y hi hj => by
    have l1 : i < cs.length := by have := (Array.getElem?_eq_some_iff.1 hi).1; rw [hx.size] at this; exact this
    have l2 : i < ds.length := by omega
    have c1 := List.getElem?_eq_getElem l1
    have c2 := List.getElem?_eq_getElem l2
    have r1 := hx.rel i x _ hi c1
    have r2 := hy.rel i y _ hj c2
    obtain ⟨u, v, e1, e2, e3⟩ := h2 i _ _ c1 c2
    rw [inv r1 e1, inv r2 e2]; exact e3)
  have hcs : cs = ds ↔ xs = ys := by
    constructor
    · intro e; subst e
      apply Array.ext (by rw [hx.size, hy.size])
      intro i hi hi'
      have l1 : i < cs.length := by rw [← hx.size]; exact hi
      have c1 := List.getElem?_eq_getElem l1
      have r1 := hx.rel i _ _ (Array.getElem?_eq_getElem hi) c1
      have r2 := hy.rel i _ _ (Array.getElem?_eq_getElem hi') c1
      obtain ⟨u, v, e1, e2, _⟩ := h2 i _ _ c1 c1
      rw [inv r1 e1, inv r2 e1]
    · intro e; subst e
      apply List.ext_getElem h1
      intro i hi hi'
      have l1 : i < xs.size := by rw [hx.size]; exact hi
      have c1 := List.getElem?_eq_getElem hi
      have c2 := List.getElem?_eq_getElem hi'
      have r1 := hx.rel i _ _ (Array.getElem?_eq_getElem l1) c1
      have r2 := hy.rel i _ _ (Array.getElem?_eq_getElem l1) c2
      obtain ⟨u, v, e1, e2, _⟩ := h2 i _ _ c1 c2
      have := (inv r1 e1).symm.trans (inv r2 e2)
      rw [e1, e2, this]
  have : b' = b := by
    cases b <;> cases b' <;> simp_all
  rw [hb, this]
theorem binLV_run (hT : TypesOk P T) (hE : ∀ t, E t = true → EqOk P t) {op : BinOp} {t : TypeId} {x y : LV} {a b : Value} {xo yo : Operand} (hx : Rel (okS okF σ m) w σ a x) (hy : Rel (okS okF σ m) w σ b y) {v : Value}
    (h : binLV T E op t x y = some v) : (do eqGuard op t xo yo a b; binOp op t a b : Sem Value).run P w = .ok v w ∧ v.sc = true := by
  unfold binLV at h
  split at h
  · rename_i k n k' n'
    cases hx; cases hy
    rw [Sem.run_bind, gO (.inr ⟨by simp, by simp⟩)]
    simp only [Result.andThen_ok]
    split at h
    · exact mA h
    · exact mA h
    · rename_i h1 h2
      split at h
      · rename_i hk; subst hk; exact intBin_run ⟨h1, h2⟩ h
      · cases h
  · rename_i p q
    cases hx; cases hy
    rw [Sem.run_bind, gO (.inr ⟨by simp, by simp⟩)]
    simp only [Result.andThen_ok]
    split at h
    · rename_i hd
      cases h
      obtain ⟨d, hu, hf⟩ := cH hT hd
      simp only [TD.fits] at hf; subst hf
      exact ⟨by show Sem.run P (do pure (Value.bool (← Op.equal t (.bool p) (.bool q)))) w = _; rw [Sem.run_bind, mY hu]; rfl, rfl⟩
    · rename_i hd
      cases h
      obtain ⟨d, hu, hf⟩ := cH hT hd
      simp only [TD.fits] at hf; subst hf
      exact ⟨by show Sem.run P (do pure (Value.bool (!(← Op.equal t (.bool p) (.bool q))))) w = _; rw [Sem.run_bind, mY hu]; rfl, rfl⟩
    · cases h
  · rename_i k xs ys
    have hb : b = .slice none 0 0 := by
      cases hy with
      | nil => rfl
      | sl a cap k sz xs vs h1 _ _ _ _ => omega
    subst hb
    have ha : (k = 0 ∧ a = .slice none 0 0) ∨ (k ≠ 0 ∧ ∃ ad len cap, a = .slice (some ad) len cap) := by
      cases hx with
      | nil => exact .inl ⟨rfl, rfl⟩
      | sl a cap k sz xs vs h1 _ _ _ _ => exact .inr ⟨om, _, _, _, rfl⟩
    have e : ∃ a0 l0 c0, a = .slice a0 l0 c0 ∧ a0.isNone = (k == 0) := by
      rcases ha with ⟨rfl, rfl⟩ | ⟨hk, ad, len, cap, rfl⟩
      · exact ⟨_, _, _, rfl, rfl⟩
      · exact ⟨_, _, _, rfl, by simp [hk]⟩
    obtain ⟨a0, l0, c0, rfl, e2⟩ := e
    rw [Sem.run_bind, gO (.inr ⟨by simp, by simp⟩)]
    simp only [Result.andThen_ok]
    split at h
    · rename_i hd
      cases h
      obtain ⟨d, hu, hf⟩ := cH hT hd
      simp only [TD.fits] at hf; subst hf
      exact ⟨by show Sem.run P (do pure (Value.bool (← Op.equal t (.slice a0 l0 c0) (.slice none 0 0)))) w = _; rw [Sem.run_bind, jB hu, ← e2]; rfl, rfl⟩
    · rename_i hd
      cases h
      obtain ⟨d, hu, hf⟩ := cH hT hd
      simp only [TD.fits] at hf; subst hf
      exact ⟨by show Sem.run P (do pure (Value.bool (!(← Op.equal t (.slice a0 l0 c0) (.slice none 0 0))))) w = _; rw [Sem.run_bind, jB hu, show (k != 0) = !(k == 0) from rfl, ← e2]; rfl, rfl⟩
    · cases h
  · rename_i r sz off len ys
    have hb : b = .slice none 0 0 := by
      cases hy with
      | nil => rfl
      | sl a cap k sz xs vs h1 _ _ _ _ => omega
    subst hb
    have ha : ∃ ad len cap, a = .slice (some ad) len cap := by
      cases hx with
      | ref => exact ⟨_, _, _, rfl⟩
      | ref0 => exact ⟨_, _, _, rfl⟩
    obtain ⟨ad, len', cap, rfl⟩ := ha
    rw [Sem.run_bind, gO (.inr ⟨by simp, by simp⟩)]
    simp only [Result.andThen_ok]
    split at h
    · rename_i hd
      cases h
      obtain ⟨d, hu, hf⟩ := cH hT hd
      simp only [TD.fits] at hf; subst hf
      exact ⟨by show Sem.run P (do pure (Value.bool (← Op.equal t (.slice (some ad) len' cap) (.slice none 0 0)))) w = _; rw [Sem.run_bind, jB hu]; rfl, rfl⟩
    · rename_i hd
      cases h
      obtain ⟨d, hu, hf⟩ := cH hT hd
      simp only [TD.fits] at hf; subst hf
      exact ⟨by show Sem.run P (do pure (Value.bool (!(← Op.equal t (.slice (some ad) len' cap) (.slice none 0 0))))) w = _; rw [Sem.run_bind, jB hu]; rfl, rfl⟩
    · cases h
  · rename_i cs ds
    split at h
    · rename_i ti hti
      split at h
      · rename_i hc
        simp only [Bool.and_eq_true, decide_eq_true_eq] at hc
        cases hx with
        | agg xs _ g1 g2 g3 =>
          cases hy with
          | agg ys _ k1 k2 k3 =>
            have hcell : P.cellsOf t = cs.length := by
              obtain ⟨⟨i, z, j1, j2, _⟩, _⟩ := hT t ti hti
              simp [Program.cellsOf, j1, j2, hc.2]
            obtain ⟨d, hu, hf⟩ := (hT t ti hti).under
            have key := fun b h => agg_run (t := t) hu hf (hE t hc.1) (okF := okF) (σ := σ) (m := m) (w := w) ⟨g1, g2, g3⟩ ⟨k1, k2, k3⟩ (b := b) hcell h
            rw [Sem.run_bind, gO (.inl ⟨xs, ys, rfl, rfl, (hE t hc.1).1⟩)]
            simp only [Result.andThen_ok]
            split at h
            · cases hq : eqK ti cs ds with
              | none => simp [hq] at h
              | some bb =>
                simp only [hq, Option.map_some, Option.some.injEq] at h; subst h
                exact ⟨by rw [run_eql_struct, key bb hq]; rfl, rfl⟩
            · cases hq : eqK ti cs ds with
              | none => simp [hq] at h
              | some bb =>
                simp only [hq, Option.map_some, Option.some.injEq] at h; subst h
                exact ⟨by rw [run_neq_struct, key bb hq]; rfl, rfl⟩
            · cases h
      · cases h
    · cases h
  · cases h
theorem unLV_run {op : UnOp} {x : LV} {a v : Value} (hx : Rel (okS okF σ m) w σ a x) (h : unLV op x = some v) : (Op.unary op a).run P w = .ok v w ∧ v.sc = true := by
  unfold unLV at h
  split at h
  · cases hx; cases h; exact ⟨by simp [Op.unary, Op.intArith], rfl⟩
  · cases hx
    simp only [intBin, Option.some.injEq] at h; subst h
    exact ⟨by simp [Op.unary, Op.intBits], rfl⟩
  · cases hx; cases h; exact ⟨by simp [Op.unary], rfl⟩
  · cases h
end
end Go.Ab
namespace Go.Ab
open Go.RowKit
section
variable {P : Program} {T : TT} {E : TypeId → Bool} {okF : Nat → Prop} {B : Nat} {σ : Places} {m : Mem} {w : World}
theorem RelL.put {vs us : Array Value} {cs xs ds : List LV} {off : Nat} (h : RelL okF σ m w vs cs) (hx : RelL okF σ m w us xs) (hp : putCells cs off xs = some ds) :
  off + us.size ≤ vs.size ∧ RelL okF σ m w (us.zipIdx.foldl (fun cs (c, j) => cs.setIfInBounds (off + j) c) vs) ds := by
 unfold putCells at hp
 by_cases hle : off + xs.length ≤ cs.length
 ·simp only [hle, if_true, Option.some.injEq] at hp; subst hp
  have hle' : off + us.size ≤ vs.size := by rw [h.size, hx.size]; exact hle
  refine ⟨hle', ?_⟩
  have hf := Go.Great.foldl_set off us.toList 0 vs
  have e : (us.zipIdx.foldl (fun cs (c, j) => cs.setIfInBounds (off + j) c) vs) = ((us.toList.zipIdx 0).foldl (fun cs (x : Value × Nat) => cs.setIfInBounds (off + x.2) x.1) vs) := by
   rw [← Array.foldl_toList, Array.toList_zipIdx]
  rw [e]
  obtain ⟨f1, f2⟩ := hf
  refine ⟨by rw [f1, h.size]; simp; omega, fun c hc => ?_, fun i v c hv hc => ?_⟩
  ·simp only [List.mem_append] at hc
   rcases hc with k | k | k
   ·exact h.one c (List.mem_of_mem_take k)
   ·exact hx.one c k
   ·exact h.one c (List.mem_of_mem_drop k)
  ·rw [f2] at hv
   have hs1 := h.size
   have hs2 := hx.size
   simp only [Nat.add_zero, Array.length_toList] at hv
   simp only [List.getElem?_append, List.length_take, List.getElem?_take, List.getElem?_drop] at hc
   have hm1 : min off cs.length = off := by omega
   rw [hm1] at hc
   by_cases k1 : i < off
   ·simp only [k1, if_true] at hc
    rw [if_neg om] at hv
    exact h.rel i v c hv hc
   ·simp only [k1, if_false] at hc
    by_cases k2 : i - off < xs.length
    ·rw [if_pos k2] at hc
     rw [if_pos om] at hv
     exact hx.rel (i - off) v c (by simpa using hv) hc
    ·rw [if_neg k2] at hc
     rw [show off + xs.length + (i - off - xs.length) = i by omega] at hc
     rw [if_neg om] at hv
     exact h.rel i v c hv hc
 ·simp [hle] at hp
theorem lM {place : Nat → Option (Nat × Nat)} : ∀ {parts : List (Nat × Operand)} {ρ : Operand → Value} {ev : Operand → LV} (hev : ∀ x, Rel (okS okF σ m) w σ (ρ x) (ev x)) {vs : Array Value} {cs ds : List LV},
  RelL okF σ m w vs cs → fillLV place cs (parts.map fun p => (p.1, ev p.2)) = some ds →
  ∃ us, Instr.fill place vs (parts.map fun p => (p.1, ρ p.2)) = some us ∧ RelL okF σ m w us ds
 | [], ρ, ev, hev, vs, cs, ds, h, hf => by
  simp only [List.map_nil, fillLV, Option.some.injEq] at hf; subst hf
  exact ⟨vs, rfl, h⟩
 | (i, x) :: rest, ρ, ev, hev, vs, cs, ds, h, hf => by
  simp only [List.map_cons, fillLV] at hf
  simp only [List.map_cons, Instr.fill]
  cases hp : place i with
  | none => simp [hp] at hf
  | some q =>
   obtain ⟨off, size⟩ := q
   simp only [hp] at hf ⊢
   by_cases hst : (ev x).storable = true ∧ (ev x).cells.length = size
   ·simp only [hst.1, hst.2, decide_true, Bool.and_self, if_true] at hf
    have hx := (hev x).toL hst.1
    cases hq : putCells cs off (ev x).cells with
    | none => simp [hq] at hf
    | some cs' =>
     simp only [hq] at hf
     obtain ⟨k1, k2⟩ := h.put hx hq
     have hsz : (ρ x).cells.size = size := by rw [hx.size]; exact hst.2
     obtain ⟨us, g1, g2⟩ := lM (parts := rest) hev k2 hf
     refine ⟨us, ?_, g2⟩
     rw [if_neg (by simp; omega)]
     exact g1
   ·have hc : ((ev x).storable && decide ((ev x).cells.length = size)) = false := by
     rw [Bool.eq_false_iff]; intro hh; rw [Bool.and_eq_true, decide_eq_true_eq] at hh; exact hst hh
    rw [hc] at hf; simp at hf
theorem mL {v : Value} (h : zsc v = true) : Rel (okS okF σ m) w σ v (lz v) ∧ (lz v).one = true := by
 unfold lz
 split
 ·exact ⟨.nil, rfl⟩
 ·rename_i hne
  have hs : v.sc = true := by
   unfold zsc at h
   split at h
   ·simp at hne
   ·cases h
   ·exact h
  refine ⟨.v v hs, ?_⟩
  cases v <;> simp_all [LV.one, zsc, Value.sc]
theorem qF (hT : TypesOk P T) {t : TypeId} {ti : TI} (h : T t = some ti) (z : Value) (hz : z.cells.toList = ti.zero) : RelL okF σ m w z.cells (ti.zero.map lz) := by
 obtain ⟨_, _, hs, h0⟩ := hT t ti h
 refine ⟨by rw [← Array.length_toList, hz]; simp, fun c hc => ?_, fun i v c hv hc => ?_⟩
 ·obtain ⟨v, hv, rfl⟩ := List.mem_map.1 hc
  exact (mL (okF := okF) (σ := σ) (m := m) (w := w) (h0 v hv)).2
 ·have hv' : ti.zero[i]? = some v := by rw [← hz]; simpa using hv
  rw [List.getElem?_map, hv'] at hc
  simp only [Option.map_some, Option.some.injEq] at hc; subst hc
  exact (mL (h0 v (eT hv'))).1
theorem pD (hT : TypesOk P T) {t : TypeId} {ti : TI} (h : T t = some ti) (hpos : 0 < ti.size) (z : Array Value) (hz : z.toList = ti.zero) (n : Nat) :
  RelL okF σ m w ((Array.range (n * ti.size)).map (z[· % z.size]!)) (List.replicate n (ti.zero.map lz)).flatten := by
 obtain ⟨_, _, hs, h0⟩ := hT t ti h
 have hzs : z.size = ti.size := by rw [← Array.length_toList, hz, hs]
 have hlen : (List.replicate n (ti.zero.map lz)).flatten.length = n * ti.size := by
  simp [List.length_flatten, hs]
 have get : ∀ i, i < n * ti.size → (List.replicate n (ti.zero.map lz)).flatten[i]? = (ti.zero.map lz)[i % ti.size]? := by
  clear hlen
  induction n with
  | zero => intro i hi; omega
  | succ n ih =>
   intro i hi
   rw [List.replicate_succ, List.flatten_cons, List.getElem?_append]
   simp only [List.length_map, hs]
   split
   ·rename_i hlt; rw [Nat.mod_eq_of_lt hlt]
   ·rename_i hge
    rw [ih (i - ti.size) (by rw [Nat.succ_mul] at hi; omega)]
    rw [← Nat.mod_eq_sub_mod om]
 refine ⟨by simp [hlen], fun c hc => ?_, fun i v c hv hc => ?_⟩
 ·obtain ⟨l, hl, hcl⟩ := List.mem_flatten.1 hc
  obtain ⟨_, rfl⟩ := List.mem_replicate.1 hl
  obtain ⟨v, hv, rfl⟩ := List.mem_map.1 hcl
  exact (mL (okF := okF) (σ := σ) (m := m) (w := w) (h0 v hv)).2
 ·have hi : i < n * ti.size := by
   have := (List.getElem?_eq_some_iff.1 hc).1; rw [hlen] at this; exact this
  rw [get i hi] at hc
  have hmod : i % ti.size < ti.zero.length := by rw [hs]; exact Nat.mod_lt _ hpos
  rw [List.getElem?_map, List.getElem?_eq_getElem hmod] at hc
  simp only [Option.map_some, Option.some.injEq] at hc; subst hc
  have hv' : v = ti.zero[i % ti.size] := by
   simp only [Array.getElem?_map, Array.getElem?_range, hi, if_true, Option.map_some, Option.some.injEq] at hv
   rw [← hv]
   have hlt : i % z.size < z.size := by rw [hzs]; exact Nat.mod_lt _ hpos
   rw [getElem!_pos z _ hlt]
   have h2 : z.toList[i % z.size]? = ti.zero[i % ti.size]? := by rw [hz, hzs]
   rw [List.getElem?_eq_getElem hmod, Array.getElem?_toList, Array.getElem?_eq_getElem hlt] at h2
   simpa using h2
  subst hv'
  exact (mL (h0 _ (List.getElem_mem hmod))).1
theorem part_run (hT : TypesOk P T) {t : TypeId} {ti : TI} (h : T t = some ti) {vs : Array Value} {cs : List LV} (hr : RelL okF σ m w vs cs) {off : Nat} {r : LV} (hl : partLV ti cs off = some r) :
  ∃ v, (part t vs off).run P w = .ok v w ∧ Rel (okS okF σ m) w σ v r := by
 simp only [part, Sem.run_bind, pL hT h, Result.andThen_ok]
 unfold partLV at hl
 by_cases hg : ti.agg = true
 ·simp only [hg, if_true] at hl ⊢
  by_cases hn : off + ti.size ≤ cs.length
  ·simp only [hn, if_true, Option.some.injEq] at hl; subst hl
   simp only [Sem.run_bind, cA hT h, Result.andThen_ok]
   refine ⟨_, rfl, .agg _ _ (by simp [hr.size]; omega) (fun c hc => hr.one c (List.mem_of_mem_drop (List.mem_of_mem_take hc))) (fun i v c hv hc => ?_)⟩
   rw [List.getElem?_take] at hc
   split at hc
   ·rename_i hlt
    rw [List.getElem?_drop] at hc
    refine hr.rel (off + i) v c ?_ hc
    rw [Array.getElem?_extract] at hv
    split at hv
    ·exact hv
    ·cases hv
   ·cases hc
  ·simp [hn] at hl
 ·simp only [Bool.not_eq_true] at hg
  simp only [hg, Bool.false_eq_true, if_false] at hl ⊢
  have hlt : off < vs.size := by
   have := (List.getElem?_eq_some_iff.1 hl).1; rw [hr.size]; exact this
  exact ⟨vs[off], by simp [hlt], hr.rel off _ r (Array.getElem?_eq_getElem hlt) hl⟩
end
end Go.Ab
namespace Go.Ab
open Go.RowKit
section
variable {P : Program} {T : TT} {E : TypeId → Bool} {okF : Nat → Prop} {B : Nat} {σ : Places} {m : Mem} {w : World}
theorem nA {α : Type} : ∀ {xs : List (List α)} {sz : Nat}, 0 < sz → (∀ row, row ∈ xs → row.length = sz) → ∀ (i : Nat), xs.flatten[i]? = (xs[i / sz]?).bind (·[i % sz]?)
 | [], sz, _, _, i => by simp
 | row :: xs, sz, hp, h, i => by
  have hr : row.length = sz := h row (by simp)
  rw [List.flatten_cons, List.getElem?_append]
  by_cases hlt : i < row.length
  ·rw [if_pos hlt, Nat.div_eq_of_lt om, Nat.mod_eq_of_lt om]; rfl
  ·rw [if_neg hlt, nA hp (fun r hr => h r (by simp [hr])) (i - row.length), hr]
   have h1 : i / sz = (i - sz) / sz + 1 := by rw [Nat.div_eq_sub_div hp om]
   rw [h1, List.getElem?_cons_succ, Nat.mod_eq_sub_mod (by omega : i ≥ sz)]
theorem gP {α : Type} : ∀ {xs : List (List α)} {sz : Nat}, (∀ row, row ∈ xs → row.length = sz) → xs.flatten.length = xs.length * sz
 | [], sz, _ => by simp
 | row :: xs, sz, h => by
  rw [List.flatten_cons, List.length_append, gP (fun r hr => h r (by simp [hr])), h row (by simp), List.length_cons, Nat.succ_mul, Nat.add_comm]
theorem map_getD (n : Nat) (f : Nat → Value) (i : Nat) (v : Value) (h : (((List.range n).map f).toArray)[i]? = some v) : i < n ∧ v = f i := by
 simp only [List.getElem?_toArray, List.getElem?_map] at h
 by_cases hi : i < n
 ·rw [List.getElem?_range hi] at h; simp at h; exact ⟨hi, h.symm⟩
 ·rw [List.getElem?_eq_none (by simpa using hi)] at h; simp at h
theorem iA (hI : Inv okF B σ m w) {sz : Nat} {l : LV} {v : Value} {cs : List LV} {n : Nat} (hr : Rel (okS okF σ m) w σ v l) (h : flat m sz l = some (cs, n)) :
  (∃ a c, v = .slice a n c ∧ n ≤ c) ∧ 0 < sz ∧ cs.length = n * sz ∧ ∃ us, (Builtin.firstCells sz n v).run P w = .ok us w ∧ RelL okF σ m w us cs := by
 cases l with
 | sl k xs =>
  simp only [flat] at h
  split at h
  ·rename_i hc
   obtain ⟨hp, hall⟩ := hc
   have hall' : ∀ row, row ∈ xs → row.length = sz := by
    intro row hrow
    have := List.all_eq_true.1 hall row hrow
    simpa using this
   simp only [Option.some.injEq, Prod.mk.injEq] at h
   obtain ⟨rfl, rfl⟩ := h
   cases hr with
   | nil => exact ⟨⟨_, _, rfl, Nat.le_refl _⟩, hp, by simp, #[], rfl, ⟨rfl, by simp, by simp⟩⟩
   | sl a cap k sz' xs vs h1 h2 h3 h4 h5 =>
    have hl := gP hall'
    refine ⟨⟨_, _, rfl, h2⟩, hp, hl, _, run_loadCells w a (xs.length * sz) (fun i => vs (i / sz) (i % sz)) (fun j hj => ?_), ⟨by simp [hl], fun c hc => ?_, fun i v c hv hc => ?_⟩⟩
    ·have hq : j / sz < xs.length := Nat.div_lt_of_lt_mul (by rw [Nat.mul_comm]; exact hj)
     have hrow := List.getElem?_eq_getElem hq
     have hmem := List.getElem_mem hq
     have hsz := hall' _ hmem
     have hm : j % sz < (xs[j / sz]).length := by rw [hsz]; exact Nat.mod_lt _ hp
     obtain ⟨g1, g2, g3⟩ := h4 (j / sz) (j % sz) _ _ hrow (List.getElem?_eq_getElem hm)
     have : sz' = sz := by rw [← (h3 _ hmem).1, hsz]
     rw [fO a j g1]
     rw [this, show j / sz * sz + j % sz = j by rw [Nat.mul_comm]; exact Nat.div_add_mod j sz] at g3
     exact g3
    ·obtain ⟨row, hrow, hcr⟩ := List.mem_flatten.1 hc
     exact (h3 row hrow).2 c hcr
    ·obtain ⟨hi, rfl⟩ := map_getD _ _ _ _ hv
     rw [nA hp hall'] at hc
     cases hq : xs[i / sz]? with
     | none => rw [hq] at hc; cases hc
     | some row => rw [hq] at hc; exact h5 _ _ row c hq hc
  ·cases h
 | ref r sz' off len =>
  simp only [flat] at h
  split at h
  ·rename_i o hm
   split at h
   ·rename_i hc
    obtain ⟨hp, hst, rfl, hosz, hle⟩ := hc
    simp only [Option.some.injEq, Prod.mk.injEq] at h
    obtain ⟨rfl, rfl⟩ := h
    have hlen : ((o.cells.drop (off * sz')).take (len * sz')).length = len * sz' := by
     rw [List.length_take, List.length_drop]
     rw [Nat.add_mul] at hle; omega
    cases hr with
    | ref _ _ _ _ cap p g1 g2 g3 g4 =>
     have hs := hI.seg hm hst g1 (off * sz')
     refine ⟨⟨_, _, rfl, g4⟩, hp, hlen, _, run_loadCells w _ (len * sz') (fun j => (w.cell? ⟨p.blk, p.base + off * sz' + j, none⟩).getD undef) (fun j hj => ?_), ⟨by simp; rw [Nat.add_mul] at hle; omega, fun c hc => ?_, fun i v c hv hc => ?_⟩⟩
     ·have hj2 : j < (o.cells.drop (off * sz')).length := by rw [List.length_drop]; rw [Nat.add_mul] at hle; omega
      obtain ⟨k1, k2, _⟩ := hs j _ (List.getElem?_eq_getElem hj2)
      rw [fO _ j rfl]; exact k2
     ·obtain ⟨j, hj⟩ := List.getElem?_of_mem (List.mem_of_mem_take hc)
      exact (hs j c hj).2.2.2
     ·obtain ⟨hi, rfl⟩ := map_getD _ _ _ _ hv
      rw [List.getElem?_take, if_pos hi] at hc
      exact (hs i c hc).2.2.1
    | ref0 a =>
     refine ⟨⟨_, _, rfl, Nat.le_refl _⟩, hp, hlen, #[], ?_, ⟨by simp, by simp, by simp⟩⟩
     simp [Builtin.firstCells, loadCells, loadCellsFrom]
   ·cases h
  ·cases h
 | _ => simp [flat] at h
theorem pK : ∀ (rounds n c K : Nat), c ≤ K → n + n / 4 + 200 ≤ K → Builtin.growBy n rounds c ≤ K
 | 0, n, c, K, h, _ => h
 | r + 1, n, c, K, h, h2 => by
  unfold Builtin.growBy
  split
  ·exact h
  ·rename_i hlt
   exact pK r n _ K om h2
theorem nN (n c : Nat) (h : c < n) : Builtin.nextslicecap n c ≤ 2 * n + 256 := by
 unfold Builtin.nextslicecap
 split
 ·omega
 ·split
  ·omega
  ·exact pK 4 n c _ om om
theorem Inv.grow (hI : Inv okF B σ m w) {id : Nat} (hm : m id = none) {old new rest : Array Value} {xs ys : List LV} {e : TypeId} {sz cap : Nat} (hx : RelL okF σ m w old xs) (hy : RelL okF σ m w new ys)
  (hc : (old ++ new ++ rest).size = cap * sz) :
  let p : Pl := ⟨w.heap.size, 0, sz, cap⟩
  let o : Ob := ⟨xs ++ ys, sz, e, 0⟩
  Inv okF B (setM σ id p) (setM m id o) (w.drew.alloc (.cells (old ++ new ++ rest) e (0, 0))) ∧ Ext okF B σ m w (setM σ id p) (setM m id o) (w.drew.alloc (.cells (old ++ new ++ rest) e (0, 0))) := by
 intro p o
 obtain ⟨i1, e1⟩ := hI.world (w' := w.drew) (Below.refl _ _).drew
 have s1 := hx.size
 have s2 := hy.size
 have := i1.alloc (id := id) hm (old ++ new ++ rest) o cap rfl (fun x hx' => by
   simp only [o, List.mem_append] at hx'
   rcases hx' with k | k
   ·exact hx.one x k
   ·exact hy.one x k) (by simp only [o]; omega) (by simp only [o, List.length_append]; simp at hc; omega) (fun j x hj => by
   simp only [o, List.getElem?_append] at hj
   rw [Array.getElem?_append, Array.getElem?_append]
   split at hj
   ·rename_i hlt
    have hlt2 : j < old.size := by omega
    refine ⟨old[j], ?_, e1.rel (hx.rel j _ x (Array.getElem?_eq_getElem hlt2) hj)⟩
    rw [if_pos (by simp; omega), if_pos hlt2]; exact Array.getElem?_eq_getElem hlt2
   ·rename_i hge
    have hlt3 : j - xs.length < ys.length := (List.getElem?_eq_some_iff.1 hj).1
    have hlt2 : j - xs.length < new.size := by omega
    refine ⟨new[j - xs.length], ?_, e1.rel (hy.rel _ _ x (Array.getElem?_eq_getElem hlt2) hj)⟩
    rw [if_pos (by simp; omega), if_neg om, s1]; exact Array.getElem?_eq_getElem hlt2)
 exact ⟨this.1, e1.trans this.2⟩
theorem Inv.kill (h : Inv okF B σ m w) {r : Nat} {o : Ob} (hm : m r = some o) :
  Inv okF B σ (setM m r { o with cells := [], st := 2 }) w ∧ Ext okF B σ m w σ (setM m r { o with cells := [], st := 2 }) w := by
 have e : Ext okF B σ m w σ (setM m r { o with cells := [], st := 2 }) w := by
  refine ⟨fun b hb hlt => ⟨⟨hb.1, ?_⟩, rfl⟩, fun _ _ h => h, Below.refl _ _⟩
  intro r' o' q hr' hs' hq
  by_cases hid : r' = r
  ·subst hid; rw [bE] at hr'; cases hr'; cases hs'
  ·rw [bP _ _ _ _ hid] at hr'; exact hb.2 r' o' q hr' hs' hq
 refine ⟨⟨?_, ?_, ?_, h.new, h.size⟩, e⟩
 ·intro r' o' hr' hs'
  by_cases hid : r' = r
  ·subst hid; rw [bE] at hr'; cases hr'; exact absurd rfl hs'
  ·rw [bP _ _ _ _ hid] at hr'
   obtain ⟨q, c', h1, h2, h3, h4, h5, h6, h8, h7⟩ := h.at_ r' o' hr' hs'
   exact ⟨q, c', h1, h2, h3, h4, h5, h6, h8, fun j x hx => let ⟨v, hv, hvr⟩ := h7 j x hx; ⟨v, hv, e.rel hvr⟩⟩
 ·intro r1 o1 r2 o2 q q' hr1 hs1 hr2 hs2 hne hq hq'
  have hid1 : r1 ≠ r := by intro hid; subst hid; rw [bE] at hr1; cases hr1; cases hs1
  have hid2 : r2 ≠ r := by intro hid; subst hid; rw [bE] at hr2; cases hr2; exact hs2 rfl
  rw [bP _ _ _ _ hid1] at hr1
  rw [bP _ _ _ _ hid2] at hr2
  exact h.inj r1 o1 r2 o2 q q' hr1 hs1 hr2 hs2 hne hq hq'
 ·intro r' q hq
  by_cases hid : r' = r
  ·exact ⟨_, by subst hid; exact bE _ _ _⟩
  ·rw [bP _ _ _ _ hid]; exact h.dom r' q hq
theorem Ext.relL {σ' : Places} {m' : Mem} {w' : World} (h : Ext okF B σ m w σ' m' w') {vs : Array Value} {cs : List LV} (hr : RelL okF σ m w vs cs) : RelL okF σ' m' w' vs cs :=
 ⟨hr.size, hr.one, fun i v c hv hc => h.rel (hr.rel i v c hv hc)⟩
theorem mV {t xt e ty : TypeId} {te : TI} (hT : TypesOk P T) (ht : dsc T t = some (.sl e)) (hxt : ∃ e', dsc T xt = some (.sl e')) (he : T e = some te) {base : Option Addr} {sLen sCap n : Nat} {x : Value} {new : Array Value}
  (hx : ∃ a c, x = .slice a n c) (hnew : (Builtin.firstCells te.size n x).run P w = .ok new w) (hroom : sLen + n ≤ sCap) :
  (Builtin.append_ #[t, xt] ty #[.slice base sLen sCap, x]).run P w = Result.andThen (Sem.run P (match base with | some a => storeCells (a.add (sLen * te.size)) new.toList | none => pure ()) w) fun _ w' => .ok (.slice base (sLen + n) sCap) w' := by
 obtain ⟨d, hu, hf⟩ := cH hT ht
 simp only [TD.fits] at hf; subst hf
 obtain ⟨e', hxt⟩ := hxt
 obtain ⟨d', hu', hf'⟩ := cH hT hxt
 simp only [TD.fits] at hf'; subst hf'
 obtain ⟨xa, xc, rfl⟩ := hx
 cases base with
 | none => simp [Builtin.append_, run_underlying hu, run_underlying hu', cA hT he, Builtin.lenOf, hroom, hnew]
 | some a => simp [Builtin.append_, run_underlying hu, run_underlying hu', cA hT he, Builtin.lenOf, hroom, hnew]
theorem lI {t xt e ty : TypeId} {te : TI} (hT : TypesOk P T) (ht : dsc T t = some (.sl e)) (hxt : ∃ e', dsc T xt = some (.sl e')) (he : T e = some te) {base : Option Addr} {sLen sCap n : Nat} {x : Value} {old new : Array Value}
  (hx : ∃ a c, x = .slice a n c) (hold : (Builtin.firstCells te.size sLen (.slice base sLen sCap)).run P w.drew = .ok old w.drew) (hnew : (Builtin.firstCells te.size n x).run P w.drew = .ok new w.drew)
  (hroom : sCap < sLen + n) (hsize : (2 * (sLen + n) + 256) * te.bytes ≤ 2 ^ 48) (hneed : sLen + n < 2 ^ 62) :
  ∃ cap rest, sLen + n ≤ cap ∧ rest.size = (cap - (sLen + n)) * te.size ∧ (Builtin.append_ #[t, xt] ty #[.slice base sLen sCap, x]).run P w =
   .ok (.slice (some ⟨w.heap.size, 0, none⟩) (sLen + n) cap) (w.drew.alloc (.cells (old ++ new ++ rest) e (0, 0))) := by
 obtain ⟨d, hu, hf⟩ := cH hT ht
 simp only [TD.fits] at hf; subst hf
 obtain ⟨e', hxt⟩ := hxt
 obtain ⟨d', hu', hf'⟩ := cH hT hxt
 simp only [TD.fits] at hf'; subst hf'
 obtain ⟨xa, xc, rfl⟩ := hx
 obtain ⟨⟨i, z, h1, h2, h3, h4, h5⟩, _, h6, _⟩ := hT e te he
 have hz : z.cells.size = te.size := by rw [← Array.length_toList, h5, h6]
 have hroom' : ¬ (sLen + n ≤ sCap) := by omega
 have hb := Nat.le_trans (Nat.mul_le_mul_right te.bytes (nN _ _ hroom)) hsize
 have hbig : ¬ (Builtin.nextslicecap (sLen + n) sCap * te.bytes > 2 ^ 48) := by omega
 have hmax : ¬ ((sLen : Int) + n > IntKind.i64.max) := by
  have : IntKind.i64.max = 9223372036854775807 := rfl
  rw [this]; omega
 have hmax2 : ¬ ((9223372036854775807 : Int) < ↑sLen + ↑n) := by omega
 refine ⟨Question.cut (.appendCap (sLen + n) sCap e) (w.tape w.drawn (.appendCap (sLen + n) sCap e)), Builtin.zeroCells z.cells (Question.cut (.appendCap (sLen + n) sCap e) (w.tape w.drawn (.appendCap (sLen + n) sCap e)) - (sLen + n)), by simp [Question.cut], by simp [Builtin.zeroCells, hz], ?_⟩
 simp [Builtin.append_, run_underlying hu, run_underlying hu', cA hT he, Builtin.lenOf, hroom', hnew, hold, typeInfo, h1, h3, zeroValue, h4, hbig, hmax, hmax2, newRow, Question.forced]
end
end Go.Ab
namespace Go.Ab
open Go.RowKit
section
variable {P : Program} {T : TT} {E : TypeId → Bool} {okF : Nat → Prop} {B : Nat} {σ : Places} {m : Mem} {w : World}
theorem oC (hI : Inv okF B σ m w) {id : Nat} (hid : m id = none) {old new rest : Array Value} {xs ys : List LV} {e : TypeId} {sz n cap : Nat} (hx : RelL okF σ m w old xs) (hy : RelL okF σ m w new ys)
  (hl : xs.length + ys.length = n * sz) (hn : n ≤ cap) (hr : rest.size = (cap - n) * sz) {res : Result Next}
  (hres : res = .ok (.value (.slice (some ⟨w.heap.size, 0, none⟩) n cap)) (w.drew.alloc (.cells (old ++ new ++ rest) e (0, 0)))) :
  Sim P okF B σ m w res (.ref id sz 0 n) (setM m id ⟨xs ++ ys, sz, e, 0⟩) := by
 have hsz : (old ++ new ++ rest).size = cap * sz := by
  have : cap * sz = n * sz + (cap - n) * sz := by rw [← Nat.add_mul]; congr 1; omega
  simp [hx.size, hy.size, hr]; omega
 obtain ⟨i1, e1⟩ := hI.grow (id := id) hid (e := e) hx hy hsz
 refine ⟨_, _, _, .inl hres, ?_, i1, e1⟩
 have h := Rel.ref (ok := okS okF (setM σ id ⟨w.heap.size, 0, sz, cap⟩) (setM m id ⟨xs ++ ys, sz, e, 0⟩)) (w := w.drew.alloc (.cells (old ++ new ++ rest) e (0, 0))) (σ := setM σ id ⟨w.heap.size, 0, sz, cap⟩) id sz 0 n cap ⟨w.heap.size, 0, sz, cap⟩ (bE _ _ _) rfl (by simp) hn
 simpa using h
theorem qK (hT : TypesOk P T) (hI : Inv okF B σ m w) {id : Nat} (hid : m id = none) {t xt ty : TypeId} {s x : LV} {sv xv : Value} (hs : Rel (okS okF σ m) w σ sv s) (hx : Rel (okS okF σ m) w σ xv x) {r : LV} {Δ : Delta}
  (h : appendLV T t xt s x m id = some (r, Δ)) : Sim P okF B σ m w ((Builtin.append_ #[t, xt] ty #[sv, xv]).run P w |>.andThen fun v w => .ok (.value v) w) r (app Δ m) := by
 unfold appendLV at h
 split at h
 case h_2 => cases h
 rename_i e e' ht hxt
 split at h
 ·cases h
 rename_i te he
 cases hfl : flat m te.size x with
 | none => simp [hfl] at h
 | some q =>
  obtain ⟨new, n⟩ := q
  simp only [hfl] at h
  obtain ⟨hxs, hpos, hlen, us, hnew, hrel⟩ := iA (P := P) hI hx hfl
  obtain ⟨xa, xc, rfl, hxc⟩ := hxs
  split at h
  ·rename_i hn0
   subst hn0
   have hus : us = #[] := by
    have := hrel.size
    rw [hlen] at this
    simpa using this
   subst hus
   have done : ∀ {base : Option Addr} {sl sc : Nat}, sv = .slice base sl sc → sl ≤ sc → r = s → Δ = [] →
     Sim P okF B σ m w ((Builtin.append_ #[t, xt] ty #[sv, .slice xa 0 xc]).run P w |>.andThen fun v w => .ok (.value v) w) r (app Δ m) := by
    intro base sl sc e1 e2 e3 e4
    subst e1; subst e3; subst e4
    refine Sim.pure hI ?_ hs
    rw [mV hT ht ⟨_, hxt⟩ he ⟨_, _, rfl⟩ hnew om]
    cases base <;> simp [storeCells]
   split at h
   ·cases h
    cases hs with
    | nil => exact done rfl (Nat.le_refl _) rfl rfl
    | sl a cap k sz xs vs h1 h2 h3 h4 h5 => exact done rfl h2 rfl rfl
   ·cases h
    cases hs with
    | ref _ _ _ _ cap p g1 g2 g3 g4 => exact done rfl g4 rfl rfl
    | ref0 a => exact done rfl (Nat.le_refl _) rfl rfl
   ·cases h
  ·rename_i hn0
   obtain ⟨idr, edr⟩ := hI.world (w' := w.drew) (Below.refl _ _).drew
   obtain ⟨_, _, _, us2, hnew2, hrel2⟩ := iA (P := P) idr (edr.rel hx) hfl
   split at h
   ·rename_i k xs
    split at h
    ·rename_i hc
     obtain ⟨hk, hall, hsize, hneed⟩ := hc
     cases h
     have hfx : flat m te.size (.sl k xs) = some (xs.flatten, xs.length) := by simp only [flat]; rw [if_pos ⟨hpos, hall⟩]
     have hcap : ∃ a, sv = .slice a xs.length xs.length := by
      cases hs with
      | nil => exact ⟨_, rfl⟩
      | sl a cap k sz xs vs h1 h2 h3 h4 h5 =>
       have : cap = xs.length := by
        rcases hk with ⟨rfl, _⟩ | rfl
        ·omega
        ·rcases h1 with h1 | h1
         ·omega
         ·exact h1.2
       exact ⟨_, by rw [this]⟩
     obtain ⟨a, rfl⟩ := hcap
     obtain ⟨_, _, hlx, os, hold, holdr⟩ := iA (P := P) hI hs hfx
     obtain ⟨_, _, _, os2, hold2, holdr2⟩ := iA (P := P) idr (edr.rel hs) hfx
     obtain ⟨cap, rest, hcap, hrest, hrun⟩ := lI (ty := ty) hT ht ⟨_, hxt⟩ he ⟨_, _, rfl⟩ (by exact hold2) hnew2 (by omega : xs.length < xs.length + n) hsize hneed
     refine oC hI hid (e := e) (old := os2) (new := us2) (rest := rest) (cap := cap) ⟨holdr2.size, holdr2.one, ?_⟩ ⟨hrel2.size, hrel2.one, ?_⟩ (by rw [hlx, hlen, Nat.add_mul]) hcap hrest (by rw [hrun]; rfl)
     ·exact fun i v c hv hc => (holdr2.rel i v c hv hc).mono (fun b hb _ => ⟨hb, rfl⟩) (fun _ _ h => h)
     ·exact fun i v c hv hc => (hrel2.rel i v c hv hc).mono (fun b hb _ => ⟨hb, rfl⟩) (fun _ _ h => h)
    ·cases h
   ·rename_i r0 sz off len
    split at h
    ·rename_i o hm
     split at h
     ·rename_i hc
      obtain ⟨hst, rfl, hosz, hoe, hfull, hsize, hneed⟩ := hc
      cases h
      have hdl : (o.cells.drop (off * te.size)).length = len * te.size := by
       rw [List.length_drop, ← hfull, Nat.add_mul]; omega
      have hfx : flat m te.size (.ref r0 te.size off len) = some (o.cells.drop (off * te.size), len) := by
       simp only [flat, hm]
       rw [if_pos ⟨hpos, om, trivial, hosz, om⟩, List.take_of_length_le om]
      obtain ⟨⟨a, c, rfl, hac⟩, _, hlx, os, hold, holdr⟩ := iA (P := P) hI hs hfx
      by_cases hroom : len + n ≤ c
      ·
       cases hs with
       | ref0 a => omega
       | ref _ _ _ _ cap p g1 g2 g3 g4 =>
        obtain ⟨q, c0, k1, k2, k3, k4, k5, k6, k8, k7⟩ := hI.at_ r0 o hm om
        rw [g1] at k1; cases k1
        have hb1 : p.base + (off + len) * te.size + us.size ≤ c0.size := by
         have : (off + len + n) * te.size ≤ p.cap * te.size := Nat.mul_le_mul_right _ om
         rw [hrel.size, hlen]
         rw [Nat.add_mul (off + len)] at this
         rw [k2, hosz] at k4
         omega
        have hst1 := run_storeCells_at (P := P) p.blk (p.base + (off + len) * te.size) o.elem us.toList 0 c0 w k3 (by simp; omega) hrel.ones
        simp only [Nat.add_zero] at hst1
        have hbase : p.base + off * te.size + len * te.size = p.base + (off + len) * te.size := by rw [Nat.add_mul]; omega
        have mv := hI.move (id := id) (o' := ⟨o.cells.drop (off * te.size) ++ new, te.size, e, 0⟩) (p' := ⟨p.blk, p.base + off * te.size, te.size, p.cap - off⟩) (c' := (c0.toList.take (p.base + (off + len) * te.size) ++ us.toList ++ c0.toList.drop (p.base + (off + len) * te.size + us.toList.length)).toArray)
         hm hst hid g1 k3 (by simp; omega) rfl rfl hoe.symm (by
          simp only
          rw [k2, hosz] at k4
          have : p.cap * te.size = off * te.size + (p.cap - off) * te.size := by rw [← Nat.add_mul]; congr 1; omega
          omega) (by
          simp only [List.length_append, hdl, hlen]
          rw [← Nat.add_mul]; exact Nat.mul_le_mul_right _ om) rfl (fun x hx' => by
          simp only [List.mem_append] at hx'
          rcases hx' with k | k
          ·exact k8 x (List.mem_of_mem_drop k)
          ·exact hrel.one x k) (fun j x hj => by
          simp only [List.getElem?_append, hdl] at hj
          simp only [List.getElem?_toArray, List.getElem?_append, List.length_append, List.length_take, Array.length_toList, List.getElem?_take, List.getElem?_drop]
          have hm2 : min (p.base + (off + len) * te.size) c0.size = p.base + (off + len) * te.size := by omega
          rw [hm2]
          by_cases h1 : j < len * te.size
          ·rw [if_pos h1, List.getElem?_drop] at hj
           obtain ⟨v, hv, hr⟩ := k7 _ x hj
           refine ⟨v, ?_, hr⟩
           rw [if_pos om, if_pos om, if_pos om]
           rw [show p.base + off * te.size + j = p.base + (off * te.size + j) by omega]
           simpa using hv
          ·rw [if_neg h1] at hj
           have hlt : j - len * te.size < us.size := by rw [hrel.size]; exact (List.getElem?_eq_some_iff.1 hj).1
           refine ⟨us[j - len * te.size], ?_, hrel.rel _ _ x (Array.getElem?_eq_getElem hlt) hj⟩
           rw [if_pos om, if_neg om]
           rw [show p.base + off * te.size + j - (p.base + (off + len) * te.size) = j - len * te.size by omega]
           simp [hlt])
        refine ⟨.slice (some ⟨p.blk, p.base + off * te.size, none⟩) (len + n) c, _, _, .inl ?_, ?_, mv.1, mv.2⟩
        ·rw [mV hT ht ⟨_, hxt⟩ he ⟨_, _, rfl⟩ hnew hroom]
         simp only
         rw [fO _ _ rfl]
         simp only [hbase, hst1, Result.andThen_ok]
        ·have h := Rel.ref (ok := okS okF (setM σ id ⟨p.blk, p.base + off * te.size, te.size, p.cap - off⟩) (app [(r0, { o with cells := [], st := 2 }), (id, ⟨o.cells.drop (off * te.size) ++ new, te.size, e, 0⟩)] m)) (w := w.setRow p.blk (c0.toList.take (p.base + (off + len) * te.size) ++ us.toList ++ c0.toList.drop (p.base + (off + len) * te.size + us.toList.length)).toArray)
          (σ := setM σ id ⟨p.blk, p.base + off * te.size, te.size, p.cap - off⟩) id te.size 0 (len + n) c ⟨p.blk, p.base + off * te.size, te.size, p.cap - off⟩ (bE _ _ _) rfl (by simp only; omega) hroom
         simpa using h
      ·obtain ⟨_, _, _, os2, hold2, holdr2⟩ := iA (P := P) idr (edr.rel hs) hfx
       obtain ⟨cap, rest, hcap, hrest, hrun⟩ := lI (ty := ty) hT ht ⟨_, hxt⟩ he ⟨_, _, rfl⟩ hold2 hnew2 (by omega : c < len + n) hsize hneed
       obtain ⟨ik, ek⟩ := hI.kill hm
       have hid' : (setM m r0 { o with cells := [], st := 2 }) id = none := by
        rw [bP]; exact hid
        intro hq; subst hq; rw [hm] at hid; cases hid
       have key := oC (P := P) ik hid' (e := e) (old := os2) (new := us2) (rest := rest) (cap := cap) (ek.relL (⟨holdr2.size, holdr2.one, fun i v c hv hc => (holdr2.rel i v c hv hc).mono (fun b hb _ => ⟨hb, rfl⟩) (fun _ _ h => h)⟩ : RelL okF σ m w os2 _)) (ek.relL (⟨hrel2.size, hrel2.one, fun i v c hv hc => (hrel2.rel i v c hv hc).mono (fun b hb _ => ⟨hb, rfl⟩) (fun _ _ h => h)⟩ : RelL okF σ m w us2 _)) (by rw [hdl, hlen, Nat.add_mul]) hcap hrest (res := (Builtin.append_ #[t, xt] ty #[.slice a len c, .slice xa n xc]).run P w |>.andThen fun v w => .ok (.value v) w) (by rw [hrun]; rfl)
       obtain ⟨v, w', σ', h1, h2, h3, h4⟩ := key.ex
       exact ⟨v, w', σ', h1, h2, h3, ek.trans h4⟩
     ·cases h
    ·cases h
   ·cases h
theorem copyLV_sim (hT : TypesOk P T) (hI : Inv okF B σ m w) {t xt ty : TypeId} {d x : LV} {dv xv : Value} (hd : Rel (okS okF σ m) w σ dv d) (hx : Rel (okS okF σ m) w σ xv x) {r : LV} {Δ : Delta}
  (h : copyLV T t d x m = some (r, Δ)) {at_ : Array TypeId} (hat : at_[0]? = some t) : Sim P okF B σ m w ((Builtin.copy_ at_ ty #[dv, xv]).run P w |>.andThen fun v w => .ok (.value v) w) r (app Δ m) := by
 unfold copyLV at h
 split at h
 case h_2 => cases h
 rename_i e ht
 split at h
 ·cases h
 rename_i te he
 split at h
 case h_2 => cases h
 rename_i r0 sz off len
 split at h
 case h_2 => cases h
 rename_i o new n hm hfl
 split at h
 case isFalse => cases h
 rename_i hc
 obtain ⟨hst, rfl, hosz, hle, hn⟩ := hc
 split at h
 case h_2 => cases h
 rename_i cs hput
 cases h
 obtain ⟨d', hu, hf⟩ := cH hT ht
 simp only [TD.fits] at hf; subst hf
 obtain ⟨⟨xa, xc, rfl, hxc⟩, hpos, hlen, us, hnew, hrel⟩ := iA (P := P) hI hx hfl
 have run : ∀ base c, dv = .slice base len c → (Builtin.copy_ at_ ty #[dv, .slice xa n xc]).run P w = Result.andThen (Sem.run P (match base with | some a => storeCells a us.toList | none => pure ()) w) fun _ w' => .ok (.int .i64 n) w' := by
  intro base c e1
  subst e1
  have hmin : Nat.min n len = n := Nat.min_eq_left hn
  cases base with
  | none => simp [Builtin.copy_, hat, run_underlying hu, Builtin.lenOf, hmin, cA hT he, hnew, goInt]
  | some a => simp [Builtin.copy_, hat, run_underlying hu, Builtin.lenOf, hmin, cA hT he, hnew, goInt]
 cases hd with
 | ref _ _ _ _ cap p g1 g2 g3 g4 =>
  obtain ⟨w', s1, s2, s3⟩ := nJ (P := P) hI hm hst g1 hrel hput
  refine ⟨_, w', σ, .inl ?_, .v _ rfl, s2, s3⟩
  rw [run _ _ rfl]
  simp only [s1, Result.andThen_ok]
 | ref0 a =>
  have hn0 : n = 0 := by omega
  subst hn0
  have hus : us = #[] := by
   have := hrel.size
   rw [hlen] at this
   simpa using this
  have hnew0 : new = [] := by simpa using hlen
  subst hus; subst hnew0
  have hcs : cs = o.cells := by
   unfold putCells at hput
   split at hput
   ·simpa using hput.symm
   ·cases hput
  have hm' : app [(r0, { o with cells := cs })] m = m := by
   funext i
   simp only [app, List.foldl_cons, List.foldl_nil, setM]
   split
   ·rename_i hi; subst hi; rw [hcs, hm]
   ·rfl
  rw [hm']
  exact Sim.pure hI (by rw [run _ _ rfl]; simp [storeCells]) (.v _ rfl)
theorem jA {k : IntKind} {i : Int} {y : Nat} {code : BoundsCode} (h0 : 0 ≤ i) (h1 : i.toNat ≤ y) : (Instr.sliceBound (.int k i) y code).run P w = .ok i.toNat w := by
 have : 0 ≤ i ∧ i ≤ y := ⟨h0, om⟩
 simp [Instr.sliceBound, asIntOf, this]
end
end Go.Ab
namespace Go.Ab
open Go.RowKit
section
variable {P : Program} {T : TT} {E : TypeId → Bool} {okF : Nat → Prop} {B : Nat} {σ : Places} {m : Mem} {w : World}
theorem nI (hT : TypesOk P T) {t e : TypeId} {te : TI} (ht : dsc T t = some (.sl e)) (he : T e = some te) {x : LV} {xv : Value} (hx : Rel (okS okF σ m) w σ xv x) {lo hi : Option Operand} {ρ : Operand → Value} {ev : Operand → LV}
  (hev : ∀ x, Rel (okS okF σ m) w σ (ρ x) (ev x)) (hrows : (∃ k xs, x = .sl k xs ∧ ∀ row, row ∈ xs → row.length = te.size) ∨ (∃ r off len, x = .ref r te.size off len)) {r : LV} (h : sliceLV x (lo.map ev) (hi.map ev) = some r) :
  ∃ v, (Instr.sliceAt t xv (lo.map ρ) (hi.map ρ) none).run P w = .ok v w ∧ Rel (okS okF σ m) w σ v r := by
 obtain ⟨d, hu, hf⟩ := cH hT ht
 simp only [TD.fits] at hf; subst hf
 have bnd : ∀ {o : Option Operand} {dflt n : Nat}, boundLV (o.map ev) dflt = some n →
   (o = none ∧ n = dflt) ∨ (∃ x k i, o = some x ∧ ρ x = .int k i ∧ 0 ≤ i ∧ n = i.toNat) := by
  intro o dflt n hb
  cases o with
  | none => simp [boundLV] at hb; exact .inl ⟨rfl, hb.symm⟩
  | some y =>
   simp only [Option.map_some, boundLV] at hb
   split at hb
   ·rename_i hq; cases hq
   ·rename_i k i hq
    simp only [Option.some.injEq] at hq
    have hr := hev y
    rw [hq] at hr
    generalize hz : ρ y = z at hr
    cases hr
    split at hb
    ·cases hb; exact .inr ⟨y, k, i, rfl, hz, by assumption, rfl⟩
    ·cases hb
   ·cases hb
 have core : ∀ (a : Option Addr) (len cap h l : Nat), xv = .slice a len cap → len ≤ cap → ((hi = none ∧ h = len) ∨ (∃ x k i, hi = some x ∧ ρ x = .int k i ∧ 0 ≤ i ∧ h = i.toNat)) →
   ((lo = none ∧ l = 0) ∨ (∃ x k i, lo = some x ∧ ρ x = .int k i ∧ 0 ≤ i ∧ l = i.toNat)) → l ≤ h → h ≤ len →
   (Instr.sliceAt t xv (lo.map ρ) (hi.map ρ) none).run P w = .ok (.slice (if cap = l then a else a.map (·.add (l * te.size))) (h - l) (cap - l)) w := by
  intro a len cap h l e1 e2 e3 e4 e5 e6
  subst e1
  rcases e3 with ⟨rfl, rfl⟩ | ⟨x1, k1, i1, rfl, q1, q2, rfl⟩ <;> rcases e4 with ⟨rfl, rfl⟩ | ⟨x2, k2, i2, rfl, q3, q4, rfl⟩
  ·simp [Instr.sliceAt, run_underlying hu, Instr.slice, Instr.sliceBounds, cA hT he]
  ·simp [Instr.sliceAt, run_underlying hu, Instr.slice, Instr.sliceBounds, cA hT he, q3, jA (P := P) (w := w) (code := .sliceB) (k := k2) q4 e5]
  ·simp [Instr.sliceAt, run_underlying hu, Instr.slice, Instr.sliceBounds, cA hT he, q1, jA (P := P) (w := w) (code := .sliceAcap) (k := k1) q2 (Nat.le_trans e6 e2)]
  ·simp [Instr.sliceAt, run_underlying hu, Instr.slice, Instr.sliceBounds, cA hT he, q1, q3, jA (P := P) (w := w) (code := .sliceAcap) (k := k1) q2 (Nat.le_trans e6 e2), jA (P := P) (w := w) (code := .sliceB) (k := k2) q4 e5]
 cases x with
 | sl k xs =>
  simp only [sliceLV] at h
  split at h
  case h_2 => cases h
  rename_i hh ll hb1 hb2
  split at h
  case isFalse => cases h
  rename_i hc
  cases h
  have e3 := bnd (dflt := xs.length) hb1
  have e4 := bnd (dflt := 0) hb2
  have hrows' : ∀ row, row ∈ xs → row.length = te.size := by
   rcases hrows with ⟨k', xs', hq, hr⟩ | ⟨r, off, len, hq⟩
   ·cases hq; exact hr
   ·cases hq
  cases hx with
  | nil =>
   refine ⟨_, core none 0 0 hh ll rfl (Nat.le_refl _) (by simpa using e3) e4 hc.1 (by simpa using hc.2), ?_⟩
   have h0 : hh = 0 := by have := hc.2; simpa using this
   have l0 : ll = 0 := by omega
   subst h0; subst l0
   simp; exact .nil
  | sl a cap k sz xs vs h1 h2 h3 h4 h5 =>
   refine ⟨_, core (some a) xs.length cap hh ll rfl h2 e3 e4 hc.1 hc.2, ?_⟩
   have hlen : ((xs.take hh).drop ll).length = hh - ll := by rw [List.length_drop, List.length_take]; omega
   have hget : ∀ (i : Nat) row, ((xs.take hh).drop ll)[i]? = some row → xs[ll + i]? = some row ∧ ll + i < hh := by
    intro i row hi
    rw [List.getElem?_drop, List.getElem?_take] at hi
    split at hi
    ·exact ⟨hi, by assumption⟩
    ·cases hi
   have hsz : ∀ (i : Nat) row, xs[i]? = some row → sz = te.size := by
    intro i row hi; rw [← (h3 row (eT hi)).1]; exact hrows' row (eT hi)
   have hmem : ∀ row, row ∈ (xs.take hh).drop ll → row ∈ xs := fun row hr => List.mem_of_mem_take (List.mem_of_mem_drop hr)
   rw [show (if cap = ll then some a else Option.map (fun x => x.add (ll * te.size)) (some a)) = some (if cap = ll then a else a.add (ll * te.size)) from by split <;> rfl]
   rw [← hlen]
   refine .sl _ _ _ sz _ (fun i j => vs (ll + i) j) ?_ (by rw [hlen]; omega) (fun row hr => h3 row (hmem row hr)) (fun i j row c hi hj => ?_) (fun i j row c hi hj => ?_)
   ·rw [hlen]
    split
    ·exact .inl rfl
    ·rename_i hk
     rcases h1 with h1 | ⟨h1, h1'⟩
     ·exact .inl h1
     ·exact .inr ⟨h1, by subst h1; omega⟩
   ·obtain ⟨g1, g2⟩ := hget i row hi
    obtain ⟨c1, c2, c3⟩ := h4 (ll + i) j row c g1 hj
    have hne : ¬ cap = ll := by omega
    have hs := hsz _ _ g1
    rw [if_neg hne, fO a _ c1]
    refine ⟨rfl, c2, ?_⟩
    simp only
    rw [show a.off + ll * te.size + (i * sz + j) = a.off + ((ll + i) * sz + j) by rw [← hs, Nat.add_mul]; omega]
    exact c3
   ·obtain ⟨g1, g2⟩ := hget i row hi
    exact h5 (ll + i) j row c g1 hj
 | ref r0 sz off len =>
  simp only [sliceLV] at h
  split at h
  case h_2 => cases h
  rename_i hh ll hb1 hb2
  split at h
  case isFalse => cases h
  rename_i hc
  cases h
  have e3 := bnd (dflt := len) hb1
  have e4 := bnd (dflt := 0) hb2
  have hs : sz = te.size := by
   rcases hrows with ⟨k', xs', hq, hr⟩ | ⟨r, off, len, hq⟩
   ·cases hq
   ·cases hq; rfl
  subst hs
  cases hx with
  | ref _ _ _ _ cap p g1 g2 g3 g4 =>
   refine ⟨_, core _ len cap hh ll rfl g4 e3 e4 hc.1 hc.2, ?_⟩
   by_cases hq : cap = ll
   ·have : hh - ll = 0 := by omega
    rw [if_pos hq, this, show cap - ll = 0 by omega]
    exact .ref0 _ _ _ _
   ·rw [if_neg hq]
    simp only [Option.map_some]
    rw [fO _ _ rfl]
    have := Rel.ref (ok := okS okF σ m) (w := w) (σ := σ) r0 te.size (off + ll) (hh - ll) (cap - ll) p g1 g2 om om
    simpa [Nat.add_mul, Nat.add_assoc] using this
  | ref0 a =>
   refine ⟨_, core (some a) 0 0 hh ll rfl (Nat.le_refl _) e3 e4 hc.1 hc.2, ?_⟩
   have h0 : hh = 0 := by omega
   have l0 : ll = 0 := by omega
   subst h0; subst l0
   simp; exact .ref0 _ _ _ _
 | _ => simp [sliceLV] at h
theorem pH (hT : TypesOk P T) (hI : Inv okF B σ m w) {id : Nat} (hid : m id = none) {t e : TypeId} {te : TI} (ht : dsc T t = some (.sl e)) (he : T e = some te) {k1 k2 : IntKind} {l k : Int}
  (hc : 0 < te.size ∧ 0 ≤ l ∧ l ≤ k ∧ (te.bytes : Int) * k ≤ 2 ^ 48 ∧ k ≤ 2 ^ 48) :
  Sim P okF B σ m w ((Instr.makeSlice t (.int k1 l) (.int k2 k)).run P w |>.andThen fun v w => .ok (.value v) w) (.ref id te.size 0 l.toNat)
   (setM m id ⟨(List.replicate l.toNat (te.zero.map lz)).flatten, te.size, e, 0⟩) := by
 obtain ⟨hpos, h0, h1, h2, h3⟩ := hc
 obtain ⟨d, hu, hf⟩ := cH hT ht
 simp only [TD.fits] at hf; subst hf
 obtain ⟨⟨i, z, j1, j2, j3, j4, j5⟩, _, j6, _⟩ := hT e te he
 have w1 : IntKind.i64.wrap l = l := IntWalk.i64_in _ om
 have w2 : IntKind.i64.wrap k = k := IntWalk.i64_in _ om
 obtain ⟨kn, rfl⟩ : ∃ n : Nat, k = n := ⟨k.toNat, om⟩
 obtain ⟨ln, rfl⟩ : ∃ n : Nat, l = n := ⟨l.toNat, om⟩
 have zr := pD (okF := okF) (σ := σ) (m := m) (w := w) hT he hpos z.cells j5 kn
 have hrun : (Instr.makeSlice t (.int k1 ln) (.int k2 kn)).run P w = .ok (.slice (some ⟨w.heap.size, 0, none⟩) ln kn) (w.alloc (.cells ((Array.range (kn * te.size)).map (z.cells[· % z.cells.size]!)) e (0, 0))) := by
  have nt : ¬ ((kn : Int) < 0 ∨ (te.bytes : Int) * kn > 2 ^ 48) := by omega
  have nt1 : ¬ ((ln : Int) < 0) := by omega
  have nt2 : ¬ ((ln : Int) > kn) := by omega
  by_cases hn0 : kn * te.size = 0
  ·have hk0 : kn = 0 := by
    rcases Nat.mul_eq_zero.1 hn0 with h | h
    ·exact h
    ·omega
   subst hk0
   have hl0 : ln = 0 := by omega
   subst hl0
   have w0 : IntKind.i64.wrap 0 = 0 := IntWalk.i64_in _ om
   simp [Instr.makeSlice, run_underlying hu, asInt, asIntOf, typeInfo, j1, j3, w0, sizeOf, j2, newRow, show (Array.range 0) = #[] from rfl]
  ·have hnn : ¬ (kn * te.size = 0) := hn0
   have hn4 : ¬ kn = 0 := by intro hq; subst hq; simp at hn0
   have hn3 : ¬ (kn = 0 ∨ te.size = 0) := by omega
   have q1 : ¬ ((kn : Int) < 0) := by omega
   have q2 : ¬ (281474976710656 < (te.bytes : Int) * kn) := by omega
   have q3 : ¬ ((kn : Int) < ln) := by omega
   simp [Instr.makeSlice, run_underlying hu, asInt, asIntOf, typeInfo, j1, j3, w1, w2, sizeOf, j2, newRow, zeroValue, j4, q1, q2, q3, nt1, hn3]
   intro hh; exact absurd hh hn0
 have zl : (List.replicate ln (te.zero.map lz)).flatten.length = ln * te.size := by simp [List.length_flatten, j6]
 have zk : (List.replicate kn (te.zero.map lz)).flatten.length = kn * te.size := by simp [List.length_flatten, j6]
 have pre : ∃ tl, (List.replicate kn (te.zero.map lz)).flatten = (List.replicate ln (te.zero.map lz)).flatten ++ tl := by
  refine ⟨(List.replicate (kn - ln) (te.zero.map lz)).flatten, ?_⟩
  rw [← List.flatten_append, List.replicate_append_replicate]; congr 2; omega
 obtain ⟨tl, htl⟩ := pre
 have al := hI.alloc hid ((Array.range (kn * te.size)).map (z.cells[· % z.cells.size]!)) ⟨(List.replicate ln (te.zero.map lz)).flatten, te.size, e, 0⟩ kn rfl
  (fun x hx => zr.one x (by rw [htl]; exact List.mem_append_left _ hx)) (by simp) (by simp only [zl]; exact Nat.mul_le_mul_right _ om) (fun j x hj => by
   have hj2 : (List.replicate kn (te.zero.map lz)).flatten[j]? = some x := by rw [htl, List.getElem?_append_left (List.getElem?_eq_some_iff.1 hj).1]; exact hj
   have hlt := (List.getElem?_eq_some_iff.1 hj2).1
   rw [zk] at hlt
   have hlt2 : j < ((Array.range (kn * te.size)).map (z.cells[· % z.cells.size]!)).size := by simpa using hlt
   exact ⟨_, Array.getElem?_eq_getElem hlt2, zr.rel j _ x (Array.getElem?_eq_getElem hlt2) hj2⟩)
 refine ⟨.slice (some ⟨w.heap.size, 0, none⟩) ln kn, _, _, .inl ?_, ?_, al.1, al.2⟩
 ·rw [hrun]; rfl
 ·have h := Rel.ref (ok := okS okF (setM σ id ⟨w.heap.size, 0, te.size, kn⟩) (setM m id ⟨(List.replicate ln (te.zero.map lz)).flatten, te.size, e, 0⟩)) (w := w.alloc (.cells ((Array.range (kn * te.size)).map (z.cells[· % z.cells.size]!)) e (0, 0)))
   (σ := setM σ id ⟨w.heap.size, 0, te.size, kn⟩) id te.size 0 ln kn ⟨w.heap.size, 0, te.size, kn⟩ (bE _ _ _) rfl (by simp) om
  simpa using h
theorem ext1_run {f : Int → Int → Int} {g : Value → Value → Sem Value} (hg : ∀ k a k' b, g (.int k a) (.int k' b) = pure (.int k (f a b))) {ρ : Operand → Value} {ev : Operand → LV} (hev : ∀ x, Rel (okS okF σ m) w σ (ρ x) (ev x)) :
  ∀ (xs : List Operand) (k : IntKind) (a : Int) (r : LV), ext1 f k a (xs.map ev) = some r → ∃ v, ((xs.map ρ).foldlM g (.int k a)).run P w = .ok v w ∧ Rel (okS okF σ m) w σ v r
 | [], k, a, r, h => by
  simp only [List.map_nil, ext1, Option.some.injEq] at h; subst h
  exact ⟨_, rfl, .v _ rfl⟩
 | x :: xs, k, a, r, h => by
  rw [List.map_cons] at h
  unfold ext1 at h
  split at h
  ·rename_i hq; cases hq
  ·rename_i k' b rest hq
   simp only [List.cons.injEq] at hq
   obtain ⟨hq1, hq2⟩ := hq
   subst hq2
   split at h
   ·rename_i hk; subst hk
    have hr := hev x
    rw [hq1] at hr
    generalize hz : ρ x = z at hr
    cases hr
    obtain ⟨v, h1, h2⟩ := ext1_run hg hev xs k (f a b) r h
    refine ⟨v, ?_, h2⟩
    simp only [List.map_cons, List.foldlM_cons, hz, hg, Sem.run_bind, Sem.run_pure, Result.andThen_ok]
    exact h1
   ·cases h
  ·cases h
theorem rel_len (hI : Inv okF B σ m w) {x : LV} {v : Value} {n : Nat} (h : Rel (okS okF σ m) w σ v x) (hl : lenLV x = some n) : ∃ a c, v = .slice a n c := by
 cases x with
 | sl k xs =>
  simp only [lenLV, Option.some.injEq] at hl; subst hl
  cases h with
  | nil => exact ⟨_, _, rfl⟩
  | sl a cap k sz xs vs h1 h2 h3 h4 h5 => exact ⟨_, _, rfl⟩
 | ref r sz off len =>
  simp only [lenLV, Option.some.injEq] at hl; subst hl
  cases h with
  | ref => exact ⟨_, _, rfl⟩
  | ref0 => exact ⟨_, _, rfl⟩
 | _ => simp [lenLV] at hl
end
end Go.Ab
namespace Go.Ab
open Go.RowKit
section
variable {P : Program} {T : TT} {E : TypeId → Bool} {okF : Nat → Prop} {B : Nat} {σ : Places} {m : Mem} {w : World}
theorem Sim.val (hI : Inv okF B σ m w) {s : Sem Value} {r : LV} (h : ∃ v, s.run P w = .ok v w ∧ Rel (okS okF σ m) w σ v r) : Sim P okF B σ m w ((do Pure.pure (Next.value (← s)) : Sem Next).run P w) r m := by
 obtain ⟨v, h1, h2⟩ := h
 exact Sim.pure hI (by simp [h1]) h2
theorem places_run (hT : TypesOk P T) {fs : List (Nat × TypeId)} {gs : Array Field} (hg : gs.toList.map (fun f => (f.offset, f.type)) = fs) {q : Nat → Option (Nat × Nat)} (parts : List (Nat × Value)) (vs us : Array Value)
  (hq : q = fun i => (fs[i]?).bind fun (f : Nat × TypeId) => (T f.2).map fun (tf : TI) => (f.1, tf.size)) (hf : Instr.fill q vs parts = some us) (hall : ∀ f, f ∈ fs → ∃ tf, T f.2 = some tf) :
  ∃ pl : Array (Nat × Nat), (gs.mapM (fun f => Prod.mk f.offset <$> sizeOf f.type : Field → Sem (Nat × Nat))).run P w = .ok pl w ∧ Instr.fill (pl[·]?) vs parts = some us := by
 have key : ∀ (l : List Field), (∀ f, f ∈ l → ∃ tf, T f.type = some tf) → ∃ pl : List (Nat × Nat), (l.mapM (fun f => Prod.mk f.offset <$> sizeOf f.type : Field → Sem (Nat × Nat))).run P w = .ok pl w ∧ ∀ i : Nat, pl[i]? = ((l.map fun f => (f.offset, f.type))[i]?).bind fun (f : Nat × TypeId) => (T f.2).map fun (tf : TI) => (f.1, tf.size) := by
  intro l
  induction l with
  | nil => intro _; exact ⟨[], rfl, by simp⟩
  | cons f l ih =>
   intro h
   obtain ⟨tf, htf⟩ := h f (by simp)
   obtain ⟨pl, h1, h2⟩ := ih (fun g hg => h g (by simp [hg]))
   refine ⟨(f.offset, tf.size) :: pl, ?_, fun i => ?_⟩
   ·rw [List.mapM_cons]
    simp only [Sem.run_bind, Sem.run_map, cA hT htf, Result.andThen_ok, Sem.run_pure, h1]
   ·cases i with
    | zero => simp [htf]
    | succ i => simpa using h2 i
 obtain ⟨pl, h1, h2⟩ := key gs.toList (fun f hf => hall (f.offset, f.type) (by rw [← hg]; exact List.mem_map.2 ⟨f, hf, rfl⟩))
 refine ⟨pl.toArray, ?_, ?_⟩
 ·rw [Array.mapM_eq_mapM_toList]
  simp [h1]
 ·rw [← hf]
  congr 1
  funext i
  rw [hq]
  simp only [List.getElem?_toArray, h2, hg]
theorem rB {cs xs ds : List LV} {off : Nat} (h : putCells cs off xs = some ds) : ds.length = cs.length := by
 unfold putCells at h
 split at h
 ·cases h; simp; omega
 ·cases h
theorem oI {place : Nat → Option (Nat × Nat)} : ∀ {parts : List (Nat × LV)} {cs ds : List LV}, fillLV place cs parts = some ds → ds.length = cs.length
 | [], cs, ds, h => by simp [fillLV] at h; rw [h]
 | (i, x) :: rest, cs, ds, h => by
  simp only [fillLV] at h
  split at h
  ·cases h
  ·split at h
   ·split at h
    ·rename_i cs' hp
     rw [oI h, rB hp]
    ·cases h
   ·cases h
theorem row_get {sz n : Nat} {cs : List LV} (hlen : cs.length = n * sz) {i : Nat} {row : List LV} (h : (rowsOf sz cs n)[i]? = some row) : i < n ∧ row.length = sz ∧ ∀ (j : Nat), j < sz → row[j]? = cs[i * sz + j]? := by
 unfold rowsOf at h
 rw [List.getElem?_map] at h
 by_cases hi : i < n
 ·rw [List.getElem?_range hi] at h
  simp only [Option.map_some, Option.some.injEq] at h
  subst h
  have : (i + 1) * sz ≤ n * sz := Nat.mul_le_mul_right _ hi
  rw [Nat.succ_mul] at this
  refine ⟨hi, by rw [List.length_take, List.length_drop]; omega, fun j hj => by rw [List.getElem?_take, if_pos hj, List.getElem?_drop]⟩
 ·rw [List.getElem?_eq_none (by simpa using hi)] at h; simp at h
theorem oE (hT : TypesOk P T) (hI : Inv okF B σ m w) {t e : TypeId} {te : TI} (ht : dsc T t = some (.sl e)) (he : T e = some te) {len : Nat} (hc : 0 < te.size ∧ len * te.size ≤ 2 ^ 24) {ρ : Operand → Value} {ev : Operand → LV}
  (hev : ∀ x, Rel (okS okF σ m) w σ (ρ x) (ev x)) {parts : List (Nat × Operand)} {cs : List LV} (hf : fillLV (fun i => some (i * te.size, te.size)) (List.replicate len (te.zero.map lz)).flatten (parts.map fun p => (p.1, ev p.2)) = some cs) {arr : Array (Nat × Value)} (harr : arr.toList = parts.map fun p => (p.1, ρ p.2)) :
  Sim P okF B σ m w ((Instr.buildSlice t len arr).run P w |>.andThen fun v w => .ok (.value v) w) (.sl 2 (rowsOf te.size cs len)) m := by
 obtain ⟨d, hu, hf'⟩ := cH hT ht
 simp only [TD.fits] at hf'; subst hf'
 obtain ⟨z, hz, hz2⟩ := iL hT he w
 obtain ⟨_, _, j6, _⟩ := hT e te he
 have zr := pD (okF := okF) (σ := σ) (m := m) (w := w) hT he hc.1 z.cells hz2 len
 obtain ⟨us, f1, f2⟩ := lM (okF := okF) (σ := σ) (m := m) (w := w) hev zr hf
 have hcl : cs.length = len * te.size := by rw [oI hf]; simp [List.length_flatten, j6]
 have hrun : (Instr.buildSlice t len arr).run P w = .ok (.slice (some ⟨w.heap.size, 0, none⟩) len len) (w.alloc (.cells us e (0, 0))) := by
  have hle : ¬ (len * te.size > 2 ^ 24) := by omega
  by_cases h0 : len * te.size = 0
  ·have e0 : (Array.range (len * te.size)).map (fun x => z.cells[x % z.cells.size]!) = (Array.range (len * te.size)).map (fun x => (#[] : Array Value)[x % (#[] : Array Value).size]!) := by rw [h0, show Array.range 0 = #[] from rfl]; simp
   rw [e0] at f1
   have h00 : len = 0 ∨ te.size = 0 := Nat.mul_eq_zero.1 h0
   simp [Instr.buildSlice, run_underlying hu, cA hT he, h0, harr, newRow]
   rw [h0] at f1
   simp at f1
   rw [f1]; simp
  ·have h00 : ¬ (len = 0 ∨ te.size = 0) := by rw [← Nat.mul_eq_zero]; exact h0
   simp only [Instr.buildSlice, Sem.run_bind, run_underlying hu, Result.andThen_ok, cA hT he, Sem.run_ite, hle, h0, if_false, hz, Sem.run_pure, harr, f1, newRow, run_newObj, World.alloc_eq]
 obtain ⟨i1, e1⟩ := hI.world (w' := w.alloc (.cells us e (0, 0))) ((Below.refl _ _).alloc (Nat.le_refl _) _)
 have hok : okS okF σ m w.heap.size := ⟨hI.new _ hI.size, fun r o p hr hs hp hq => by
  obtain ⟨q, c', k1, _, k3, _⟩ := hI.at_ r o hr om
  rw [hp] at k1; cases k1
  have := eS k3; omega⟩
 have hrl : (rowsOf te.size cs len).length = len := by simp [rowsOf]
 have hs1 := f2.size
 refine ⟨.slice (some ⟨w.heap.size, 0, none⟩) len len, _, σ, .inl (by rw [hrun]; rfl), ?_, i1, e1⟩
 have cell : ∀ (i j : Nat) (row : List LV) (c : LV), (rowsOf te.size cs len)[i]? = some row → row[j]? = some c → ∃ hlt : i * te.size + j < us.size, cs[i * te.size + j]? = some c := by
  intro i j row c hi hj
  obtain ⟨g1, g2, g3⟩ := row_get hcl hi
  have hjlt : j < te.size := by rw [← g2]; exact (List.getElem?_eq_some_iff.1 hj).1
  rw [g3 j hjlt] at hj
  exact ⟨by rw [hs1]; exact (List.getElem?_eq_some_iff.1 hj).1, hj⟩
 have h := Rel.sl (ok := okS okF σ m) (w := w.alloc (.cells us e (0, 0))) (σ := σ) ⟨w.heap.size, 0, none⟩ len 2 te.size (rowsOf te.size cs len) (fun i j => us.getD (i * te.size + j) undef) (.inr ⟨rfl, hrl.symm⟩) om (fun row hr => by
   obtain ⟨i, hi⟩ := List.getElem?_of_mem hr
   obtain ⟨g1, g2, g3⟩ := row_get hcl hi
   refine ⟨g2, fun c hc => ?_⟩
   obtain ⟨j, hj⟩ := List.getElem?_of_mem hc
   exact f2.one c (eT (cell i j row c hi hj).2)) (fun i j row c hi hj => by
   obtain ⟨hlt, _⟩ := cell i j row c hi hj
   refine ⟨rfl, hok, ?_⟩
   have : (w.alloc (.cells us e (0, 0))).heap[w.heap.size]? = some (.cells us e (0, 0)) := by show (w.heap.push _)[w.heap.size]? = _; simp
   simp only [World.cell?, this]
   simp [hlt]) (fun i j row c hi hj => by
   obtain ⟨hlt, hc⟩ := cell i j row c hi hj
   have : us.getD (i * te.size + j) undef = us[i * te.size + j] := by simp [hlt]
   rw [this]
   exact e1.rel (f2.rel _ _ c (Array.getElem?_eq_getElem hlt) hc))
 rw [hrl] at h
 exact h
theorem ro_drop {a : Addr} {cs : List LV} {vs : Nat → Value} (h1 : ∀ c, c ∈ cs → c.one = true) (h2 : ∀ (j : Nat) (c : LV), cs[j]? = some c → Cell w (okS okF σ m) a j (vs j)) (h3 : ∀ (j : Nat) (c : LV), cs[j]? = some c → Rel (okS okF σ m) w σ (vs j) c) (off : Nat) :
  Rel (okS okF σ m) w σ (.pointer (some (a.add off))) (.ro (cs.drop off)) := by
 refine .ro _ _ (fun j => vs (off + j)) (fun c hc => h1 c (List.mem_of_mem_drop hc)) (fun j c hj => ?_) (fun j c hj => ?_)
 ·rw [List.getElem?_drop] at hj
  obtain ⟨g1, g2, g3⟩ := h2 _ c hj
  rw [fO a off g1]
  exact ⟨rfl, g2, by simpa [Nat.add_assoc] using g3⟩
 ·rw [List.getElem?_drop] at hj
  exact h3 _ c hj
theorem sl_row {a : Addr} {sz : Nat} {xs : List (List LV)} {vs : Nat → Nat → Value} (h3 : ∀ row, row ∈ xs → row.length = sz ∧ ∀ c, c ∈ row → c.one = true)
  (h4 : ∀ (i j : Nat) (row : List LV) (c : LV), xs[i]? = some row → row[j]? = some c → Cell w (okS okF σ m) a (i * sz + j) (vs i j))
  (h5 : ∀ (i j : Nat) (row : List LV) (c : LV), xs[i]? = some row → row[j]? = some c → Rel (okS okF σ m) w σ (vs i j) c) {i : Nat} {row : List LV} (hr : xs[i]? = some row) :
  Rel (okS okF σ m) w σ (.pointer (some (a.add (i * sz)))) (.ro row) := by
 refine .ro _ _ (vs i) (h3 row (eT hr)).2 (fun j c hj => ?_) (fun j c hj => h5 i j row c hr hj)
 obtain ⟨g1, g2, g3⟩ := h4 i j row c hr hj
 rw [fO a _ g1]
 exact ⟨rfl, g2, by simpa [Nat.add_assoc] using g3⟩
theorem ext_run {f : Int → Int → Int} {g : Value → Value → Sem Value} (hg : ∀ k a k' b, g (.int k a) (.int k' b) = Pure.pure (.int k (f a b))) {ρ : Operand → Value} {ev : Operand → LV} (hev : ∀ x, Rel (okS okF σ m) w σ (ρ x) (ev x)) (xs : List Operand) {r : LV}
  (h : extremes f (xs.map ev) = some r) : ∃ v, (∃ x l, xs.map ρ = x :: l ∧ (l.foldlM g x).run P w = .ok v w) ∧ Rel (okS okF σ m) w σ v r := by
 cases xs with
 | nil => simp [extremes] at h
 | cons x xs =>
  rw [List.map_cons] at h
  unfold extremes at h
  split at h
  ·rename_i k a rest hq
   simp only [List.cons.injEq] at hq
   obtain ⟨hq1, hq2⟩ := hq
   subst hq2
   have hr := hev x
   rw [hq1] at hr
   generalize hz : ρ x = z at hr
   cases hr
   obtain ⟨v, h1, h2⟩ := ext1_run (P := P) hg hev xs k a r h
   exact ⟨v, ⟨_, _, by rw [List.map_cons, hz], h1⟩, h2⟩
  ·cases h
theorem array_two {α β : Type} {args : Array α} {f : α → β} {s x : α} (e : args.toList = [s, x]) : args.map f = #[f s, f x] := by
 apply Array.ext'
 rw [Array.toList_map, e]; rfl
theorem oN {at_ : Array TypeId} (h : ¬ at_.size = 0) : at_[0]? = some (at_.getD 0 0) := by
 have : 0 < at_.size := by omega
 simp [this]
theorem builtin_sim (hT : TypesOk P T) (hI : Inv okF B σ m w) {ρ : Operand → Value} {ev : Operand → LV} (hev : ∀ x, Rel (okS okF σ m) w σ (ρ x) (ev x)) {id : Nat} (hid : m id = none) {b : Builtin} {at_ : Array TypeId} {args : Array Operand} {r : LV} {Δ : Delta}
  (h : builtinLV T b at_ (args.toList.map ev) m id = some (r, Δ)) {ty : TypeId} {cs : Array Bool} : Sim P okF B σ m w ((builtin b at_ ty cs (args.map ρ)).run P w) r (app Δ m) := by
 unfold builtinLV at h
 have two : ∀ {d x : LV}, args.toList.map ev = [d, x] → ∃ d' x', ev d' = d ∧ ev x' = x ∧ args.map ρ = #[ρ d', ρ x'] := by
  intro d x e
  match hargs : args.toList, e with
  | [d', x'], e =>
   simp at e
   exact ⟨d', x', e.1, e.2, array_two hargs⟩
 split at h
 ·split at h
  ·rename_i x hx
   have one : ∃ x', ev x' = x ∧ args.map ρ = #[ρ x'] := by
    match hargs : args.toList, hx with
    | [x'], e =>
     simp at e
     exact ⟨x', e, by apply Array.ext'; rw [Array.toList_map, hargs]; rfl⟩
   obtain ⟨x', rfl, ha⟩ := one
   rw [ha]
   split at h
   ·rename_i e hd
    split at h
    ·cases h
    rename_i h0
    split at h
    ·rename_i n hl
     cases h
     obtain ⟨a, cc, hz⟩ := rel_len hI (hev x') hl
     obtain ⟨d, hu, hf⟩ := cH hT hd
     simp only [TD.fits] at hf; subst hf
     have g := oN h0
     generalize at_.getD 0 0 = t0 at g hu
     exact Sim.val hI (s := Builtin.len_ at_ ty #[ρ x']) ⟨.int .i64 n, by rw [hz]; simp [Builtin.len_, g, run_underlying hu, goInt], .v _ rfl⟩
    ·cases h
   ·rename_i n e hd
    split at h
    ·cases h
    rename_i h0
    cases h
    obtain ⟨d, hu, hf⟩ := cH hT hd
    simp only [TD.fits] at hf; subst hf
    have g := oN h0
    generalize at_.getD 0 0 = t0 at g hu
    exact Sim.val hI (s := Builtin.len_ at_ ty #[ρ x']) ⟨.int .i64 n, by simp [Builtin.len_, g, run_underlying hu, goInt], .v _ rfl⟩
   ·cases h
  ·cases h
 ·split at h
  ·rename_i s x hx
   obtain ⟨s', x', rfl, rfl, ha⟩ := two hx
   rw [ha]
   split at h
   ·rename_i hsz
    have := qK (P := P) hT hI hid (ty := ty) (hev s') (hev x') h
    have ea : #[at_.getD 0 0, at_.getD 1 0] = at_ := by
     apply Array.ext (by simpa using hsz.symm)
     intro i hi hi'
     have : i = 0 ∨ i = 1 := by omega
     rcases this with rfl | rfl <;> simp [hsz]
    rw [ea] at this
    simpa [builtin] using this
   ·cases h
  ·cases h
 ·split at h
  ·rename_i d x hx
   obtain ⟨d', x', rfl, rfl, ha⟩ := two hx
   rw [ha]
   split at h
   ·cases h
   ·rename_i h0
    have := copyLV_sim (P := P) hT hI (xt := 0) (ty := ty) (hev d') (hev x') h (oN h0)
    simpa [builtin] using this
  ·cases h
 ·split at h
  ·rename_i y hy
   cases h
   obtain ⟨v, h1, h2⟩ := ext_run (P := P) (w := w) (okF := okF) (σ := σ) (m := m) (g := Builtin.min2) (fun k a k' b => rfl) hev args.toList hy
   refine Sim.val hI (s := Builtin.min_ at_ ty (args.map ρ)) ⟨v, ?_, h2⟩
   have : (args.map ρ).toList = args.toList.map ρ := by simp
   unfold Builtin.min_
   rw [this]
   obtain ⟨x, xs, e, h1⟩ := h1
   rw [e]
   exact h1
  ·cases h
 ·split at h
  ·rename_i y hy
   cases h
   obtain ⟨v, h1, h2⟩ := ext_run (P := P) (w := w) (okF := okF) (σ := σ) (m := m) (g := Builtin.max2) (fun k a k' b => rfl) hev args.toList hy
   refine Sim.val hI (s := Builtin.max_ at_ ty (args.map ρ)) ⟨v, ?_, h2⟩
   have : (args.map ρ).toList = args.toList.map ρ := by simp
   unfold Builtin.max_
   rw [this]
   obtain ⟨x, xs, e, h1⟩ := h1
   rw [e]
   exact h1
  ·cases h
 ·cases h
theorem aop_sound (hT : TypesOk P T) (hE : ∀ t, E t = true → EqOk P t) (hI : Inv okF B σ m w) {o : Oper} {ρ : Operand → Value} {ev : Operand → LV} (hev : ∀ x, Rel (okS okF σ m) w σ (ρ x) (ev x)) {id : Nat} (hid : m id = none)
  {r : LV} {Δ : Delta} (h : aop T E o.op ev m id = some (r, Δ)) : Sim P okF B σ m w ((execOp ρ o).run P w) r (app Δ m) := by
 unfold execOp
 cases ho : o.op <;> rw [ho] at h <;> simp only [aop] at h ⊢
 case move x => cases h; exact Sim.pure hI rfl (hev x)
 case assign x => cases h; exact Sim.pure hI rfl (hev x)
 case pick c a b =>
  split at h
  ·rename_i t hc
   cases h
   have hr := hev c
   rw [hc] at hr
   generalize hz : ρ c = z at hr
   cases hr
   cases t
   ·exact Sim.pure hI (by simp [hz, asBool]) (hev b)
   ·exact Sim.pure hI (by simp [hz, asBool]) (hev a)
  ·cases h
 case alloc e =>
  split at h
  ·rename_i te he
   cases h
   obtain ⟨z, hz, hz2⟩ := iL hT he w
   have zr := qF (okF := okF) (σ := σ) (m := m) (w := w) hT he z hz2
   obtain ⟨_, _, h6, _⟩ := hT e te he
   have al := hI.alloc hid z.cells ⟨te.zero.map lz, te.size, e, 0⟩ 1 rfl zr.one (by rw [zr.size]; simp [h6]) (by simp [h6]) (fun j x hj => by
    have hlt : j < z.cells.size := by rw [zr.size]; exact (List.getElem?_eq_some_iff.1 hj).1
    exact ⟨_, Array.getElem?_eq_getElem hlt, zr.rel j _ x (Array.getElem?_eq_getElem hlt) hj⟩)
   refine ⟨.pointer (some ⟨w.heap.size, 0, none⟩), _, _, .inl ?_, ?_, al.1, al.2⟩
   ·simp [Instr.alloc, hz, newVar, newRow]
   ·exact .ptr id 0 ⟨w.heap.size, 0, te.size, 1⟩ (bE _ _ _)
  ·cases h
 case box e x =>
  split at h
  ·rename_i hst
   cases h
   have zr := (hev x).toL hst
   have al := hI.alloc hid (ρ x).cells ⟨(ev x).cells, (ev x).cells.length, e, 0⟩ 1 rfl zr.one (by rw [zr.size]; simp) (by simp) (fun j x hj => by
    have hlt : j < (ρ ‹_›).cells.size := by rw [zr.size]; exact (List.getElem?_eq_some_iff.1 hj).1
    exact ⟨_, Array.getElem?_eq_getElem hlt, zr.rel j _ x (Array.getElem?_eq_getElem hlt) hj⟩)
   refine ⟨.pointer (some ⟨w.heap.size, 0, none⟩), _, _, .inl ?_, ?_, al.1, al.2⟩
   ·simp [Instr.box, newVar, newRow]
   ·exact .ptr id 0 ⟨w.heap.size, 0, (ev x).cells.length, 1⟩ (bE _ _ _)
  ·cases h
 case build t parts =>
  split at h
  ·rename_i ti hti
   obtain ⟨z, hz, hz2⟩ := iL hT hti w
   have zr := qF (okF := okF) (σ := σ) (m := m) (w := w) hT hti z hz2
   obtain ⟨_, ⟨d, hu, hf⟩, h6, _⟩ := hT t ti hti
   split at h
   ·rename_i fs hd
    rw [hd] at hf
    obtain ⟨gs, rfl, hg⟩ := hf
    split at h
    case isFalse => cases h
    rename_i hall0
    have hall : ∀ f, f ∈ fs → ∃ tf, T f.2 = some tf := fun f hf => by
     have := List.all_eq_true.1 hall0 f hf
     exact Option.isSome_iff_exists.1 this
    cases hfl : fillLV (fun i => (fs[i]?).bind fun f => (T f.2).map fun tf => (f.1, tf.size)) (ti.zero.map lz) (parts.toList.map fun p => (p.1, ev p.2)) with
    | none => simp [hfl] at h
    | some cs =>
     simp only [hfl, Option.map_some, Option.some.injEq, Prod.mk.injEq] at h
     obtain ⟨rfl, rfl⟩ := h
     obtain ⟨us, f1, f2⟩ := lM (okF := okF) (σ := σ) (m := m) (w := w) hev (zr) hfl
     refine Sim.val hI ⟨.agg us, ?_, .agg us cs f2.size f2.one f2.rel⟩
     obtain ⟨pl, p1, p2⟩ := places_run (P := P) (w := w) hT hg _ _ _ rfl f1 hall
     simp [Instr.build, hz, run_underlying hu, p1, p2]
   ·rename_i nn e hd
    rw [hd] at hf
    simp only [TD.fits] at hf; subst hf
    split at h
    ·rename_i te he
     cases hfl : fillLV (fun i => some (i * te.size, te.size)) (ti.zero.map lz) (parts.toList.map fun p => (p.1, ev p.2)) with
     | none => simp [hfl] at h
     | some cs =>
      simp only [hfl, Option.map_some, Option.some.injEq, Prod.mk.injEq] at h
      obtain ⟨rfl, rfl⟩ := h
      obtain ⟨us, f1, f2⟩ := lM (okF := okF) (σ := σ) (m := m) (w := w) hev (zr) hfl
      refine Sim.val hI ⟨.agg us, ?_, .agg us cs f2.size f2.one f2.rel⟩
      simp [Instr.build, hz, run_underlying hu, cA hT he, f1]
    ·cases h
   ·cases h
  ·cases h
 case buildSlice t len parts =>
  split at h
  ·rename_i e hd
   split at h
   ·rename_i te he
    split at h
    ·rename_i hc
     cases hfl : fillLV (fun i => some (i * te.size, te.size)) (List.replicate len (te.zero.map lz)).flatten (parts.toList.map fun p => (p.1, ev p.2)) with
     | none => simp [hfl] at h
     | some cs =>
      simp only [hfl, Option.map_some, Option.some.injEq, Prod.mk.injEq] at h
      obtain ⟨rfl, rfl⟩ := h
      have := oE (P := P) hT hI hd he hc hev hfl (arr := parts.map fun p => (p.1, ρ p.2)) (by simp)
      simpa [app] using this
    ·cases h
   ·cases h
  ·cases h
 case load t a =>
  split at h
  ·rename_i ti cs hti hcs
   cases hl : loadLV ti cs with
   | none => simp [hl] at h
   | some r' =>
    simp only [hl, Option.map_some, Option.some.injEq, Prod.mk.injEq] at h
    obtain ⟨rfl, rfl⟩ := h
    obtain ⟨ad, vs, hv, hs⟩ := mX hI hcs (hev a)
    obtain ⟨v, hrun, hr⟩ := load_run (P := P) hT hti hs hl
    refine Sim.val hI ⟨v, ?_, hr⟩
    simp [Instr.loadAt, hv, Instr.sureAddr, hrun]
  ·cases h
 case store t a x =>
  split at h
  ·rename_i r0 off ti ha hti
   split at h
   ·rename_i ob hm
    split at h
    ·rename_i hc
     split at h
     ·rename_i cs hput
      cases h
      have hr := hev a
      rw [ha] at hr
      generalize hz : ρ a = z at hr
      cases hr with
      | ptr _ _ p hp =>
       have hx := (hev x).toL hc.2.1
       obtain ⟨w', s1, s2, s3⟩ := nJ (P := P) hI hm hc.1 hp hx hput
       refine ⟨undef, w', σ, .inr ⟨?_, rfl⟩, .v _ rfl, s2, s3⟩
       have hsz : (ρ x).cells.size = ti.size := by rw [hx.size, hc.2.2]
       simp [Instr.storeAt, hz, Instr.sureAddr, storeVar, cA hT hti, s1, hsz]
     ·cases h
    ·cases h
   ·cases h
  ·cases h
 case nilCheck x =>
  split at h
  ·rename_i r0 off hx
   cases h
   have hr := hev x
   rw [hx] at hr
   generalize hz : ρ x = z at hr
   cases hr with
   | ptr _ _ p hp => exact Sim.pure hI rfl (.ptr _ _ p hp)
  ·rename_i cs hx
   cases h
   have hr := hev x
   rw [hx] at hr
   generalize hz : ρ x = z at hr
   cases hr with
   | ro a _ vs h1 h2 h3 => exact Sim.pure hI rfl (.ro a cs vs h1 h2 h3)
  ·rename_i f a b hx
   cases h
   have hr := hev x
   rw [hx] at hr
   generalize hz : ρ x = z at hr
   cases hr with
   | fn _ vs us _ _ h1 h2 h3 h4 => exact Sim.pure hI rfl (.fn _ vs us _ _ h1 h2 h3 h4)
  ·cases h
 case binOp op t x y yt =>
  cases hb : binLV T E op t (ev x) (ev y) with
  | none => simp [hb] at h
  | some v =>
   simp only [hb, Option.map_some, Option.some.injEq, Prod.mk.injEq] at h
   obtain ⟨rfl, rfl⟩ := h
   obtain ⟨h1, h2⟩ := binLV_run (P := P) hT hE (xo := x) (yo := y) (hev x) (hev y) hb
   exact Sim.val hI ⟨v, h1, .v v h2⟩
 case unOp op t x =>
  cases hb : unLV op (ev x) with
  | none => simp [hb] at h
  | some v =>
   simp only [hb, Option.map_some, Option.some.injEq, Prod.mk.injEq] at h
   obtain ⟨rfl, rfl⟩ := h
   obtain ⟨h1, h2⟩ := unLV_run (P := P) (hev x) hb
   exact Sim.val hI ⟨v, h1, .v v h2⟩
 case convert s d x =>
  split at h
  ·rename_i k1 k2 k3 n hs hd hx
   cases h
   have hr := hev x
   rw [hx] at hr
   generalize hz : ρ x = z at hr
   cases hr
   obtain ⟨d1, hu1, hf1⟩ := cH hT hs
   obtain ⟨d2, hu2, hf2⟩ := cH hT hd
   simp only [TD.fits] at hf1 hf2; subst hf1; subst hf2
   exact Sim.val hI (s := convert s d (.int k3 n)) ⟨.int k2 (k2.wrap n), by simp [convert, run_underlying hu1, run_underlying hu2, Conv.intToInt], .v _ rfl⟩
  ·cases h
 case makeFunc f first captured =>
  cases h
  refine Sim.val hI ⟨.func f (first.map ρ) (captured.map ρ), rfl, .fn f (first.map ρ) (captured.map ρ) (first.toList.map ev) (captured.toList.map ev) (by simp) (by simp) (fun i v c hv hc => ?_) (fun i v c hv hc => ?_)⟩
  ·simp only [List.getElem?_map] at hc
   simp only [Array.getElem?_map] at hv
   cases hq : first[i]? with
   | none => simp [hq] at hv
   | some x => simp [hq] at hv; simp [hq] at hc; subst hv; subst hc; exact hev x
  ·simp only [List.getElem?_map] at hc
   simp only [Array.getElem?_map] at hv
   cases hq : captured[i]? with
   | none => simp [hq] at hv
   | some x => simp [hq] at hv; simp [hq] at hc; subst hv; subst hc; exact hev x
 case makeSlice t n c =>
  split at h
  ·rename_i e k1 l k2 k hd hn hc
   split at h
   ·rename_i te he
    split at h
    ·rename_i hcond
     cases h
     have hr1 := hev n
     have hr2 := hev c
     rw [hn] at hr1; rw [hc] at hr2
     generalize hz1 : ρ n = z1 at hr1
     generalize hz2 : ρ c = z2 at hr2
     cases hr1; cases hr2
     have := pH (P := P) hT hI hid hd he (k1 := k1) (k2 := k2) hcond
     simpa [hz1, hz2, app] using this
    ·cases h
   ·cases h
  ·cases h
 case slice t x lo hi mx =>
  split at h
  ·rename_i e hd
   split at h
   ·rename_i te he
    split at h
    ·rename_i k xs hx
     split at h
     ·rename_i hall
      cases hs : sliceLV (.sl k xs) (lo.map ev) (hi.map ev) with
      | none => simp [hs] at h
      | some r' =>
       simp only [hs, Option.map_some, Option.some.injEq, Prod.mk.injEq] at h
       obtain ⟨rfl, rfl⟩ := h
       have hr := hev x
       rw [hx] at hr
       exact Sim.val hI (by simpa using nI (P := P) hT hd he hr (lo := lo) (hi := hi) hev (.inl ⟨k, xs, rfl, fun row hrow => by simpa using List.all_eq_true.1 hall row hrow⟩) hs)
     ·cases h
    ·rename_i r0 sz off len hx
     split at h
     ·rename_i hsz
      subst hsz
      cases hs : sliceLV (.ref r0 te.size off len) (lo.map ev) (hi.map ev) with
      | none => simp [hs] at h
      | some r' =>
       simp only [hs, Option.map_some, Option.some.injEq, Prod.mk.injEq] at h
       obtain ⟨rfl, rfl⟩ := h
       have hr := hev x
       rw [hx] at hr
       exact Sim.val hI (by simpa using nI (P := P) hT hd he hr (lo := lo) (hi := hi) hev (.inr ⟨r0, off, len, rfl⟩) hs)
     ·cases h
    ·cases h
   ·cases h
  ·cases h
 case fieldAddr t x f =>
  split at h
  ·rename_i fs hd
   obtain ⟨d, hu, gs, rfl, hg⟩ := cH hT hd
   split at h
   ·rename_i off ft hf
    split at h
    ·rename_i tf htf
     split at h
     ·cases h
     ·rename_i hne
      have hfd : ∃ fld, gs[f]? = some fld ∧ fld.offset = off ∧ fld.type = ft := by
       rw [← hg, List.getElem?_map] at hf
       cases hq : gs.toList[f]? with
       | none => simp [hq] at hf
       | some fld =>
        simp only [hq, Option.map_some, Option.some.injEq, Prod.mk.injEq] at hf
        exact ⟨fld, by simpa using hq, hf.1, hf.2⟩
      obtain ⟨fld, g1, g2, g3⟩ := hfd
      have run : ∀ a : Addr, ρ x = .pointer (some a) → (Instr.fieldAt t (ρ x) f).run P w = .ok (.pointer (some (a.add off))) w := by
       intro a e
       have : (sizeOf fld.type).run P w = .ok tf.size w := by rw [g3]; exact cA hT htf w
       simp [Instr.fieldAt, run_underlying hu, g1, e, Instr.sureAddr, fieldPlace, this, hne, g2]
      split at h
      ·rename_i r0 o0 hx
       cases h
       have hr := hev x
       rw [hx] at hr
       generalize hz : ρ x = z at hr
       cases hr with
       | ptr _ _ p hp =>
        refine Sim.val hI ⟨_, by rw [← hz]; exact run _ hz, ?_⟩
        rw [fO _ _ rfl]
        have := Rel.ptr (ok := okS okF σ m) (w := w) (σ := σ) r0 (o0 + off) p hp
        simpa [Nat.add_assoc] using this
      ·rename_i cs hx
       cases h
       have hr := hev x
       rw [hx] at hr
       generalize hz : ρ x = z at hr
       cases hr with
       | ro a _ vs h1 h2 h3 =>
        refine Sim.val hI ⟨_, by rw [← hz]; exact run _ hz, ?_⟩
        exact ro_drop h1 h2 h3 off
      ·cases h
    ·cases h
   ·cases h
  ·cases h
 case field t x f =>
  split at h
  ·rename_i fs hd
   obtain ⟨d, hu, gs, rfl, hg⟩ := cH hT hd
   split at h
   ·rename_i off ft hf
    split at h
    ·rename_i tf cs htf hx
     cases hq : partLV tf cs off with
     | none => simp [hq] at h
     | some y =>
      simp only [hq, Option.map_some, Option.some.injEq, Prod.mk.injEq] at h
      obtain ⟨rfl, rfl⟩ := h
      have hfd : ∃ fld, gs[f]? = some fld ∧ fld.offset = off ∧ fld.type = ft := by
       rw [← hg, List.getElem?_map] at hf
       cases hq : gs.toList[f]? with
       | none => simp [hq] at hf
       | some fld =>
        simp only [hq, Option.map_some, Option.some.injEq, Prod.mk.injEq] at hf
        exact ⟨fld, by simpa using hq, hf.1, hf.2⟩
      obtain ⟨fld, g1, g2, g3⟩ := hfd
      have hr := hev x
      rw [hx] at hr
      generalize hz : ρ x = z at hr
      cases hr with
      | agg us _ k1 k2 k3 =>
       obtain ⟨v, h1, h2⟩ := part_run (P := P) hT htf ⟨k1, k2, k3⟩ hq
       refine Sim.val hI ⟨v, ?_, h2⟩
       simp [Instr.field, run_underlying hu, g1, asAgg, g2, g3, h1]
    ·cases h
   ·cases h
  ·cases h
 case indexAddr t x i =>
  split at h
  ·rename_i ki n hi
   have hr2 := hev i
   rw [hi] at hr2
   generalize hz2 : ρ i = z2 at hr2
   cases hr2
   split at h
   ·rename_i e hd
    obtain ⟨d, hu, hf⟩ := cH hT hd
    simp only [TD.fits] at hf; subst hf
    split at h
    ·rename_i te he
     have run : ∀ (a : Addr) (len cap : Nat), ρ x = .slice (some a) len cap → 0 ≤ n → n < len → (Instr.indexAt t (ρ x) (.int ki n)).run P w = .ok (.pointer (some (a.add (n.toNat * te.size)))) w := by
      intro a len cap e h0 h1
      have hc : 0 ≤ n ∧ n < (len : Int) := ⟨h0, h1⟩
      simp [Instr.indexAt, asIntOf, run_underlying hu, e, hc, cA hT he]
     split at h
     ·rename_i k xs hx
      split at h
      ·rename_i h0
       split at h
       ·rename_i row hrow
        split at h
        ·rename_i hlen
         cases h
         have hr := hev x
         rw [hx] at hr
         generalize hz : ρ x = z at hr
         cases hr with
         | nil => simp at hrow
         | sl a cap _ sz _ vs h1 h2 h3 h4 h5 =>
          have hlt := (List.getElem?_eq_some_iff.1 hrow).1
          refine Sim.val hI ⟨_, by rw [← hz]; exact run _ _ _ hz h0 om, ?_⟩
          have hsz : sz = te.size := by rw [← (h3 row (eT hrow)).1, hlen]
          subst hsz
          exact sl_row h3 h4 h5 hrow
        ·cases h
       ·cases h
      ·cases h
     ·rename_i r0 sz off len hx
      split at h
      ·rename_i hc
       obtain ⟨h0, h1, rfl⟩ := hc
       cases h
       have hr := hev x
       rw [hx] at hr
       generalize hz : ρ x = z at hr
       cases hr with
       | ref _ _ _ _ cap p g1 g2 g3 g4 =>
        refine Sim.val hI ⟨_, by rw [← hz]; exact run _ _ _ hz h0 h1, ?_⟩
        rw [fO _ _ rfl]
        have := Rel.ptr (ok := okS okF σ m) (w := w) (σ := σ) r0 ((off + n.toNat) * te.size) p g1
        simpa [Nat.add_assoc, Nat.add_mul] using this
       | ref0 a => omega
      ·cases h
     ·cases h
    ·cases h
   ·rename_i k e hd
    obtain ⟨d, hu, hf⟩ := cH hT hd
    simp only [TD.fits] at hf; subst hf
    split at h
    ·rename_i te he
     split at h
     ·rename_i hc
      have run : ∀ (a : Addr), ρ x = .pointer (some a) → (Instr.indexAt t (ρ x) (.int ki n)).run P w = .ok (.pointer (some (a.add (n.toNat * te.size)))) w := by
       intro a e
       simp [Instr.indexAt, asIntOf, run_underlying hu, e, hc, cA hT he, Instr.sureAddr]
      split at h
      ·rename_i r0 o0 hx
       cases h
       have hr := hev x
       rw [hx] at hr
       generalize hz : ρ x = z at hr
       cases hr with
       | ptr _ _ p hp =>
        refine Sim.val hI ⟨_, by rw [← hz]; exact run _ hz, ?_⟩
        rw [fO _ _ rfl]
        have := Rel.ptr (ok := okS okF σ m) (w := w) (σ := σ) r0 (o0 + n.toNat * te.size) p hp
        simpa [Nat.add_assoc] using this
      ·rename_i cs hx
       cases h
       have hr := hev x
       rw [hx] at hr
       generalize hz : ρ x = z at hr
       cases hr with
       | ro a _ vs h1 h2 h3 =>
        refine Sim.val hI ⟨_, by rw [← hz]; exact run _ hz, ?_⟩
        exact ro_drop h1 h2 h3 _
      ·cases h
     ·cases h
    ·cases h
   ·cases h
  ·cases h
 case index t x i =>
  split at h
  ·rename_i ki n k e cs hi hd hx
   have hr2 := hev i
   rw [hi] at hr2
   generalize hz2 : ρ i = z2 at hr2
   cases hr2
   obtain ⟨d, hu, hf⟩ := cH hT hd
   simp only [TD.fits] at hf; subst hf
   split at h
   ·rename_i te he
    split at h
    ·rename_i hc
     cases hq : partLV te cs (n.toNat * te.size) with
     | none => simp [hq] at h
     | some y =>
      simp only [hq, Option.map_some, Option.some.injEq, Prod.mk.injEq] at h
      obtain ⟨rfl, rfl⟩ := h
      have hr := hev x
      rw [hx] at hr
      generalize hz : ρ x = z at hr
      cases hr with
      | agg us _ k1 k2 k3 =>
       obtain ⟨v, h1, h2⟩ := part_run (P := P) hT he ⟨k1, k2, k3⟩ hq
       refine Sim.val hI ⟨v, ?_, h2⟩
       simp [Instr.index, run_underlying hu, asIntOf, hc, cA hT he, h1]
    ·cases h
   ·cases h
  ·rename_i ki n bs hi hd hx
   have hr2 := hev i
   rw [hi] at hr2
   generalize hz2 : ρ i = z2 at hr2
   cases hr2
   obtain ⟨d, hu, hf⟩ := cH hT hd
   simp only [TD.fits] at hf; subst hf
   split at h
   ·rename_i hc
    split at h
    ·rename_i b hb
     simp only [Option.some.injEq, Prod.mk.injEq] at h
     obtain ⟨rfl, rfl⟩ := h
     have hr := hev x
     rw [hx] at hr
     generalize hz : ρ x = z at hr
     cases hr
     refine Sim.val hI ⟨.int .u8 b.toNat, ?_, .v _ rfl⟩
     simp [Instr.index, run_underlying hu, asIntOf, hc, hb]
    ·cases h
   ·cases h
  ·cases h
 case extract t i =>
  split at h
  ·rename_i vs ht
   cases hq : vs[i]? with
   | none => simp [hq] at h
   | some y =>
    simp only [hq, Option.map_some, Option.some.injEq, Prod.mk.injEq] at h
    obtain ⟨rfl, rfl⟩ := h
    have hr := hev t
    rw [ht] at hr
    generalize hz : ρ t = z at hr
    cases hr with
    | tup us _ h1 h2 =>
     have hlt : i < us.size := by rw [h1]; exact (List.getElem?_eq_some_iff.1 hq).1
     exact Sim.val hI ⟨us[i], by simp [Instr.extract, hlt], h2 i _ y (Array.getElem?_eq_getElem hlt) hq⟩
  ·cases h
 case call c =>
  obtain ⟨callee, args, argTypes⟩ := c
  simp only at h
  cases callee with
  | value f => cases h
  | invoke a b => cases h
  | builtin b =>
   simp only [resolve, pure_bind, invoke]
   exact builtin_sim hT hI hev hid h
 all_goals cases h
end
end Go.Ab
namespace Go.Ab
open Go.RowKit
inductive Data : LV → Prop
 | v (x : Value) : Data (.v x)
 | agg (cs : List LV) : (∀ c, c ∈ cs → Data c) → Data (.agg cs)
 | tup (cs : List LV) : (∀ c, c ∈ cs → Data c) → Data (.tup cs)
 | sl (k : Nat) (xs : List (List LV)) : (∀ row, row ∈ xs → ∀ c, c ∈ row → Data c) → Data (.sl k xs)
 | ro (cs : List LV) : (∀ c, c ∈ cs → Data c) → Data (.ro cs)
 | fn (f : Fn) (cs ds : List LV) : (∀ c, c ∈ cs → Data c) → (∀ c, c ∈ ds → Data c) → Data (.fn f cs ds)
 | bad : Data .bad
theorem Data.rel {ok : Nat → Prop} {w : World} {σ σ' : Places} {v : Value} {l : LV} (h : Rel ok w σ v l) (hd : Data l) : Rel ok w σ' v l := by
 induction h with
 | v x h => exact .v x h
 | agg vs cs h1 h2 _ ih =>
  cases hd with
  | agg _ k => exact .agg vs cs h1 h2 fun i v c hv hc => ih i v c hv hc (k c (List.mem_of_getElem? hc))
 | tup vs cs h1 _ ih =>
  cases hd with
  | tup _ k => exact .tup vs cs h1 fun i v c hv hc => ih i v c hv hc (k c (List.mem_of_getElem? hc))
 | nil => exact .nil
 | sl a cap k sz xs vs h1 h2 h3 h4 _ ih =>
  cases hd with
  | sl _ _ kk => exact .sl a cap k sz xs vs h1 h2 h3 h4 fun i j row c hi hj => ih i j row c hi hj (kk row (List.mem_of_getElem? hi) c (List.mem_of_getElem? hj))
 | ro a cs vs h0 h1 _ ih =>
  cases hd with
  | ro _ k => exact .ro a cs vs h0 h1 fun j c hj => ih j c hj (k c (List.mem_of_getElem? hj))
 | ref r sz off len cap p h1 h2 h3 h4 => cases hd
 | ref0 a r sz off => cases hd
 | ptr r off p h => cases hd
 | fn f vs us cs ds h1 h2 _ _ ih1 ih2 =>
  cases hd with
  | fn _ _ _ k1 k2 => exact .fn f vs us cs ds h1 h2 (fun i v c hv hc => ih1 i v c hv hc (k1 c (List.mem_of_getElem? hc))) (fun i v c hv hc => ih2 i v c hv hc (k2 c (List.mem_of_getElem? hc)))
 | bad v => exact .bad v
inductive Snap (m : Mem) (S : Nat → Prop) : LV → LV → Prop
 | data (l : LV) : Data l → Snap m S l l
 | bad (l : LV) : Snap m S l .bad
 | agg (cs ds : List LV) : cs.length = ds.length → (∀ (i : Nat) (c d : LV), cs[i]? = some c → ds[i]? = some d → d.one = c.one) → (∀ (i : Nat) (c d : LV), cs[i]? = some c → ds[i]? = some d → Snap m S c d) → Snap m S (.agg cs) (.agg ds)
 | tup (cs ds : List LV) : cs.length = ds.length → (∀ (i : Nat) (c d : LV), cs[i]? = some c → ds[i]? = some d → Snap m S c d) → Snap m S (.tup cs) (.tup ds)
 | sl (k k' : Nat) (xs ys : List (List LV)) : (k' = k ∨ k = 2 ∧ k' = 1) → xs.length = ys.length → (∀ (i : Nat) (r t : List LV), xs[i]? = some r → ys[i]? = some t → r.length = t.length) →
   (∀ (i j : Nat) (r t : List LV) (c d : LV), xs[i]? = some r → ys[i]? = some t → r[j]? = some c → t[j]? = some d → d.one = c.one) → (∀ (i j : Nat) (r t : List LV) (c d : LV), xs[i]? = some r → ys[i]? = some t → r[j]? = some c → t[j]? = some d → Snap m S c d) → Snap m S (.sl k xs) (.sl k' ys)
 | ro (cs ds : List LV) : cs.length = ds.length → (∀ (i : Nat) (c d : LV), cs[i]? = some c → ds[i]? = some d → d.one = c.one) → (∀ (i : Nat) (c d : LV), cs[i]? = some c → ds[i]? = some d → Snap m S c d) → Snap m S (.ro cs) (.ro ds)
 | fn (f : Fn) (cs ds cs' ds' : List LV) : cs.length = cs'.length → ds.length = ds'.length → (∀ (i : Nat) (c d : LV), cs[i]? = some c → cs'[i]? = some d → Snap m S c d) → (∀ (i : Nat) (c d : LV), ds[i]? = some c → ds'[i]? = some d → Snap m S c d) → Snap m S (.fn f cs ds) (.fn f cs' ds')
 | ref (r sz off len : Nat) (o : Ob) (ys : List (List LV)) : m r = some o → S r → o.st ≠ 2 → o.sz = sz → 0 < sz → (off + len) * sz ≤ o.cells.length → ys.length = len → (∀ (i : Nat) (t : List LV), ys[i]? = some t → t.length = sz) →
   (∀ (i j : Nat) (t : List LV) (c d : LV), ys[i]? = some t → t[j]? = some d → o.cells[(off + i) * sz + j]? = some c → d.one = c.one) → (∀ (i j : Nat) (t : List LV) (c d : LV), ys[i]? = some t → t[j]? = some d → o.cells[(off + i) * sz + j]? = some c → Snap m S c d) → Snap m S (.ref r sz off len) (.sl 1 ys)
 | ptr (r off : Nat) (o : Ob) (ds : List LV) : m r = some o → S r → o.st ≠ 2 → (o.cells.drop off).length = ds.length → (∀ (i : Nat) (c d : LV), (o.cells.drop off)[i]? = some c → ds[i]? = some d → d.one = c.one) → (∀ (i : Nat) (c d : LV), (o.cells.drop off)[i]? = some c → ds[i]? = some d → Snap m S c d) → Snap m S (.ptr r off) (.ro ds)
theorem Snap.isData {m : Mem} {S : Nat → Prop} {l l' : LV} (h : Snap m S l l') : Data l' := by
 induction h with
 | data l h => exact h
 | bad l => exact .bad
 | agg cs ds h1 _ _ ih =>
  refine .agg ds fun d hd => ?_
  obtain ⟨i, hi⟩ := List.getElem?_of_mem hd
  have hlt := (List.getElem?_eq_some_iff.1 hi).1
  exact ih i _ d (List.getElem?_eq_getElem (by omega : i < cs.length)) hi
 | tup cs ds h1 _ ih =>
  refine .tup ds fun d hd => ?_
  obtain ⟨i, hi⟩ := List.getElem?_of_mem hd
  have hlt := (List.getElem?_eq_some_iff.1 hi).1
  exact ih i _ d (List.getElem?_eq_getElem (by omega : i < cs.length)) hi
 | sl k k' xs ys h0 h1 h2 _ _ ih =>
  refine .sl k' ys fun t ht d hd => ?_
  obtain ⟨i, hi⟩ := List.getElem?_of_mem ht
  obtain ⟨j, hj⟩ := List.getElem?_of_mem hd
  have hlt := (List.getElem?_eq_some_iff.1 hi).1
  have hr := List.getElem?_eq_getElem (by omega : i < xs.length)
  have hl := h2 i _ _ hr hi
  have hjt := (List.getElem?_eq_some_iff.1 hj).1
  exact ih i j _ t _ d hr hi (List.getElem?_eq_getElem om) hj
 | ro cs ds h1 _ _ ih =>
  refine .ro ds fun d hd => ?_
  obtain ⟨i, hi⟩ := List.getElem?_of_mem hd
  have hlt := (List.getElem?_eq_some_iff.1 hi).1
  exact ih i _ d (List.getElem?_eq_getElem (by omega : i < cs.length)) hi
 | fn f cs ds cs' ds' h1 h2 _ _ ih1 ih2 =>
  refine .fn f cs' ds' (fun d hd => ?_) (fun d hd => ?_)
  ·obtain ⟨i, hi⟩ := List.getElem?_of_mem hd
   have hlt := (List.getElem?_eq_some_iff.1 hi).1
   exact ih1 i _ d (List.getElem?_eq_getElem (by omega : i < cs.length)) hi
  ·obtain ⟨i, hi⟩ := List.getElem?_of_mem hd
   have hlt := (List.getElem?_eq_some_iff.1 hi).1
   exact ih2 i _ d (List.getElem?_eq_getElem (by omega : i < ds.length)) hi
 | ref r sz off len o ys h1 h2 h3 h4 h5 h6 h7 h8 _ _ ih =>
  refine .sl 1 ys fun t ht d hd => ?_
  obtain ⟨i, hi⟩ := List.getElem?_of_mem ht
  obtain ⟨j, hj⟩ := List.getElem?_of_mem hd
  have hlt := (List.getElem?_eq_some_iff.1 hi).1
  have hjt := (List.getElem?_eq_some_iff.1 hj).1
  have hl := h8 i t hi
  have : (off + i + 1) * sz ≤ (off + len) * sz := Nat.mul_le_mul_right _ om
  rw [Nat.succ_mul] at this
  exact ih i j t _ d hi hj (List.getElem?_eq_getElem om)
 | ptr r off o ds h1 h2 h3 h4 _ _ ih =>
  refine .ro ds fun d hd => ?_
  obtain ⟨i, hi⟩ := List.getElem?_of_mem hd
  have hlt := (List.getElem?_eq_some_iff.1 hi).1
  exact ih i _ d (List.getElem?_eq_getElem (by omega : i < (o.cells.drop off).length)) hi
theorem Snap.local {m m' : Mem} {S : Nat → Prop} {l l' : LV} (h : Snap m S l l') (hm : ∀ r, S r → m' r = m r) : Snap m' S l l' := by
 induction h with
 | data l h => exact .data l h
 | bad l => exact .bad l
 | agg cs ds h1 h2 _ ih => exact .agg cs ds h1 h2 ih
 | tup cs ds h1 _ ih => exact .tup cs ds h1 ih
 | sl k k' xs ys h0 h1 h2 h3 _ ih => exact .sl k k' xs ys h0 h1 h2 h3 ih
 | ro cs ds h1 h2 _ ih => exact .ro cs ds h1 h2 ih
 | fn f cs ds cs' ds' h1 h2 _ _ ih1 ih2 => exact .fn f cs ds cs' ds' h1 h2 ih1 ih2
 | ref r sz off len o ys h1 h2 h3 h4 h5 h6 h7 h8 h9 _ ih => exact .ref r sz off len o ys (by rw [hm r h2]; exact h1) h2 h3 h4 h5 h6 h7 h8 h9 ih
 | ptr r off o ds h1 h2 h3 h4 h5 _ ih => exact .ptr r off o ds (by rw [hm r h2]; exact h1) h2 h3 h4 h5 ih
theorem Snap.rel {okF : Nat → Prop} {B : Nat} {σ : Places} {m m' : Mem} {w : World} {S : Nat → Prop} (hI : Inv okF B σ m' w) (hS : ∀ r o, S r → m r = some o → o.st ≠ 2 → m' r = some { o with st := 1 })
  {l l' : LV} (h : Snap m S l l') : ∀ {v : Value}, Rel (okS okF σ m') w σ v l → Rel (okS okF σ m') w σ v l' := by
 have frozen : ∀ {r o p}, m' r = some o → o.st = 1 → σ r = some p → okS okF σ m' p.blk := by
  intro r o p hr hs hp
  obtain ⟨q, c, g1, g2, g3, g4, g5, g6, g8, g7⟩ := hI.at_ r o hr om
  rw [hp] at g1; cases g1
  refine ⟨hI.new _ g6, fun r2 o2 p2 hr2 hs2 hp2 => ?_⟩
  exact hI.inj r2 o2 r o p2 p hr2 hs2 hr om (by intro e; subst e; rw [hr] at hr2; cases hr2; omega) hp2 hp
 induction h with
 | data l h => exact fun hr => hr
 | bad l => exact fun _ => .bad _
 | agg cs ds h1 h0 _ ih =>
  intro v hr
  cases hr with
  | agg vs _ g1 g2 g3 =>
   refine .agg vs ds om (fun d hd => ?_) (fun i v d hv hd => ?_)
   ·obtain ⟨i, hi⟩ := List.getElem?_of_mem hd
    have hlt := (List.getElem?_eq_some_iff.1 hi).1
    have hc := List.getElem?_eq_getElem (by omega : i < cs.length)
    rw [h0 i _ d hc hi]; exact g2 _ (List.mem_of_getElem? hc)
   ·have hlt := (List.getElem?_eq_some_iff.1 hd).1
    have hc := List.getElem?_eq_getElem (by omega : i < cs.length)
    exact ih i _ d hc hd (g3 i v _ hv hc)
 | tup cs ds h1 _ ih =>
  intro v hr
  cases hr with
  | tup vs _ g1 g3 =>
   refine .tup vs ds om (fun i v d hv hd => ?_)
   have hlt := (List.getElem?_eq_some_iff.1 hd).1
   have hc := List.getElem?_eq_getElem (by omega : i < cs.length)
   exact ih i _ d hc hd (g3 i v _ hv hc)
 | sl k k' xs ys h0 h1 h2 h3 _ ih =>
  intro v hr
  cases hr with
  | nil =>
   have : ys = [] := by simpa using h1.symm
   subst this
   rcases h0 with rfl | ⟨h0, _⟩
   ·exact .nil
   ·cases h0
  | sl a cap _ sz _ vs g1 g2 g3 g4 g5 =>
   rw [h1]
   have row : ∀ (i : Nat) (t : List LV), ys[i]? = some t → ∃ r, xs[i]? = some r ∧ r.length = t.length := by
    intro i t hi
    have hlt := (List.getElem?_eq_some_iff.1 hi).1
    have hx := List.getElem?_eq_getElem (by omega : i < xs.length)
    exact ⟨_, hx, h2 i _ t hx hi⟩
   have cell : ∀ (i j : Nat) (t : List LV) (d : LV), ys[i]? = some t → t[j]? = some d → ∃ r c, xs[i]? = some r ∧ r[j]? = some c := by
    intro i j t d hi hj
    obtain ⟨r, hr, hl⟩ := row i t hi
    have hlt := (List.getElem?_eq_some_iff.1 hj).1
    exact ⟨r, _, hr, List.getElem?_eq_getElem om⟩
   refine .sl a cap k' sz ys vs ?_ om (fun t ht => ?_) (fun i j t d hi hj => ?_) (fun i j t d hi hj => ?_)
   ·rw [← h1]
    rcases h0 with rfl | ⟨rfl, rfl⟩
    ·exact g1
    ·exact .inl rfl
   ·obtain ⟨i, hi⟩ := List.getElem?_of_mem ht
    obtain ⟨r, hr, hl⟩ := row i t hi
    refine ⟨by rw [← hl]; exact (g3 r (List.mem_of_getElem? hr)).1, fun d hd => ?_⟩
    obtain ⟨j, hj⟩ := List.getElem?_of_mem hd
    obtain ⟨r', c, hr', hc⟩ := cell i j t d hi hj
    rw [h3 i j r' t c d hr' hi hc hj]
    exact (g3 r' (List.mem_of_getElem? hr')).2 c (List.mem_of_getElem? hc)
   ·obtain ⟨r', c, hr', hc⟩ := cell i j t d hi hj
    exact g4 i j r' c hr' hc
   ·obtain ⟨r', c, hr', hc⟩ := cell i j t d hi hj
    exact ih i j r' t c d hr' hi hc hj (g5 i j r' c hr' hc)
 | ro cs ds h1 h3 _ ih =>
  intro v hr
  cases hr with
  | ro a _ vs g1 g2 g3 =>
   have get : ∀ (i : Nat) (d : LV), ds[i]? = some d → ∃ c, cs[i]? = some c := fun i d hd => by
    have hlt := (List.getElem?_eq_some_iff.1 hd).1
    exact ⟨_, List.getElem?_eq_getElem (by omega : i < cs.length)⟩
   refine .ro a ds vs (fun d hd => ?_) (fun i d hd => ?_) (fun i d hd => ?_)
   ·obtain ⟨i, hi⟩ := List.getElem?_of_mem hd
    obtain ⟨c, hc⟩ := get i d hi
    rw [h3 i c d hc hi]; exact g1 _ (List.mem_of_getElem? hc)
   ·obtain ⟨c, hc⟩ := get i d hd
    exact g2 i c hc
   ·obtain ⟨c, hc⟩ := get i d hd
    exact ih i c d hc hd (g3 i c hc)
 | fn f cs ds cs' ds' h1 h2 _ _ ih1 ih2 =>
  intro v hr
  cases hr with
  | fn _ vs us _ _ g1 g2 g3 g4 =>
   refine .fn f vs us cs' ds' om om (fun i v d hv hd => ?_) (fun i v d hv hd => ?_)
   ·have hlt := (List.getElem?_eq_some_iff.1 hd).1
    have hc := List.getElem?_eq_getElem (by omega : i < cs.length)
    exact ih1 i _ d hc hd (g3 i v _ hv hc)
   ·have hlt := (List.getElem?_eq_some_iff.1 hd).1
    have hc := List.getElem?_eq_getElem (by omega : i < ds.length)
    exact ih2 i _ d hc hd (g4 i v _ hv hc)
 | ref r sz off len o ys h1 h2 h3 h4 h5 h6 h7 h8 h9 _ ih =>
  intro v hr
  have hm' := hS r o h2 h1 h3
  cases hr with
  | ref0 a =>
   have : ys = [] := by simpa using h7
   subst this
   exact .sl a 0 1 1 [] (fun _ _ => undef) (.inl rfl) (Nat.le_refl _) (by simp) (by simp) (by simp)
  | ref _ _ _ _ cap p g1 g2 g3 g4 =>
   obtain ⟨q, c0, k1, k2, k3, k4, k5, k6, k8, k7⟩ := hI.at_ r _ hm' (by simp)
   rw [g1] at k1; cases k1
   have hok := frozen hm' rfl g1
   subst h7
   have get : ∀ (i j : Nat) (t : List LV) (d : LV), ys[i]? = some t → t[j]? = some d → ∃ c, o.cells[(off + i) * sz + j]? = some c ∧ ∃ v, c0[p.base + ((off + i) * sz + j)]? = some v ∧ Rel (okS okF σ m') w σ v c := by
    intro i j t d hi hj
    have hlt := (List.getElem?_eq_some_iff.1 hi).1
    have hjt := (List.getElem?_eq_some_iff.1 hj).1
    have hl := h8 i t hi
    have : (off + i + 1) * sz ≤ (off + ys.length) * sz := Nat.mul_le_mul_right _ om
    rw [Nat.succ_mul] at this
    have hc := List.getElem?_eq_getElem (by omega : (off + i) * sz + j < o.cells.length)
    exact ⟨_, hc, k7 _ _ hc⟩
   have hcell : ∀ j, w.cell? ⟨p.blk, p.base + off * sz + j, none⟩ = c0[p.base + off * sz + j]? := fun j => by simp [World.cell?, k3]
   refine .sl _ cap 1 sz ys (fun i j => (w.cell? ⟨p.blk, p.base + off * sz + (i * sz + j), none⟩).getD undef) (.inl rfl) g4 (fun t ht => ?_) (fun i j t d hi hj => ?_) (fun i j t d hi hj => ?_)
   ·obtain ⟨i, hi⟩ := List.getElem?_of_mem ht
    refine ⟨h8 i t hi, fun d hd => ?_⟩
    obtain ⟨j, hj⟩ := List.getElem?_of_mem hd
    obtain ⟨c, hc, _⟩ := get i j t d hi hj
    rw [h9 i j t c d hi hj hc]
    exact k8 c (List.mem_of_getElem? hc)
   ·obtain ⟨c, hc, v, hv, _⟩ := get i j t d hi hj
    refine ⟨rfl, hok, ?_⟩
    simp only
    rw [hcell, show p.base + off * sz + (i * sz + j) = p.base + ((off + i) * sz + j) by rw [Nat.add_mul]; omega, hv]; rfl
   ·obtain ⟨c, hc, v, hv, hr⟩ := get i j t d hi hj
    have : (w.cell? ⟨p.blk, p.base + off * sz + (i * sz + j), none⟩).getD undef = v := by
     rw [hcell, show p.base + off * sz + (i * sz + j) = p.base + ((off + i) * sz + j) by rw [Nat.add_mul]; omega, hv]; rfl
    rw [this]
    exact ih i j t c d hi hj hc hr
 | ptr r off o ds h1 h2 h3 h4 h5 _ ih =>
  intro v hr
  have hm' := hS r o h2 h1 h3
  cases hr with
  | ptr _ _ p g1 =>
   have hseg := hI.seg hm' (by simp) g1 off
   have hok := frozen hm' rfl g1
   have get : ∀ (i : Nat) (d : LV), ds[i]? = some d → ∃ c, (o.cells.drop off)[i]? = some c := fun i d hd => by
    have hlt := (List.getElem?_eq_some_iff.1 hd).1
    exact ⟨_, List.getElem?_eq_getElem (by omega : i < (o.cells.drop off).length)⟩
   refine .ro _ ds (fun j => (w.cell? ⟨p.blk, p.base + off + j, none⟩).getD undef) (fun d hd => ?_) (fun i d hd => ?_) (fun i d hd => ?_)
   ·obtain ⟨i, hi⟩ := List.getElem?_of_mem hd
    obtain ⟨c, hc⟩ := get i d hi
    rw [h5 i c d hc hi]; exact (hseg i c hc).2.2.2
   ·obtain ⟨c, hc⟩ := get i d hd
    exact ⟨rfl, hok, (hseg i c hc).2.1⟩
   ·obtain ⟨c, hc⟩ := get i d hd
    exact ih i c d hc hd (hseg i c hc).2.2.1
open Go.RowKit
structure St where
 s : List LV
 m : Mem
 n : Nat
inductive Ex where
 | normal
 | exit (id : Nat)
 | ret
 deriving DecidableEq
def ofV : Value → LV
 | .slice none 0 0 => .sl 0 []
 | .agg cs => if cs.toList.all zsc then .agg (cs.toList.map lz) else .bad
 | x => if x.sc then .v x else .bad
def evS (s : List LV) : Operand → LV
 | .tmp t => s[t]?.getD .bad
 | .const v => ofV v
 | .func f => .fn (.func f) [] []
 | .global _ => .bad
def putS (s : List LV) (d : Option Tmp) (l : LV) : List LV :=
 match d with
 | some d => s.set d l
 | none => s
def wantedS (oa : Array Oper) (o : Oper) (s : List LV) : Option Bool :=
 match o.guard with
 | none => some true
 | some (j, want) =>
  match ((oa[j]?).bind (·.dst)).bind (s[·]?) with
  | some (.v (.bool b)) => some (b == want)
  | some (.v (.tuple _)) => some false
  | _ => none
def keys (d : Delta) : List Nat := d.map (·.1)
def FrzOk (m : Mem) (d : Delta) : Prop := ∀ p, p ∈ d → ∃ o, m p.1 = some o ∧ o.st ≠ 2 ∧ p.2 = { o with st := 1 }
def SnapL (m : Mem) (d : Delta) (ls ls' : List LV) : Prop :=
 ls.length = ls'.length ∧ ∀ (i : Nat) (l l' : LV), ls[i]? = some l → ls'[i]? = some l' → Snap m (· ∈ keys d) l l'
def SnapS (m : Mem) (S : Nat → Prop) (s s1 : List LV) : Prop := s.length = s1.length ∧ ∀ (i : Nat) (l l' : LV), s[i]? = some l → s1[i]? = some l' → l' = l ∨ Snap m S l l'
def SnapC (m : Mem) (S : Nat → Prop) (cs ds : List LV) : Prop := cs.length = ds.length ∧ ∀ (i : Nat) (c e : LV), cs[i]? = some c → ds[i]? = some e → e = c ∨ (e.one = c.one ∧ Snap m S c e)
def FrzM (m0 : Mem) (S : Nat → Prop) (m m1 : Mem) : Prop := ∀ r, (m r = none ∧ m1 r = none) ∨ ∃ o cs, m r = some o ∧ m1 r = some { o with cells := cs } ∧ SnapC m0 S o.cells cs
def idsOf : LV → List Nat
 | .ref r _ _ _ => [r]
 | .ptr r _ => [r]
 | _ => []
def rds (o : Op) (ev : Operand → LV) : List Nat :=
 match o with
 | .load _ a => idsOf (ev a)
 | .store _ a _ => idsOf (ev a)
 | .call c => match c.callee with
  | .builtin .append | .builtin .copy => c.args.toList.flatMap fun x => idsOf (ev x)
  | _ => []
 | _ => []
structure Rec where
 i : Nat
 ws : List Nat
 R : List Nat
 g : Bool
def Indep (x y : Rec) : Prop := x.g = false ∧ y.g = false ∧ (∀ k, k ∈ x.ws → k ∉ y.ws ∧ k ∉ y.R) ∧ (∀ k, k ∈ y.ws → k ∉ x.R)
def edge (oa : Array Oper) (i j : Nat) : Bool := ((oa[j]?).map fun o => o.after.any fun e => Region.binds .any e && e.on == i).getD false
def apartAt (oa : Array Oper) (i j : Nat) : Bool := match oa[i]?, oa[j]? with
 | some x, some y => x.apart oa y
 | _, _ => false
def DrawOk (oa : Array Oper) (rs : List Rec) : Prop := rs.Pairwise fun x y => edge oa x.i y.i = true ∨ (apartAt oa x.i y.i = true ∧ Indep x y)
def reach (oa : Array Oper) : Nat → Nat → Nat → Bool
 | 0, i, j => edge oa i j
 | f + 1, i, j => edge oa i j || (List.range oa.size).any fun k => edge oa i k && reach oa f k j
def Still (x y : Rec) : Prop := x.g = true ∧ y.g = false ∧ y.ws = [] ∧ ∀ k, k ∈ y.R → k ∈ x.R
def DrawG (oa : Array Oper) (rs : List Rec) : Prop := rs.Pairwise fun x y => reach oa 4 x.i y.i = true ∨ (apartAt oa x.i y.i = true ∧ (Indep x y ∨ Still x y ∨ Still y x))
def topo (oa : Array Oper) : Bool := (List.range oa.size).all fun i => ((oa[i]?).map fun o => o.after.all fun e => !Region.binds .any e || decide (e.on < i)).getD true
def resLV (T : TT) (rv : ResultVar) (s : St) : Option LV :=
 match rv with
 | .tmp t => s.s[t]?
 | .cell a t => match s.s[a]? with
  | some l => match T t, cellsAt s.m l with
   | some ti, some cs => loadLV ti cs
   | _, _ => none
  | none => none
def resList (T : TT) : List ResultVar → St → Option (List LV)
 | [], _ => some []
 | r :: rs, s => match resLV T r s, resList T rs s with
  | some l, some ls => some (l :: ls)
  | _, _ => none
def resultLV (ls : List LV) : LV := match ls with
 | [l] => l
 | ls => .tup ls
def LV.own (id : Nat) : LV → LV
 | .ref _ sz off len => .ref id sz off len
 | .tup (.ref _ sz off len :: rest) => .tup (.ref id sz off len :: rest)
 | .tup (y :: .ref _ sz off len :: rest) => .tup (y :: .ref id sz off len :: rest)
 | x => x
inductive Task where
 | code (c : Code) (s : St) (x : Ex) (s' : St)
 | ops (oa : Array Oper) (l : List Nat) (b : Nat) (s : St) (rs : List Rec) (s' : St)
 | op (o : Oper) (id : Nat) (ev : Operand → LV) (m : Mem) (r : LV) (d : Delta) (R : List Nat)
 | call (f : FuncId) (args : List LV) (r : LV)
 | callO (f : FuncId) (args : List LV) (r : LV) (ob : Ob)
 | gcall (f : FuncId) (args : List LV) (m : Mem) (n : Nat) (r : LV) (m' : Mem) (n' : Nat)
def frame (fn : Func) (args : List LV) : List LV := args ++ List.replicate (fn.ntmps - args.length) (.v undef)
def HasBody (P : Program) (f : FuncId) : Prop := ∃ fn c, P.funcs[f]? = some fn ∧ fn.body = some c ∧ (fn.name == "runtime.NumGoroutine") = false
def SoundC (P : Program) (f : FuncId) (args : List LV) (r : LV) : Prop :=
 HasBody P f ∧ ∀ (okF : Nat → Prop) (w : World) (argv : Array Value), (∀ b, w.heap.size ≤ b → okF b) → argv.size = args.length →
  (∀ (i : Nat) (v : Value) (l : LV), argv[i]? = some v → args[i]? = some l → Rel okF w (fun _ => none) v l) →
  Calls P f argv w fun e w' => ∃ v, e = .returned v ∧ Rel okF w' (fun _ => none) v r ∧ Below w.heap.size w w'
def mix {α : Type} (n : Nat) (m m0 : Nat → Option α) : Nat → Option α := fun k => if k < n then m k else m0 k
inductive Run (P : Program) (T : TT) (E : TypeId → Bool) : Task → Prop
 | prim (o : Oper) (id : Nat) (ev : Operand → LV) (m : Mem) (r : LV) (d : Delta) : aop T E o.op ev m id = some (r, d) → Run P T E (.op o id ev m r d (rds o.op ev))
 | pcall (o : Oper) (id : Nat) (ev : Operand → LV) (m : Mem) (r : LV) (d : Delta) (c : Call) (f : Operand) (g : FuncId) (first cap as : List LV) : o.op = .call c → c.callee = .value f → ev f = .fn (.func g) first cap →
   SnapL m d (first ++ c.args.toList.map ev ++ cap) as → FrzOk m d → Run P T E (.call g as r) → Run P T E (.op o id ev m r d (keys d))
 | bcall (o : Oper) (id : Nat) (ev : Operand → LV) (m : Mem) (x : Value) (d : Delta) (c : Call) (f : Operand) (g : FuncId) (first cap as : List LV) : o.op = .call c → c.callee = .value f → ev f = .fn (.func g) first cap →
   SnapL m d (first ++ c.args.toList.map ev ++ cap) as → FrzOk m d → Run P T E (.call g as (.v x)) → Run P T E (.op o id ev m (.v x) [] (keys d))
 | ocall (o : Oper) (id : Nat) (ev : Operand → LV) (m : Mem) (r : LV) (ob : Ob) (d : Delta) (c : Call) (f : Operand) (g : FuncId) (first cap as : List LV) : o.op = .call c → c.callee = .value f → ev f = .fn (.func g) first cap →
   SnapL m d (first ++ c.args.toList.map ev ++ cap) as → FrzOk m d → Run P T E (.callO g as r ob) → Run P T E (.op o id ev m (r.own id) (d ++ [(id, ob)]) (keys d))
 | nil (oa : Array Oper) (b : Nat) (s : St) : Run P T E (.ops oa [] b s [] s)
 | skipped (oa : Array Oper) (i : Nat) (l : List Nat) (b : Nat) (s s' : St) (rs : List Rec) (o : Oper) : oa[i]? = some o → wantedS oa o s.s = some false → Run P T E (.ops oa l b { s with s := putS s.s o.dst (.v undef) } rs s') →
   Run P T E (.ops oa (i :: l) b s (⟨i, [], [], false⟩ :: rs) s')
 | did (oa : Array Oper) (i : Nat) (l : List Nat) (b : Nat) (s s' : St) (rs : List Rec) (o : Oper) (r : LV) (d : Delta) (R : List Nat) : oa[i]? = some o → wantedS oa o s.s = some true → Run P T E (.op o (b + i) (evS s.s) s.m r d R) →
   Run P T E (.ops oa l b { s with s := putS s.s o.dst r, m := app d s.m } rs s') → Run P T E (.ops oa (i :: l) b s (⟨i, keys d, R, false⟩ :: rs) s')
 | gdid (oa : Array Oper) (i : Nat) (l : List Nat) (b : Nat) (s s' : St) (rs : List Rec) (o : Oper) (c : Call) (f : Operand) (g : FuncId) (first cap : List LV) (r : LV) (m' : Mem) (n' : Nat) (K : List Nat) : oa[i]? = some o → wantedS oa o s.s = some true →
   o.op = .call c → c.callee = .value f → evS s.s f = .fn (.func g) first cap → Run P T E (.gcall g (first ++ c.args.toList.map (evS s.s) ++ cap) s.m s.n r m' n') → (∀ k, k ∈ K → m' k = s.m k) →
   Run P T E (.ops oa l b ⟨putS s.s o.dst r, m', n'⟩ rs s') → Run P T E (.ops oa (i :: l) b s (⟨i, [], K, true⟩ :: rs) s')
 | skip (s : St) : Run P T E (.code .skip s .normal s)
 | seq (c d : Code) (s s1 s2 : St) (x : Ex) : Run P T E (.code c s .normal s1) → Run P T E (.code d s1 x s2) → Run P T E (.code (.seq c d) s x s2)
 | seqx (c d : Code) (s s1 : St) (x : Ex) : Run P T E (.code c s x s1) → x ≠ .normal → Run P T E (.code (.seq c d) s x s1)
 | cond (c : Operand) (t : Bool) (thn els : Code) (s s1 : St) (x : Ex) : evS s.s c = .v (.bool t) → Run P T E (.code (if t then thn else els) s x s1) → Run P T E (.code (.cond c thn els) s x s1)
 | block (id : Nat) (c : Code) (s s1 : St) (x : Ex) : Run P T E (.code c s x s1) → Run P T E (.code (.block id c) s (if x = .exit id then .normal else x) s1)
 | loop (c : Code) (s s1 s2 : St) (x : Ex) : Run P T E (.code c s .normal s1) → Run P T E (.code (.loop c) s1 x s2) → Run P T E (.code (.loop c) s x s2)
 | loopx (c : Code) (s s1 : St) (x : Ex) : Run P T E (.code c s x s1) → x ≠ .normal → Run P T E (.code (.loop c) s x s1)
 | exit (id : Nat) (s : St) : Run P T E (.code (.exit id) s (.exit id) s)
 | ret (s : St) : Run P T E (.code .ret s .ret s)
 | region (id : Nat) (oa : Array Oper) (s s' : St) (rs : List Rec) : Run P T E (.ops oa (List.range oa.size) s.n { s with n := s.n + oa.size } rs s') → Run P T E (.code (.region id oa false) s .normal s')
 | draw (id : Nat) (oa : Array Oper) (s s' : St) (rs : List Rec) : Run P T E (.ops oa (List.range oa.size) s.n { s with n := s.n + oa.size } rs s') → DrawOk oa rs → topo oa = true → (∀ x, x ∈ rs → x.g = false) → Run P T E (.code (.region id oa true) s .normal s')
 | drawG (id : Nat) (oa : Array Oper) (s s' : St) (rs : List Rec) : Run P T E (.ops oa (List.range oa.size) s.n { s with n := s.n + oa.size } rs s') → DrawG oa rs → topo oa = true → Run P T E (.code (.region id oa true) s .normal s')
 | regF (id : Nat) (oa : Array Oper) (t : Bool) (s s' : St) (s1 : List LV) (m1 : Mem) (d : Delta) : Run P T E (.code (.region id oa t) s .normal s') → FrzOk s'.m d → SnapS s'.m (· ∈ keys d) s'.s s1 → FrzM s'.m (· ∈ keys d) (app d s'.m) m1 →
   Run P T E (.code (.region id oa t) s .normal ⟨s1, m1, s'.n⟩)
 | gcall (f : FuncId) (fn : Func) (c : Code) (args : List LV) (m : Mem) (n : Nat) (x : Ex) (s' : St) (ls : List LV) : P.funcs[f]? = some fn → fn.body = some c → (fn.name == "runtime.NumGoroutine") = false → args.length ≤ fn.ntmps → Run P T E (.code c ⟨frame fn args, m, n⟩ x s') → (x = .normal ∨ x = .ret) →
   resList T fn.results.toList s' = some ls → Run P T E (.gcall f args m n (resultLV ls) s'.m s'.n)
 | call (f : FuncId) (args : List LV) (r0 r : LV) (m' : Mem) (n' : Nat) (d : Delta) : Run P T E (.gcall f args (fun _ => none) 0 r0 m' n') → Snap m' (· ∈ keys d) r0 r → FrzOk m' d → Run P T E (.call f args r)
 | callO (f : FuncId) (args : List LV) (q sz len : Nat) (ob : Ob) (ds : List LV) (m' : Mem) (n' : Nat) (d : Delta) : Run P T E (.gcall f args (fun _ => none) 0 (.ref q sz 0 len) m' n') → m' q = some ob → ob.st = 0 → ob.sz = sz → q ∉ keys d → SnapL m' d ob.cells ds →
   (∀ (i : Nat) (c e : LV), ob.cells[i]? = some c → ds[i]? = some e → e.one = c.one) → FrzOk m' d → Run P T E (.callO f args (.ref 0 sz 0 len) { ob with cells := ds })
 | callOt (f : FuncId) (args : List LV) (q sz len : Nat) (ob : Ob) (ds rest rest' : List LV) (m' : Mem) (n' : Nat) (d : Delta) : Run P T E (.gcall f args (fun _ => none) 0 (.tup (.ref q sz 0 len :: rest)) m' n') → m' q = some ob → ob.st = 0 → ob.sz = sz → q ∉ keys d → SnapL m' d ob.cells ds →
   (∀ (i : Nat) (c e : LV), ob.cells[i]? = some c → ds[i]? = some e → e.one = c.one) → SnapL m' d rest rest' → FrzOk m' d → Run P T E (.callO f args (.tup (.ref 0 sz 0 len :: rest')) { ob with cells := ds })
 | callOu (f : FuncId) (args : List LV) (q sz len : Nat) (ob : Ob) (ds rest rest' : List LV) (y y' : LV) (m' : Mem) (n' : Nat) (d : Delta) : Run P T E (.gcall f args (fun _ => none) 0 (.tup (y :: .ref q sz 0 len :: rest)) m' n') → m' q = some ob → ob.st = 0 → ob.sz = sz → q ∉ keys d → SnapL m' d ob.cells ds →
   (∀ (i : Nat) (c e : LV), ob.cells[i]? = some c → ds[i]? = some e → e.one = c.one) → SnapL m' d (y :: rest) (y' :: rest') → FrzOk m' d → Run P T E (.callO f args (.tup (y' :: .ref 0 sz 0 len :: rest')) { ob with cells := ds })
 | ext (f : FuncId) (args : List LV) (r : LV) : SoundC P f args r → Run P T E (.call f args r)
 | frame (f : FuncId) (args as : List LV) (m m0 : Mem) (n n' : Nat) (r : LV) (d : Delta) : SnapL m d args as → FrzOk m d → Run P T E (.gcall f as (fun _ => none) n r m0 n') → Run P T E (.gcall f args m n r (mix n (app d m) m0) n')
theorem oJ {m m' : Mem} {sz : Nat} {l : LV} (h : ∀ k, k ∈ idsOf l → m' k = m k) : flat m' sz l = flat m sz l := by
 cases l <;> simp only [flat]
 rename_i r _ _ _
 rw [h r (by simp [idsOf])]
theorem pF {m m' : Mem} {l : LV} (h : ∀ k, k ∈ idsOf l → m' k = m k) : cellsAt m' l = cellsAt m l := by
 cases l <;> simp only [cellsAt]
 rename_i r _
 rw [h r (by simp [idsOf])]
theorem pE {T : TT} {b : Builtin} {at_ : Array TypeId} {xs : List LV} {m m' : Mem} {id : Nat} (h : (b = .append ∨ b = .copy) → ∀ k, k ∈ xs.flatMap idsOf → m' k = m k) : builtinLV T b at_ xs m' id = builtinLV T b at_ xs m id := by
 unfold builtinLV
 split
 ·rfl
 ·split
  ·rename_i s x
   have h' := h (.inl rfl)
   simp only [appendLV]
   have e1 : ∀ sz, flat m' sz x = flat m sz x := fun sz => oJ fun k hk => h' k (by simp [hk])
   simp only [e1]
   cases s <;> try rfl
   rename_i r _ _ _
   have e2 : m' r = m r := h' r (by simp [idsOf])
   simp only [e2]
  ·rfl
 ·split
  ·rename_i s x
   have h' := h (.inr rfl)
   simp only [copyLV]
   have e1 : ∀ sz, flat m' sz x = flat m sz x := fun sz => oJ fun k hk => h' k (by simp [hk])
   simp only [e1]
   cases s <;> try rfl
   rename_i r _ _ _
   have e2 : m' r = m r := h' r (by simp [idsOf])
   simp only [e2]
  ·rfl
 ·rfl
 ·rfl
 ·rfl
theorem aop_local {T : TT} {E : TypeId → Bool} {o : Op} {ev ev' : Operand → LV} {m m' : Mem} {id : Nat} (he : ∀ x, x ∈ o.operands → ev' x = ev x) (hm : ∀ k, k ∈ rds o ev → m' k = m k) : aop T E o ev' m' id = aop T E o ev m id := by
 have opt : ∀ (x : Option Operand), (∀ y, y ∈ x.toArray → ev' y = ev y) → x.map ev' = x.map ev := by
  intro x h; cases x with
  | none => rfl
  | some y => simp only [Option.map_some]; rw [h y (by simp)]
 cases o with
 | build t parts =>
  have : (parts.toList.map fun p => (p.1, ev' p.2)) = parts.toList.map fun p => (p.1, ev p.2) := List.map_congr_left fun p hp => by
   rw [he p.2 (by simp only [Op.operands, List.mem_toArray, List.mem_map]; exact ⟨p, hp, rfl⟩)]
  simp only [aop, this]
 | buildSlice t len parts =>
  have : (parts.toList.map fun p => (p.1, ev' p.2)) = parts.toList.map fun p => (p.1, ev p.2) := List.map_congr_left fun p hp => by
   rw [he p.2 (by simp only [Op.operands, List.mem_toArray, List.mem_map]; exact ⟨p, hp, rfl⟩)]
  simp only [aop, this]
 | call c =>
  have : c.args.toList.map ev' = c.args.toList.map ev := List.map_congr_left fun x hx => he x (by simp [Op.operands, Call.operands]; exact .inr (by simpa using hx))
  simp only [aop, this]
  split
  ·rename_i b hb
   refine pE fun hq k hk => hm k ?_
   simp only [rds, hb]
   rcases hq with rfl | rfl
   ·simpa [List.flatMap_map] using hk
   ·simpa [List.flatMap_map] using hk
  ·rfl
 | makeFunc f a b =>
  have e1 : a.toList.map ev' = a.toList.map ev := List.map_congr_left fun x hx => he x (by simp only [Op.operands, Array.mem_append]; exact .inl (by simpa using hx))
  have e2 : b.toList.map ev' = b.toList.map ev := List.map_congr_left fun x hx => he x (by simp only [Op.operands, Array.mem_append]; exact .inr (by simpa using hx))
  simp only [aop, e1, e2]
 | load t a =>
  have e := he a (by simp [Op.operands])
  simp only [aop, e, pF (m' := m') (m := m) fun k hk => hm k (by simpa [rds] using hk)]
 | store t a x =>
  have e1 := he a (by simp [Op.operands])
  have e2 := he x (by simp [Op.operands])
  simp only [aop, e1, e2]
  split
  ·rename_i r off ti h1 h2
   rw [hm r (by simp [rds, h1, idsOf])]
  ·rfl
 | slice t x lo hi mx =>
  have e1 := he x (by simp [Op.operands])
  have e2 := opt lo fun y hy => he y (by simp only [Op.operands, Array.mem_append]; exact .inl (.inl (.inr hy)))
  have e3 := opt hi fun y hy => he y (by simp only [Op.operands, Array.mem_append]; exact .inl (.inr hy))
  simp only [aop, e1, e2, e3]
 | _ => simp only [aop] <;> (try rfl) <;> simp only [Op.operands, List.mem_toArray, List.mem_cons, List.not_mem_nil, or_false, forall_eq_or_imp, forall_eq] at he <;> first | (simp only [he]; done) | (simp only [he.1, he.2]; done) | (simp only [he.1, he.2.1, he.2.2]; done)
open Go.RowKit
section
variable {P : Program} {T : TT} {E : TypeId → Bool} {okF : Nat → Prop} {B : Nat} {σ : Places} {m : Mem} {w : World}
structure SR (okF : Nat → Prop) (σ : Places) (m : Mem) (w : World) (tmps : Array Value) (s : List LV) : Prop where
  size : tmps.size = s.length
  rel : ∀ (i : Nat) (v : Value) (l : LV), tmps[i]? = some v → s[i]? = some l → Rel (okS okF σ m) w σ v l
theorem ofV_rel (v : Value) : Rel (okS okF σ m) w σ v (ofV v) := by
  unfold ofV
  split
  · exact .nil
  · rename_i cs
    split
    · rename_i h
      refine .agg cs _ (by simp) (fun c hc => ?_) (fun i v c hv hc => ?_)
      · obtain ⟨x, hx, rfl⟩ := List.mem_map.1 hc
        exact (mL (okF := okF) (σ := σ) (m := m) (w := w) (List.all_eq_true.1 h x hx)).2
      · rw [List.getElem?_map] at hc
        have hv' : cs.toList[i]? = some v := by simpa using hv
        rw [hv'] at hc
        simp only [Option.map_some, Option.some.injEq] at hc; subst hc
        exact (mL (List.all_eq_true.1 h v (List.mem_of_getElem? hv'))).1
    · exact .bad _
  · split
    · exact .v _ (by assumption)
    · exact .bad _
theorem SR.ev {a : Act} {s : List LV} (h : SR okF σ m w a.tmps s) (x : Operand) : Rel (okS okF σ m) w σ (a.eval x) (evS s x) := by
  cases x with
  | tmp t =>
    simp only [Act.eval, evS]
    cases hs : s[t]? with
    | none => exact .bad _
    | some l =>
      have hlt : t < a.tmps.size := by rw [h.size]; exact (List.getElem?_eq_some_iff.1 hs).1
      have := h.rel t _ l (Array.getElem?_eq_getElem hlt) hs
      simpa [hlt] using this
  | const v => exact ofV_rel v
  | func f => exact .fn _ _ _ _ _ rfl rfl (by simp) (by simp)
  | global g => exact .bad _
theorem SR.wanted {a : Act} {s : List LV} (h : SR okF σ m w a.tmps s) {oa : Array Oper} {o : Oper} {b : Bool} (hw : wantedS oa o s = some b) : Region.wanted o (yielded oa a.tmps) = b := by
  unfold wantedS at hw
  unfold Region.wanted
  split at hw
  · rename_i hg; rw [hg]; simpa using hw
  · rename_i j want hg
    rw [hg]
    simp only
    unfold yielded
    cases hd : (oa[j]?).bind (·.dst) with
    | none => rw [hd] at hw; simp at hw
    | some d =>
      rw [hd] at hw
      simp only [Option.bind_some] at hw ⊢
      cases hs : s[d]? with
      | none => rw [hs] at hw; simp at hw
      | some l =>
        rw [hs] at hw
        have hlt : d < a.tmps.size := by rw [h.size]; exact (List.getElem?_eq_some_iff.1 hs).1
        have hr := h.rel d _ l (Array.getElem?_eq_getElem hlt) hs
        rw [Array.getElem?_eq_getElem hlt]
        split at hw
        · rename_i b' hb
          cases hb
          generalize a.tmps[d] = z at hr
          cases hr
          simp at hw ⊢; exact hw
        · rename_i vs hb
          cases hb
          generalize a.tmps[d] = z at hr
          cases hr
          simp at hw ⊢; exact hw
        · cases hw
theorem SR.put {a : Act} {s : List LV} (h : SR okF σ m w a.tmps s) {v : Value} {l : LV} (hr : Rel (okS okF σ m) w σ v l) (d : Option Tmp) : SR okF σ m w (a.put d v).tmps (putS s d l) := by
  cases d with
  | none => exact h
  | some d =>
    refine ⟨by simp [Act.put, putS, h.size], fun i v' l' hv hl => ?_⟩
    simp only [Act.put, putS] at hv hl
    by_cases hi : d = i
    · subst hi
      rw [List.getElem?_set] at hl
      rw [Array.getElem?_setIfInBounds] at hv
      simp only [if_true] at hl hv
      split at hl
      · split at hv
        · cases hl; cases hv; exact hr
        · cases hv
      · cases hl
    · rw [List.getElem?_set_ne hi] at hl
      rw [Array.getElem?_setIfInBounds_ne hi] at hv
      exact h.rel i v' l' hv hl
theorem SR.ext {σ' : Places} {m' : Mem} {w' : World} (h : Ext okF B σ m w σ' m' w') {t : Array Value} {s : List LV} (hs : SR okF σ m w t s) : SR okF σ' m' w' t s :=
  ⟨hs.size, fun i v l hv hl => h.rel (hs.rel i v l hv hl)⟩
theorem Act.put_defers' (a : Act) (d : Option Tmp) (v : Value) : (a.put d v).defers = a.defers := by cases d <;> rfl
abbrev FR (ro : Option Nat) : Fence := { fn := fun _ => True, depth := none, alive := false, round := ro }
theorem qL {P : Program} {ro : Option Nat} {n : Nat} {f : FuncId} {args : Array Value} {w : World} {R : Ending → World → Prop} (h : Calls P f args w R) : CallsIn (FR ro) n P f args w R := by
  cases ro with
  | none => exact callsIn_wide.2 h
  | some l => exact CallsIn.inRound l (callsIn_wide.2 h)
def SoundOp (P : Program) (o : Oper) (id : Nat) (ev : Operand → LV) (m : Mem) (r : LV) (d : Delta) (R : List Nat) : Prop :=
  ∀ (ev' : Operand → LV) (m' : Mem), (∀ x, x ∈ o.op.operands → ev' x = ev x) → (∀ k, k ∈ R → m' k = m k) →
    (∀ k, k ∈ keys d → k = id ∨ m' k ≠ none) ∧ ∀ {ro : Option Nat} (okF : Nat → Prop) (B : Nat) (σ : Places) (a : Act) (w : World) (next : Act → World → Prop) (Q : Exit → Act → World → Prop), Inv okF B σ m' w →
      (∀ x, Rel (okS okF σ m') w σ (a.eval x) (ev' x)) → m' id = none →
      (∀ v w' σ', Rel (okS okF σ' (app d m')) w' σ' v r → Inv okF B σ' (app d m') w' → Ext okF B σ m' w σ' (app d m') w' → next (a.put o.dst v) w') → o.wpIn (FR ro) 0 P a w next Q
def SoundG (P : Program) (f : FuncId) (args : List LV) (m : Mem) (n : Nat) (r : LV) (m' : Mem) (n' : Nat) : Prop :=
  HasBody P f ∧ n ≤ n' ∧ (∀ k, k < n → m k = none → m' k = none) ∧
  ∀ (okF : Nat → Prop) (B : Nat) (σ : Places) (w : World) (argv : Array Value), Inv okF B σ m w → (∀ k, n ≤ k → m k = none) → argv.size = args.length →
    (∀ (i : Nat) (v : Value) (l : LV), argv[i]? = some v → args[i]? = some l → Rel (okS okF σ m) w σ v l) →
    Calls P f argv w fun e w' => ∃ v σ', e = .returned v ∧ Inv okF B σ' m' w' ∧ (∀ k, n' ≤ k → m' k = none) ∧ Rel (okS okF σ' m') w' σ' v r ∧ Ext okF B σ m w σ' m' w'
def SoundO (P : Program) (f : FuncId) (args : List LV) (r : LV) (ob : Ob) : Prop :=
  HasBody P f ∧ ob.st = 0 ∧ (∀ c, c ∈ ob.cells → Data c) ∧ ((∃ sz len, r = .ref 0 sz 0 len) ∨ (∃ sz len rest, r = .tup (.ref 0 sz 0 len :: rest) ∧ ∀ c, c ∈ rest → Data c) ∨ (∃ sz len y rest, r = .tup (y :: .ref 0 sz 0 len :: rest) ∧ ∀ c, c ∈ y :: rest → Data c)) ∧
  ∀ (okF : Nat → Prop) (w : World) (argv : Array Value), (∀ b, w.heap.size ≤ b → okF b) → argv.size = args.length →
    (∀ (i : Nat) (v : Value) (l : LV), argv[i]? = some v → args[i]? = some l → Rel okF w (fun _ => none) v l) →
    Calls P f argv w fun e w' => ∃ v σ', e = .returned v ∧ Inv okF w.heap.size σ' (setM (fun _ => none) 0 ob) w' ∧ Rel (okS okF σ' (setM (fun _ => none) 0 ob)) w' σ' v r ∧ Below w.heap.size w w'
inductive Tr (P : Program) (oa : Array Oper) (b : Nat) : List Nat → St → List Rec → St → Prop
  | nil (s : St) : Tr P oa b [] s [] s
  | skip (i : Nat) (l : List Nat) (s s' : St) (rs : List Rec) (o : Oper) : oa[i]? = some o → wantedS oa o s.s = some false → Tr P oa b l { s with s := putS s.s o.dst (.v undef) } rs s' → Tr P oa b (i :: l) s (⟨i, [], [], false⟩ :: rs) s'
  | did (i : Nat) (l : List Nat) (s s' : St) (rs : List Rec) (o : Oper) (r : LV) (d : Delta) (R : List Nat) : oa[i]? = some o → wantedS oa o s.s = some true → SoundOp P o (b + i) (evS s.s) s.m r d R →
      Tr P oa b l { s with s := putS s.s o.dst r, m := app d s.m } rs s' → Tr P oa b (i :: l) s (⟨i, keys d, R, false⟩ :: rs) s'
  | gdid (i : Nat) (l : List Nat) (s s' : St) (rs : List Rec) (o : Oper) (c : Call) (f : Operand) (g : FuncId) (first cap : List LV) (r : LV) (m' : Mem) (n' : Nat) (K : List Nat) : oa[i]? = some o → wantedS oa o s.s = some true → o.op = .call c → c.callee = .value f →
      evS s.s f = .fn (.func g) first cap → SoundG P g (first ++ c.args.toList.map (evS s.s) ++ cap) s.m s.n r m' n' → (∀ k, k ∈ K → m' k = s.m k) → Tr P oa b l ⟨putS s.s o.dst r, m', n'⟩ rs s' → Tr P oa b (i :: l) s (⟨i, [], K, true⟩ :: rs) s'
def Ex.to : Ex → Exit
  | .normal => .normal
  | .exit id => .exit id
  | .ret => .ret
def SoundCode (P : Program) (c : Code) (s : St) (x : Ex) (s' : St) : Prop :=
  s.n ≤ s'.n ∧ (∀ k, k < s.n → s.m k = none → s'.m k = none) ∧
  ∀ {ro : Option Nat} {dl : List Deferred} (okF : Nat → Prop) (B : Nat) (σ : Places) (a : Act) (w : World) (Q : Exit → Act → World → Prop), Inv okF B σ s.m w → (∀ k, s.n ≤ k → s.m k = none) → SR okF σ s.m w a.tmps s.s → a.defers = dl →
    (∀ a' w' σ', Inv okF B σ' s'.m w' → (∀ k, s'.n ≤ k → s'.m k = none) → SR okF σ' s'.m w' a'.tmps s'.s → a'.defers = dl → Ext okF B σ s.m w σ' s'.m w' → Q x.to a' w') → c.wpIn (FR ro) 0 P Q a w
def SoundRounds (P : Program) (c : Code) (s : St) (x : Ex) (s' : St) (n : Nat) : Prop :=
  ∀ {ro : Option Nat} {dl : List Deferred} (okF : Nat → Prop) (B : Nat) (σ : Places) (a : Act) (w : World) (Q : Exit → Act → World → Prop), Inv okF B σ s.m w → (∀ k, s.n ≤ k → s.m k = none) → SR okF σ s.m w a.tmps s.s → a.defers = dl →
    (∀ a' w' σ', Inv okF B σ' s'.m w' → (∀ k, s'.n ≤ k → s'.m k = none) → SR okF σ' s'.m w' a'.tmps s'.s → a'.defers = dl → Ext okF B σ s.m w σ' s'.m w' → Q x.to a' w') → Code.roundsIn (FR ro) 0 P c Q n a w
def Sound (P : Program) : Task → Prop
  | .code c s x s' => SoundCode P c s x s' ∧ ∀ body, c = .loop body → ∃ n, SoundRounds P body s x s' n
  | .ops oa l b s rs s' => Tr P oa b l s rs s'
  | .op o id ev m r d R => SoundOp P o id ev m r d R
  | .call f args r => SoundC P f args r
  | .callO f args r ob => SoundO P f args r ob
  | .gcall f args m n r m' n' => SoundG P f args m n r m' n'
theorem bW {d : Delta} {m : Mem} {k : Nat} (h : k ∉ keys d) : app d m k = m k := by
  unfold app
  induction d generalizing m with
  | nil => rfl
  | cons p d ih =>
    simp only [keys, List.map_cons, List.mem_cons, not_or] at h
    rw [List.foldl_cons, ih (by simpa [keys] using h.2), bP _ _ _ _ h.1]
theorem aop_keys {o : Op} {ev : Operand → LV} {m : Mem} {id : Nat} {r : LV} {d : Delta} (h : aop T E o ev m id = some (r, d)) : ∀ k, k ∈ keys d → k = id ∨ m k ≠ none := by
  have nil : ∀ {d : Delta}, d = [] → ∀ k, k ∈ keys d → k = id ∨ m k ≠ none := by intro d e k hk; subst e; simp [keys] at hk
  have optv : ∀ {x : Option Value} {r : LV} {d : Delta}, x.map (fun y => (LV.v y, ([] : Delta))) = some (r, d) → d = [] := by
    intro x r d e; cases x with
    | none => simp at e
    | some y => simp at e; exact e.2
  have optl : ∀ {x : Option LV} {r : LV} {d : Delta}, x.map (fun y => (y, ([] : Delta))) = some (r, d) → d = [] := by
    intro x r d e; cases x with
    | none => simp at e
    | some y => simp at e; exact e.2
  cases o <;> simp only [aop] at h
  case alloc => split at h <;> cases h; intro k hk; simp [keys] at hk; exact .inl hk
  case box => split at h <;> cases h; intro k hk; simp [keys] at hk; exact .inl hk
  case makeSlice =>
    repeat' split at h
    all_goals first | (cases h; done) | skip
    cases h; intro k hk; simp [keys] at hk; exact .inl hk
  case store =>
    split at h
    · split at h
      · rename_i o hm
        repeat' split at h
        all_goals first | (cases h; done) | skip
        cases h; intro k hk; simp [keys] at hk; subst hk; exact .inr (by rw [hm]; simp)
      · cases h
    · cases h
  case call c =>
    split at h
    · unfold builtinLV at h
      split at h
      · repeat' split at h
        all_goals first | (cases h; done) | skip
        all_goals (cases h; exact nil rfl)
      · split at h
        · split at h
          · unfold appendLV at h
            split at h
            · split at h
              · cases h
              · split at h
                · cases h
                · split at h
                  · split at h <;> first | (cases h; done) | (cases h; exact nil rfl)
                  · split at h
                    · split at h
                      · cases h; intro k hk; simp [keys] at hk; exact .inl hk
                      · cases h
                    · split at h
                      · rename_i o hm
                        split at h
                        · cases h; intro k hk; simp [keys] at hk; rcases hk with rfl | rfl
                          · exact .inr (by rw [hm]; simp)
                          · exact .inl rfl
                        · cases h
                      · cases h
                    · cases h
            · cases h
          · cases h
        · cases h
      · split at h
        · split at h
          · cases h
          · unfold copyLV at h
            split at h
            · split at h
              · cases h
              · split at h
                · split at h
                  · rename_i o _ _ hm _
                    split at h
                    · split at h
                      · cases h; intro k hk; simp [keys] at hk; subst hk; exact .inr (by rw [hm]; simp)
                      · cases h
                    · cases h
                  · cases h
                · cases h
            · cases h
        · cases h
      · split at h <;> cases h; exact nil rfl
      · split at h <;> cases h; exact nil rfl
      · cases h
    · cases h
  all_goals first
    | (cases h; exact nil rfl)
    | (cases h; done)
    | exact nil (optv h)
    | exact nil (optl h)
    | (repeat' split at h
       all_goals first | (cases h; done) | (cases h; exact nil rfl) | exact nil (optv h) | exact nil (optl h) | (obtain ⟨y, _, hy⟩ := Option.map_eq_some_iff.1 h; cases hy; exact nil rfl))
end
end Go.Ab
namespace Go.Ab
open Go.RowKit
section
variable {P : Program} {T : TT} {E : TypeId → Bool} {okF : Nat → Prop} {B : Nat} {σ : Places} {m : Mem} {w : World}
theorem Inv.frzs : ∀ {d : Delta} {m : Mem}, Inv okF B σ m w → FrzOk m d → Inv okF B σ (app d m) w ∧ Ext okF B σ m w σ (app d m) w ∧ (∀ r o, r ∈ keys d → m r = some o → (app d m) r = some { o with st := 1 })
 | [], m, h, _ => ⟨h, .refl _ _ _ _ _, fun r o hr _ => by simp [keys] at hr⟩
 | p :: d, m, h, hf => by
  obtain ⟨o, h1, h2, h3⟩ := hf p (by simp)
  obtain ⟨i1, e1⟩ := h.freeze h1 h2
  have hf' : FrzOk (setM m p.1 { o with st := 1 }) d := fun q hq => by
   obtain ⟨o', k1, k2, k3⟩ := hf q (by simp [hq])
   by_cases hid : q.1 = p.1
   ·rw [hid] at k1; rw [h1] at k1; cases k1
    exact ⟨{ o with st := 1 }, by rw [hid]; exact bE _ _ _, by simp, by rw [k3]⟩
   ·exact ⟨o', by rw [bP _ _ _ _ hid]; exact k1, k2, k3⟩
  have := Inv.frzs i1 hf'
  have e : app (p :: d) m = app d (setM m p.1 { o with st := 1 }) := by simp only [app, List.foldl_cons]; rw [h3]
  rw [e]
  refine ⟨this.1, e1.trans this.2.1, fun r o' hr hm => ?_⟩
  by_cases hid : r = p.1
  ·subst hid; rw [h1] at hm; cases hm
   by_cases hk : p.1 ∈ keys d
   ·rw [this.2.2 p.1 { o with st := 1 } hk (bE _ _ _)]
   ·rw [bW hk]; exact bE _ _ _
  ·have hk : r ∈ keys d := by
    simp only [keys, List.map_cons, List.mem_cons] at hr
    exact hr.resolve_left hid
   exact this.2.2 r o' hk (by rw [bP _ _ _ _ hid]; exact hm)
theorem Inv.frzM {m0 m m1 : Mem} {S : Nat → Prop} (hI : Inv okF B σ m w) (hS : ∀ r o, S r → m0 r = some o → o.st ≠ 2 → m r = some { o with st := 1 }) (hF : FrzM m0 S m m1) : Inv okF B σ m1 w ∧ Ext okF B σ m w σ m1 w := by
 have bw : ∀ r o, m1 r = some o → ∃ o', m r = some o' ∧ o = { o' with cells := o.cells } ∧ SnapC m0 S o'.cells o.cells := by
  intro r o hr
  rcases hF r with ⟨_, h2⟩ | ⟨o', cs, h1, h2, h3⟩
  ·rw [hr] at h2; cases h2
  ·rw [hr] at h2; cases h2
   exact ⟨o', h1, rfl, h3⟩
 have st : ∀ r o, m1 r = some o → ∃ o', m r = some o' ∧ o'.st = o.st := by
  intro r o hr
  obtain ⟨o', h1, h2, _⟩ := bw r o hr
  exact ⟨o', h1, by rw [h2]⟩
 have e : Ext okF B σ m w σ m1 w := by
  refine ⟨fun b hb hlt => ⟨⟨hb.1, fun r o p hr hs hp => ?_⟩, rfl⟩, fun _ _ h => h, Below.refl _ _⟩
  obtain ⟨o', h1, h2⟩ := st r o hr
  exact hb.2 r o' p h1 om hp
 refine ⟨⟨fun r o hr hs => ?_, fun r o r' o' p p' hr hs hr' hs' hne hp hp' => ?_, fun r p hr => ?_, hI.new, hI.size⟩, e⟩
 ·obtain ⟨o', h1, h2, h3⟩ := bw r o hr
  have hs' : o'.st ≠ 2 := by rw [h2] at hs; exact hs
  obtain ⟨p, c, g1, g2, g3, g4, g5, g6, g8, g7⟩ := hI.at_ r o' h1 hs'
  refine ⟨p, c, g1, by rw [h2]; exact g2, by rw [h2]; exact g3, g4, by rw [← h3.1]; exact g5, g6, fun x hx => ?_, fun j x hx => ?_⟩
  ·obtain ⟨j, hj⟩ := List.getElem?_of_mem hx
   have hlt : j < o'.cells.length := by rw [h3.1]; exact (List.getElem?_eq_some_iff.1 hj).1
   have hc := List.getElem?_eq_getElem hlt
   rcases h3.2 j _ x hc hj with rfl | ⟨k1, _⟩
   ·exact g8 _ (List.mem_of_getElem? hc)
   ·rw [k1]; exact g8 _ (List.mem_of_getElem? hc)
  ·have hlt : j < o'.cells.length := by rw [h3.1]; exact (List.getElem?_eq_some_iff.1 hx).1
   have hc := List.getElem?_eq_getElem hlt
   obtain ⟨v, hv, hr⟩ := g7 j _ hc
   refine ⟨v, hv, e.rel ?_⟩
   rcases h3.2 j _ x hc hx with rfl | ⟨_, k2⟩
   ·exact hr
   ·exact k2.rel hI hS hr
 ·obtain ⟨o1, h1, h2⟩ := st r o hr
  obtain ⟨o2, h3, h4⟩ := st r' o' hr'
  exact hI.inj r o1 r' o2 p p' h1 om h3 om hne hp hp'
 ·obtain ⟨o, ho⟩ := hI.dom r p hr
  rcases hF r with ⟨h1, _⟩ | ⟨o', cs, h1, h2, h3⟩
  ·rw [ho] at h1; cases h1
  ·exact ⟨_, h2⟩
theorem nY (hI : Inv okF B σ m w) : ∀ b, w.heap.size ≤ b → okS okF σ m b := fun b hb => by
 refine ⟨hI.new b (Nat.le_trans hI.size hb), fun r o p hr hs hp hq => ?_⟩
 obtain ⟨q, c, k1, _, k3, _⟩ := hI.at_ r o hr om
 rw [hp] at k1; cases k1
 have := eS k3
 omega
theorem lJ {o : Oper} {c : Call} {f : Operand} {g : FuncId} {a : Act} {first cap : Array Value} (h1 : o.op = .call c) (h2 : c.callee = .value f) (h3 : a.eval f = .func (.func g) first cap) (hb : HasBody P g) (w : World) :
  (execOp a.eval o).run P w = .ok (.enter g (first ++ c.args.map a.eval ++ cap)) w := by
 obtain ⟨fn, code, k1, k2, k3⟩ := hb
 unfold execOp
 simp only [h1]
 simp [resolve, h2, h3, Deferred.ofValue, invoke, callFunc, k1, k2]
 intro hh
 rw [beq_eq_false_iff_ne] at k3
 exact absurd hh k3
theorem args_rel {a : Act} {ev : Operand → LV} (hev : ∀ x, Rel (okS okF σ m) w σ (a.eval x) (ev x)) {first cap : Array Value} {fs cs : List LV} (h1 : first.size = fs.length) (h2 : cap.size = cs.length)
  (k1 : ∀ (i : Nat) (v : Value) (l : LV), first[i]? = some v → fs[i]? = some l → Rel (okS okF σ m) w σ v l) (k2 : ∀ (i : Nat) (v : Value) (l : LV), cap[i]? = some v → cs[i]? = some l → Rel (okS okF σ m) w σ v l) (args : Array Operand) :
  (first ++ args.map a.eval ++ cap).size = (fs ++ args.toList.map ev ++ cs).length ∧ ∀ (i : Nat) (v : Value) (l : LV), (first ++ args.map a.eval ++ cap)[i]? = some v → (fs ++ args.toList.map ev ++ cs)[i]? = some l → Rel (okS okF σ m) w σ v l := by
 refine ⟨by simp [h1, h2], fun i v l hv hl => ?_⟩
 rw [Array.getElem?_append, Array.getElem?_append] at hv
 rw [List.getElem?_append, List.getElem?_append] at hl
 simp only [Array.size_append, Array.size_map, List.length_append, List.length_map, Array.length_toList, h1] at hv hl
 split at hv
 ·rename_i hlt
  rw [if_pos hlt] at hl
  split at hv
  ·rename_i hlt2
   rw [if_pos hlt2] at hl
   exact k1 i v l hv hl
  ·rename_i hlt2
   rw [if_neg hlt2] at hl
   rw [Array.getElem?_map] at hv
   rw [List.getElem?_map, Array.getElem?_toList] at hl
   cases hq : args[i - fs.length]? with
   | none => rw [hq] at hv; simp at hv
   | some x => rw [hq] at hv hl; simp at hv hl; subst hv; subst hl; exact hev x
 ·rename_i hlt
  rw [if_neg hlt] at hl
  exact k2 _ v l hv hl
theorem SnapL.rel {m' : Mem} {d : Delta} (hI : Inv okF B σ m' w) (hS : ∀ r o, r ∈ keys d → m r = some o → o.st ≠ 2 → m' r = some { o with st := 1 }) {ls ls' : List LV} (h : SnapL m d ls ls') {vs : Array Value}
  (hr : ∀ (i : Nat) (v : Value) (l : LV), vs[i]? = some v → ls[i]? = some l → Rel (okS okF σ m') w σ v l) :
  ∀ (i : Nat) (v : Value) (l : LV), vs[i]? = some v → ls'[i]? = some l → Rel (okS okF σ m') w σ v l ∧ Data l := by
 intro i v l hv hl
 have hlt : i < ls.length := by rw [h.1]; exact (List.getElem?_eq_some_iff.1 hl).1
 have hc := List.getElem?_eq_getElem hlt
 have hs := h.2 i _ l hc hl
 exact ⟨hs.rel hI hS (hr i v _ hv hc), hs.isData⟩
theorem Frz.local {d : Delta} {m m' : Mem} (hm : ∀ k, k ∈ keys d → m' k = m k) (hf : FrzOk m d) : FrzOk m' d := fun p hp => by
 obtain ⟨o, h1, h2⟩ := hf p hp
 exact ⟨o, by rw [hm p.1 (List.mem_map.2 ⟨p, hp, rfl⟩)]; exact h1, h2⟩
theorem Frz.keys {d : Delta} {m : Mem} (hf : FrzOk m d) {k : Nat} (hk : k ∈ keys d) : m k ≠ none := by
 obtain ⟨p, hp, rfl⟩ := List.mem_map.1 hk
 obtain ⟨o, h1, _⟩ := hf p hp
 rw [h1]; simp
theorem aop_nd {T : TT} {E : TypeId → Bool} {op : Op} {ev : Operand → LV} {m : Mem} {id : Nat} {x : LV × Delta} (h : aop T E op ev m id = some x) : ∀ c, op ≠ .defer c := by
 rintro c rfl
 simp [aop] at h
theorem sound_prim (hT : TypesOk P T) (hE : ∀ t, E t = true → EqOk P t) {o : Oper} {id : Nat} {ev : Operand → LV} {m : Mem} {r : LV} {d : Delta} (h : aop T E o.op ev m id = some (r, d)) : SoundOp P o id ev m r d (rds o.op ev) := by
 intro ev' m' he hm
 have h' : aop T E o.op ev' m' id = some (r, d) := by rw [aop_local he hm]; exact h
 refine ⟨aop_keys h', fun okF B σ a w next Q hI hev hid hn => ?_⟩
 obtain ⟨v, w', σ', hrun, hr, hi, hx⟩ := (aop_sound (P := P) hT hE hI hev hid h').ex
 have := hn v w' σ' hr hi hx
 unfold Oper.wpIn
 refine ⟨fun _ _ => trivial, ?_⟩
 rw [Oper.semAt_eq _ _ _ (aop_nd h)]
 rcases hrun with hrun | ⟨hrun, rfl⟩
 ·rw [hrun]; exact this
 ·rw [hrun]; exact this
theorem jG {o : Oper} {c : Call} {f : Operand} {g : FuncId} {first cap as : List LV} {d : Delta} {ev : Operand → LV} (h3 : ev f = .fn (.func g) first cap) (h4 : SnapL m d (first ++ c.args.toList.map ev ++ cap) as) (h5 : FrzOk m d)
  (hI : Inv okF B σ m w) {a : Act} (hev : ∀ x, Rel (okS okF σ m) w σ (a.eval x) (ev x)) :
  ∃ fv cv : Array Value, a.eval f = .func (.func g) fv cv ∧ Inv okF B σ (app d m) w ∧ Ext okF B σ m w σ (app d m) w ∧ (fv ++ c.args.map a.eval ++ cv).size = as.length ∧
   ∀ (i : Nat) (v : Value) (l : LV), (fv ++ c.args.map a.eval ++ cv)[i]? = some v → as[i]? = some l → Rel (okS okF σ (app d m)) w (fun _ => none) v l := by
 have hf := hev f
 rw [h3] at hf
 generalize hz : a.eval f = z at hf
 cases hf with
 | fn _ fv cv _ _ g1 g2 g3 g4 =>
  obtain ⟨i1, e1, k1⟩ := hI.frzs h5
  obtain ⟨s1, s2⟩ := args_rel hev g1 g2 g3 g4 c.args
  have s3 := h4.rel i1 (fun r o hr hm _ => k1 r o hr hm) (vs := fv ++ c.args.map a.eval ++ cv) (fun i v l hv hl => e1.rel (s2 i v l hv hl))
  exact ⟨fv, cv, rfl, i1, e1, by rw [s1]; exact h4.1, fun i v l hv hl => (s3 i v l hv hl).2.rel (s3 i v l hv hl).1⟩
theorem sound_pcall {o : Oper} {id : Nat} {ev : Operand → LV} {m : Mem} {r : LV} {d : Delta} {c : Call} {f : Operand} {g : FuncId} {first cap as : List LV} (h1 : o.op = .call c) (h2 : c.callee = .value f) (h3 : ev f = .fn (.func g) first cap)
  (h4 : SnapL m d (first ++ c.args.toList.map ev ++ cap) as) (h5 : FrzOk m d) (h6 : SoundC P g as r) : SoundOp P o id ev m r d (keys d) := by
 intro ev' m' he hm
 have e1 : c.args.toList.map ev' = c.args.toList.map ev := List.map_congr_left fun x hx => he x (by rw [h1]; simp only [Op.operands, Call.operands, Array.mem_append]; exact .inr (by simpa using hx))
 have e2 : ev' f = ev f := he f (by rw [h1]; simp [Op.operands, Call.operands, h2])
 have h4' : SnapL m' d (first ++ c.args.toList.map ev' ++ cap) as := by rw [e1]; exact ⟨h4.1, fun i l l' hl hl' => (h4.2 i l l' hl hl').local fun r hr => hm r hr⟩
 have h5' := Frz.local hm h5
 refine ⟨fun k hk => .inr (Frz.keys h5' hk), fun okF B σ a w next Q hI hev hid hn => ?_⟩
 obtain ⟨fv, cv, q1, i1, x1, q2, q3⟩ := jG (o := o) (by rw [e2]; exact h3) h4' h5' hI hev
 unfold Oper.wpIn
 refine ⟨fun _ _ => trivial, ?_⟩
 rw [Oper.semAt_eq _ _ _ (by rw [h1]; intro c h; cases h), lJ h1 h2 q1 h6.1]
 refine ⟨fun h => (by cases h), (qL (h6.2 (okS okF σ (app d m')) w _ (nY i1) q2 q3)).mono ?_⟩
 rintro e w' ⟨v, rfl, hr, hb⟩
 obtain ⟨i2, x2⟩ := i1.world hb
 exact hn v w' σ (hr.mono (fun b hb _ => ⟨hb, rfl⟩) (fun _ _ h => by cases h)) i2 (x1.trans x2)
theorem sound_bcall {o : Oper} {id : Nat} {ev : Operand → LV} {m : Mem} {x : Value} {d : Delta} {c : Call} {f : Operand} {g : FuncId} {first cap as : List LV} (h1 : o.op = .call c) (h2 : c.callee = .value f) (h3 : ev f = .fn (.func g) first cap)
  (h4 : SnapL m d (first ++ c.args.toList.map ev ++ cap) as) (h5 : FrzOk m d) (h6 : SoundC P g as (.v x)) : SoundOp P o id ev m (.v x) [] (keys d) := by
 intro ev' m' he hm
 have e1 : c.args.toList.map ev' = c.args.toList.map ev := List.map_congr_left fun x hx => he x (by rw [h1]; simp only [Op.operands, Call.operands, Array.mem_append]; exact .inr (by simpa using hx))
 have e2 : ev' f = ev f := he f (by rw [h1]; simp [Op.operands, Call.operands, h2])
 have h4' : SnapL m' d (first ++ c.args.toList.map ev' ++ cap) as := by rw [e1]; exact ⟨h4.1, fun i l l' hl hl' => (h4.2 i l l' hl hl').local fun r hr => hm r hr⟩
 have h5' := Frz.local hm h5
 refine ⟨fun k hk => by simp [keys] at hk, fun okF B σ a w next Q hI hev hid hn => ?_⟩
 obtain ⟨fv, cv, q1, i1, x1, q2, q3⟩ := jG (o := o) (by rw [e2]; exact h3) h4' h5' hI hev
 unfold Oper.wpIn
 refine ⟨fun _ _ => trivial, ?_⟩
 rw [Oper.semAt_eq _ _ _ (by rw [h1]; intro c h; cases h), lJ h1 h2 q1 h6.1]
 refine ⟨fun h => (by cases h), (qL (h6.2 (okS okF σ (app d m')) w _ (nY i1) q2 q3)).mono ?_⟩
 rintro e w' ⟨v, rfl, hr, hb⟩
 obtain ⟨i2, x2⟩ := hI.world hb
 refine hn v w' σ ?_ i2 x2
 cases hr with
 | v _ hs => exact .v _ hs
theorem app_append (d : Delta) (p : Nat × Ob) (m : Mem) : app (d ++ [p]) m = setM (app d m) p.1 p.2 := by simp [app]
theorem Inv.take_over (hI : Inv okF B σ m w) {w' : World} {σ0 : Places} {ob : Ob} {id : Nat} (hid : m id = none) (hst : ob.st = 0) (hd : ∀ c, c ∈ ob.cells → Data c) (h0 : Inv (okS okF σ m) w.heap.size σ0 (setM (fun _ => none) 0 ob) w') (hb : Below w.heap.size w w') :
  ∃ p, σ0 0 = some p ∧ Inv okF B (setM σ id p) (setM m id ob) w' ∧ Ext okF B σ m w (setM σ id p) (setM m id ob) w' ∧ ∀ b, okS (okS okF σ m) σ0 (setM (fun _ => none) 0 ob) b → okS okF (setM σ id p) (setM m id ob) b := by
 obtain ⟨p, c, g1, g2, g3, g4, g5, g6, g8, g7⟩ := h0.at_ 0 ob (bE _ _ _) om
 have hσ : σ id = none := by
  cases hs : σ id with
  | none => rfl
  | some q => obtain ⟨o', ho'⟩ := hI.dom id q hs; rw [hid] at ho'; cases ho'
 have hok : ∀ b, okS okF σ m b → b ≠ p.blk → okS okF (setM σ id p) (setM m id ob) b := fun b hb hne => by
  refine ⟨hb.1, fun r o q hr hs hq => ?_⟩
  by_cases k : r = id
  ·subst k; rw [bE] at hq; cases hq; exact Ne.symm hne
  ·rw [bP _ _ _ _ k] at hr hq; exact hb.2 r o q hr hs hq
 have hok0 : ∀ b, okS (okS okF σ m) σ0 (setM (fun _ => none) 0 ob) b → okS okF (setM σ id p) (setM m id ob) b := fun b hb =>
  hok b hb.1 (fun hq => hb.2 0 ob p (bE _ _ _) hst g1 hq.symm)
 have e : Ext okF B σ m w (setM σ id p) (setM m id ob) w' := by
  refine ⟨fun b hb' hlt => ⟨hok b hb' om, hb.block b hlt⟩, fun r q hq => ?_, hb.mono hI.size⟩
  by_cases k : r = id
  ·subst k; rw [hσ] at hq; cases hq
  ·rw [bP _ _ _ _ k]; exact hq
 refine ⟨p, g1, ⟨?_, ?_, ?_, hI.new, Nat.le_trans hI.size hb.size⟩, e, hok0⟩
 ·intro r o hr hs
  by_cases k : r = id
  ·subst k; rw [bE] at hr; cases hr
   refine ⟨p, c, bE _ _ _, g2, g3, g4, g5, Nat.le_trans hI.size g6, g8, fun j x hx => ?_⟩
   obtain ⟨v, hv, hvr⟩ := g7 j x hx
   exact ⟨v, hv, ((hd x (List.mem_of_getElem? hx)).rel (σ' := setM σ r p) hvr).mono (fun b hb' _ => ⟨hok0 b hb', rfl⟩) (fun _ _ h => h)⟩
  ·rw [bP _ _ _ _ k] at hr
   obtain ⟨q, c2, j1, j2, j3, j4, j5, j6, j8, j7⟩ := hI.at_ r o hr hs
   refine ⟨q, c2, by rw [bP _ _ _ _ k]; exact j1, j2, by rw [hb.block _ (eS j3)]; exact j3, j4, j5, j6, j8, fun j x hx => ?_⟩
   obtain ⟨v, hv, hvr⟩ := j7 j x hx
   exact ⟨v, hv, e.rel hvr⟩
 ·intro r1 o1 r2 o2 q q' hr1 hs1 hr2 hs2 hne hq hq'
  have old : ∀ {r o q}, r ≠ id → (setM m id ob) r = some o → o.st ≠ 2 → (setM σ id p) r = some q → q.blk < w.heap.size := by
   intro r o q k hr hs hq
   rw [bP _ _ _ _ k] at hr hq
   obtain ⟨q2, c2, j1, _, j3, _⟩ := hI.at_ r o hr hs
   rw [hq] at j1; cases j1
   exact eS j3
  by_cases k1 : r1 = id
  ·subst k1; rw [bE] at hq; cases hq
   have := old (Ne.symm hne) hr2 hs2 hq'
   omega
  ·by_cases k2 : r2 = id
   ·subst k2; rw [bE] at hq'; cases hq'
    have := old k1 hr1 om hq
    omega
   ·rw [bP _ _ _ _ k1] at hr1 hq
    rw [bP _ _ _ _ k2] at hr2 hq'
    exact hI.inj r1 o1 r2 o2 q q' hr1 hs1 hr2 hs2 hne hq hq'
 ·intro r q hq
  by_cases k : r = id
  ·exact ⟨_, by subst k; exact bE _ _ _⟩
  ·rw [bP _ _ _ _ k] at hq ⊢; exact hI.dom r q hq
theorem rD {ok : Nat → Prop} {σ0 : Places} {v : Value} {sz off len id : Nat} {p : Pl} (h : Rel ok w σ0 v (.ref 0 sz off len)) (hp : σ0 0 = some p) {ok' : Nat → Prop} {σ : Places} : Rel ok' w (setM σ id p) v (.ref id sz off len) := by
 cases h with
 | ref _ _ _ _ cap q g1 g2 g3 g4 => rw [hp] at g1; cases g1; exact .ref id sz off len cap p (bE _ _ _) g2 g3 g4
 | ref0 a => exact .ref0 a id sz off
theorem own_second {y : LV} {id sz off len : Nat} {rest : List LV} (h : Data y) : LV.own id (.tup (y :: .ref 0 sz off len :: rest)) = .tup (y :: .ref id sz off len :: rest) := by cases h <;> rfl
theorem sound_ocall {o : Oper} {id : Nat} {ev : Operand → LV} {m : Mem} {r : LV} {ob : Ob} {d : Delta} {c : Call} {f : Operand} {g : FuncId} {first cap as : List LV} (h1 : o.op = .call c) (h2 : c.callee = .value f) (h3 : ev f = .fn (.func g) first cap)
  (h4 : SnapL m d (first ++ c.args.toList.map ev ++ cap) as) (h5 : FrzOk m d) (h6 : SoundO P g as r ob) : SoundOp P o id ev m (r.own id) (d ++ [(id, ob)]) (keys d) := by
 intro ev' m' he hm
 have e1 : c.args.toList.map ev' = c.args.toList.map ev := List.map_congr_left fun x hx => he x (by rw [h1]; simp only [Op.operands, Call.operands, Array.mem_append]; exact .inr (by simpa using hx))
 have e2 : ev' f = ev f := he f (by rw [h1]; simp [Op.operands, Call.operands, h2])
 have h4' : SnapL m' d (first ++ c.args.toList.map ev' ++ cap) as := by rw [e1]; exact ⟨h4.1, fun i l l' hl hl' => (h4.2 i l l' hl hl').local fun r hr => hm r hr⟩
 have h5' := Frz.local hm h5
 refine ⟨fun k hk => ?_, fun okF B σ a w next Q hI hev hid hn => ?_⟩
 ·simp only [keys, List.map_append, List.mem_append, List.map_cons, List.map_nil, List.mem_singleton] at hk
  rcases hk with hk | hk
  ·exact .inr (Frz.keys h5' hk)
  ·exact .inl hk
 obtain ⟨fv, cv, q1, i1, x1, q2, q3⟩ := jG (o := o) (by rw [e2]; exact h3) h4' h5' hI hev
 obtain ⟨hb, hst, hda, hshape, hcall⟩ := h6
 have hid' : (app d m') id = none := by
  by_cases hk : id ∈ keys d
  ·exact absurd hid (Frz.keys h5' hk)
  ·rw [bW hk]; exact hid
 unfold Oper.wpIn
 refine ⟨fun _ _ => trivial, ?_⟩
 rw [Oper.semAt_eq _ _ _ (by rw [h1]; intro c h; cases h), lJ h1 h2 q1 hb]
 refine ⟨fun h => (by cases h), (qL (hcall (okS okF σ (app d m')) w _ (nY i1) q2 q3)).mono ?_⟩
 rintro e w' ⟨v, σ0, rfl, hi0, hr, hb⟩
 obtain ⟨p, hp, i2, x2, hok⟩ := i1.take_over hid' hst hda hi0 hb
 rw [app_append] at hn
 refine hn v w' (setM σ id p) ?_ i2 (x1.trans x2)
 rcases hshape with ⟨sz, len, rfl⟩ | ⟨sz, len, rest, rfl, hrest⟩ | ⟨sz, len, y, rest, rfl, hrest⟩
 ·exact rD hr hp
 ·cases hr with
  | tup vs _ k1 k2 =>
   refine .tup vs _ (by simpa using k1) (fun i v c hv hc => ?_)
   cases i with
   | zero => simp at hc; subst hc; exact rD (k2 0 v _ hv rfl) hp
   | succ i =>
    simp at hc
    have := k2 (i + 1) v c hv (by simpa using hc)
    exact ((hrest c (List.mem_of_getElem? hc)).rel this).mono (fun b hb' _ => ⟨hok b hb', rfl⟩) (fun _ _ h => h)
 ·rw [own_second (hrest y (by simp))]
  cases hr with
  | tup vs _ k1 k2 =>
   refine .tup vs _ (by simpa using k1) (fun i v c hv hc => ?_)
   match i with
   | 0 =>
    simp at hc; subst hc
    exact ((hrest y (by simp)).rel (k2 0 v y hv rfl)).mono (fun b hb' _ => ⟨hok b hb', rfl⟩) (fun _ _ h => h)
   | 1 => simp at hc; subst hc; exact rD (k2 1 v _ hv rfl) hp
   | i + 2 =>
    simp at hc
    have := k2 (i + 2) v c hv (by simpa using hc)
    exact ((hrest c (.tail _ (List.mem_of_getElem? hc))).rel this).mono (fun b hb' _ => ⟨hok b hb', rfl⟩) (fun _ _ h => h)
end
end Go.Ab
namespace Go.Ab
open Go.RowKit
section
variable {P : Program} {T : TT} {E : TypeId → Bool} {okF : Nat → Prop} {B : Nat} {σ : Places} {m : Mem} {w : World} {ro : Option Nat} {dl : List Deferred}
inductive Tr1 (P : Program) (oa : Array Oper) (b : Nat) (i : Nat) (s : St) : Rec → St → Prop
 | skip (o : Oper) : oa[i]? = some o → wantedS oa o s.s = some false → Tr1 P oa b i s ⟨i, [], [], false⟩ { s with s := putS s.s o.dst (.v undef) }
 | did (o : Oper) (r : LV) (d : Delta) (R : List Nat) : oa[i]? = some o → wantedS oa o s.s = some true → SoundOp P o (b + i) (evS s.s) s.m r d R → Tr1 P oa b i s ⟨i, keys d, R, false⟩ { s with s := putS s.s o.dst r, m := app d s.m }
 | gdid (o : Oper) (c : Call) (f : Operand) (g : FuncId) (first cap : List LV) (r : LV) (m' : Mem) (n' : Nat) (K : List Nat) : oa[i]? = some o → wantedS oa o s.s = some true → o.op = .call c → c.callee = .value f → evS s.s f = .fn (.func g) first cap →
   SoundG P g (first ++ c.args.toList.map (evS s.s) ++ cap) s.m s.n r m' n' → (∀ k, k ∈ K → m' k = s.m k) → Tr1 P oa b i s ⟨i, [], K, true⟩ ⟨putS s.s o.dst r, m', n'⟩
theorem Tr.of1 {oa : Array Oper} {b i : Nat} {l : List Nat} {s s1 s' : St} {x : Rec} {rs : List Rec} (h : Tr1 P oa b i s x s1) (h2 : Tr P oa b l s1 rs s') : Tr P oa b (i :: l) s (x :: rs) s' := by
 cases h with
 | skip o h1 h3 => exact .skip i l s s' rs o h1 h3 h2
 | did o r d R h1 h3 h4 => exact .did i l s s' rs o r d R h1 h3 h4 h2
 | gdid o c f g first cap r m' n' K h1 h3 h4 h5 h6 h7 h8 => exact .gdid i l s s' rs o c f g first cap r m' n' K h1 h3 h4 h5 h6 h7 h8 h2
theorem putS_comm (s : List LV) (d e : Option Tmp) (x y : LV) (h : ∀ k, d = some k → e ≠ some k) : putS (putS s d x) e y = putS (putS s e y) d x := by
 cases d with
 | none => rfl
 | some d =>
  cases e with
  | none => rfl
  | some e =>
   have : d ≠ e := fun hq => h d rfl (by rw [hq])
   simp only [putS]
   exact List.set_comm _ _ this
theorem app_comm {d e : Delta} {m : Mem} (h : ∀ k, k ∈ keys d → k ∉ keys e) : app e (app d m) = app d (app e m) := by
 funext k
 by_cases h1 : k ∈ keys d
 ·rw [bW (h k h1)]
  have : ∀ (d : Delta) (m m' : Mem) (k : Nat), k ∈ keys d → app d m k = app d m' k := by
   intro d
   induction d with
   | nil => intro m m' k hk; simp [keys] at hk
   | cons p d ih =>
    intro m m' k hk
    simp only [app, List.foldl_cons]
    by_cases hd : k ∈ keys d
    ·exact ih _ _ k hd
    ·have e1 := bW (d := d) (m := setM m p.1 p.2) hd
     have e2 := bW (d := d) (m := setM m' p.1 p.2) hd
     simp only [app] at e1 e2
     rw [e1, e2]
     simp only [keys, List.map_cons, List.mem_cons] at hk
     rcases hk with rfl | hk
     ·rw [bE, bE]
     ·exact absurd hk hd
  exact this d m (app e m) k h1
 ·rw [bW h1]
  by_cases h2 : k ∈ keys e
  ·have : ∀ (d : Delta) (m m' : Mem) (k : Nat), k ∈ keys d → app d m k = app d m' k := by
    intro d
    induction d with
    | nil => intro m m' k hk; simp [keys] at hk
    | cons p d ih =>
     intro m m' k hk
     simp only [app, List.foldl_cons]
     by_cases hd : k ∈ keys d
     ·exact ih _ _ k hd
     ·have e1 := bW (d := d) (m := setM m p.1 p.2) hd
      have e2 := bW (d := d) (m := setM m' p.1 p.2) hd
      simp only [app] at e1 e2
      rw [e1, e2]
      simp only [keys, List.map_cons, List.mem_cons] at hk
      rcases hk with rfl | hk
      ·rw [bE, bE]
      ·exact absurd hk hd
   exact this e (app d m) m k h2
  ·rw [bW h2, bW h2, bW h1]
theorem getS_put {s : List LV} {d : Option Tmp} {x : LV} {t : Nat} (h : ∀ k, d = some k → k ≠ t) : (putS s d x)[t]? = s[t]? := by
 cases d with
 | none => rfl
 | some d => simp only [putS]; exact List.getElem?_set_ne (h d rfl)
theorem evS_put {s : List LV} {d : Option Tmp} {x : LV} {o : Operand} (h : ∀ k, d = some k → o ≠ .tmp k) : evS (putS s d x) o = evS s o := by
 cases o with
 | tmp t => simp only [evS]; rw [getS_put fun k hk hq => h k hk (by rw [hq])]
 | _ => rfl
theorem looks_op {oa : Array Oper} {o : Oper} {t : Nat} (h : Operand.tmp t ∈ o.op.operands) : t ∈ o.looksAt oa := by
 unfold Oper.looksAt
 rw [List.mem_append]
 exact .inl (List.mem_filterMap.2 ⟨_, by simpa using h, rfl⟩)
theorem nK {oa : Array Oper} {o : Oper} {s : List LV} {d : Option Tmp} {x : LV} (h : ∀ k, d = some k → k ∉ o.looksAt oa) : wantedS oa o (putS s d x) = wantedS oa o s := by
 unfold wantedS
 split
 ·rfl
 ·rename_i j want hg
  cases hd : (oa[j]?).bind (·.dst) with
  | none => rfl
  | some t =>
   simp only [Option.bind_some]
   rw [getS_put fun k hk hq => h k hk (by rw [hq]; unfold Oper.looksAt; rw [List.mem_append, hg]; simp [hd])]
theorem Tr1.move {oa : Array Oper} {b i j : Nat} {s s1 : St} {x : Rec} (h : Tr1 P oa b j s x s1) {s2 : St} {y : Rec} (hi : Tr1 P oa b i s2 y s) (ha : apartAt oa i j = true) (hind : Indep y x ∨ Still y x ∨ Still x y) :
  ∃ s3, Tr1 P oa b j s2 x s3 ∧ Tr1 P oa b i s3 y s1 := by
 have hi' := hi
 have hap : ∃ oi oj, oa[i]? = some oi ∧ oa[j]? = some oj ∧ oi.apart oa oj = true := by
  unfold apartAt at ha
  split at ha
  ·exact ⟨_, _, by assumption, by assumption, ha⟩
  ·cases ha
 obtain ⟨oi, oj, hoi, hoj, hap⟩ := hap
 obtain ⟨a1, a2, a3⟩ := Oper.apart_spec hap
 have comm : ∀ (s : List LV) (x y : LV), putS (putS s oi.dst x) oj.dst y = putS (putS s oj.dst y) oi.dst x := fun s x y => putS_comm s _ _ x y a2
 have wj : ∀ (s : List LV) x, wantedS oa oj (putS s oi.dst x) = wantedS oa oj s := fun s x => nK a1
 have wi : ∀ (s : List LV) x, wantedS oa oi (putS s oj.dst x) = wantedS oa oi s := fun s x => nK a3
 have ej : ∀ (s : List LV) (x : LV) (z : Operand), z ∈ oj.op.operands → evS (putS s oi.dst x) z = evS s z := fun s x z hz => evS_put fun k hk hq => a1 k hk (looks_op (by rw [← hq]; exact hz))
 have ei : ∀ (s : List LV) (x : LV) (z : Operand), z ∈ oi.op.operands → evS (putS s oj.dst x) z = evS s z := fun s x z hz => evS_put fun k hk hq => a3 k hk (looks_op (by rw [← hq]; exact hz))
 have loc : ∀ {o : Oper} {id : Nat} {ev ev2 : Operand → LV} {m m2 : Mem} {r : LV} {d : Delta} {R : List Nat}, SoundOp P o id ev m r d R → (∀ x, x ∈ o.op.operands → ev2 x = ev x) → (∀ k, k ∈ R → m2 k = m k) → SoundOp P o id ev2 m2 r d R := by
  intro o id ev ev2 m m2 r d R h h1 h2 ev3 m3 h3 h4
  exact h ev3 m3 (fun x hx => (h3 x hx).trans (h1 x hx)) (fun k hk => (h4 k hk).trans (h2 k hk))
 have opsC : ∀ {o : Oper} {c : Call} {f : Operand}, o.op = .call c → c.callee = .value f → (∀ z, z ∈ c.args.toList → z ∈ o.op.operands) ∧ f ∈ o.op.operands := fun e1 e2 =>
  ⟨fun z hz => by rw [e1]; simp only [Op.operands, Call.operands, Array.mem_append]; exact .inr (by simpa using hz), by rw [e1]; simp [Op.operands, Call.operands, e2]⟩
 have keys0 : ∀ {d : Delta}, keys d = [] → d = [] := fun {d} hd => by cases d with
  | nil => rfl
  | cons p d => simp [keys] at hd
 have fromI : y.g = false → x.g = false → (∀ k, k ∈ y.ws → k ∉ x.ws ∧ k ∉ x.R) ∧ (∀ k, k ∈ x.ws → k ∉ y.R) := fun hy hx => by
  rcases hind with ⟨_, _, i1, i2⟩ | ⟨i1, _⟩ | ⟨i1, _⟩
  ·exact ⟨i1, i2⟩
  ·rw [hy] at i1; cases i1
  ·rw [hx] at i1; cases i1
 cases hi with
 | skip o1 k1 k2 =>
  rw [hoi] at k1; cases k1
  cases h with
  | skip o2 l1 l2 =>
   rw [hoj] at l1; cases l1
   refine ⟨_, .skip oj hoj (by rw [← wj]; exact l2), ?_⟩
   have := Tr1.skip (P := P) (oa := oa) (b := b) (i := i) (s := { s2 with s := putS s2.s oj.dst (.v undef) }) oi hoi (by simp only; rw [wi]; exact k2)
   simp only [comm] at this ⊢
   exact this
  | gdid o2 c f g first cap r m' n' K l1 l2 l3 l4 l5 l6 l7 =>
   rw [hoj] at l1; cases l1
   obtain ⟨c1, c2⟩ := opsC l3 l4
   refine ⟨_, .gdid oj c f g first cap r m' n' K hoj (by rw [← wj]; exact l2) l3 l4 (by rw [← ej _ _ f c2]; exact l5) (by rw [← List.map_congr_left fun z hz => ej _ _ z (c1 z hz)]; exact l6) l7, ?_⟩
   have := Tr1.skip (P := P) (oa := oa) (b := b) (i := i) (s := ⟨putS s2.s oj.dst r, m', n'⟩) oi hoi (by simp only; rw [wi]; exact k2)
   simp only [comm] at this ⊢
   exact this
  | did o2 r d R l1 l2 l3 =>
   rw [hoj] at l1; cases l1
   refine ⟨_, .did oj r d R hoj (by rw [← wj]; exact l2) (loc l3 (fun z hz => (ej _ _ z hz).symm) fun _ _ => rfl), ?_⟩
   have := Tr1.skip (P := P) (oa := oa) (b := b) (i := i) (s := { s2 with s := putS s2.s oj.dst r, m := app d s2.m }) oi hoi (by simp only; rw [wi]; exact k2)
   simp only [comm] at this ⊢
   exact this
 | did o1 r1 d1 R1 k1 k2 k3 =>
  rw [hoi] at k1; cases k1
  cases h with
  | skip o2 l1 l2 =>
   rw [hoj] at l1; cases l1
   refine ⟨_, .skip oj hoj (by rw [← wj]; exact l2), ?_⟩
   have := Tr1.did (P := P) (oa := oa) (b := b) (i := i) (s := { s2 with s := putS s2.s oj.dst (.v undef) }) oi r1 d1 R1 hoi (by simp only; rw [wi]; exact k2) (loc k3 (fun z hz => ei _ _ z hz) fun _ _ => rfl)
   simp only [comm] at this ⊢
   exact this
  | gdid o2 c f g first cap r m' n' K l1 l2 l3 l4 l5 l6 l7 =>
   rw [hoj] at l1; cases l1
   obtain ⟨c1, c2⟩ := opsC l3 l4
   have hst : keys d1 = [] ∧ ∀ k, k ∈ R1 → k ∈ K := by
    rcases hind with ⟨_, q, _⟩ | ⟨q, _⟩ | ⟨_, _, q1, q2⟩
    ·cases q
    ·cases q
    ·exact ⟨q1, q2⟩
   obtain rfl := keys0 hst.1
   simp only at l2 l5 l6 l7
   refine ⟨_, .gdid oj c f g first cap r m' n' K hoj (by rw [← wj]; exact l2) l3 l4 (by rw [← ej _ _ f c2]; exact l5) (by rw [← List.map_congr_left fun z hz => ej _ _ z (c1 z hz)]; exact l6) l7, ?_⟩
   have := Tr1.did (P := P) (oa := oa) (b := b) (i := i) (s := ⟨putS s2.s oj.dst r, m', n'⟩) oi r1 [] R1 hoi (by simp only; rw [wi]; exact k2) (loc k3 (fun z hz => ei _ _ z hz) fun k hk => l7 k (hst.2 k hk))
   simp only [comm] at this ⊢
   exact this
  | did o2 r d R l1 l2 l3 =>
   rw [hoj] at l1; cases l1
   obtain ⟨ind1, ind2⟩ := fromI rfl rfl
   simp only at ind1 ind2 l2 l3
   refine ⟨_, .did oj r d R hoj (by rw [← wj]; exact l2) (loc l3 (fun z hz => (ej _ _ z hz).symm) fun k hk => (bW fun hq => (ind1 k hq).2 hk).symm), ?_⟩
   have := Tr1.did (P := P) (oa := oa) (b := b) (i := i) (s := { s2 with s := putS s2.s oj.dst r, m := app d s2.m }) oi r1 d1 R1 hoi (by simp only; rw [wi]; exact k2) (loc k3 (fun z hz => ei _ _ z hz) fun k hk => bW fun hq => ind2 k hq hk)
   simp only [comm] at this ⊢
   rw [app_comm (d := d) (e := d1) fun k hk hq => (ind1 k hq).1 hk] at this
   exact this
 | gdid o1 c f g first cap r1 m1 n1 K k1 k2 k3 k4 k5 k6 k7 =>
  rw [hoi] at k1; cases k1
  obtain ⟨c1, c2⟩ := opsC k3 k4
  cases h with
  | skip o2 l1 l2 =>
   rw [hoj] at l1; cases l1
   refine ⟨_, .skip oj hoj (by rw [← wj]; exact l2), ?_⟩
   have := Tr1.gdid (P := P) (oa := oa) (b := b) (i := i) (s := { s2 with s := putS s2.s oj.dst (.v undef) }) oi c f g first cap r1 m1 n1 K hoi (by simp only; rw [wi]; exact k2) k3 k4 (by simp only; rw [ei _ _ f c2]; exact k5) (by simp only; rw [List.map_congr_left fun z hz => ei _ _ z (c1 z hz)]; exact k6) k7
   simp only [comm] at this ⊢
   exact this
  | did o2 r d R l1 l2 l3 =>
   rw [hoj] at l1; cases l1
   have hst : keys d = [] ∧ ∀ k, k ∈ R → k ∈ K := by
    rcases hind with ⟨q, _⟩ | ⟨_, _, q1, q2⟩ | ⟨q, _⟩
    ·cases q
    ·exact ⟨q1, q2⟩
    ·cases q
   obtain rfl := keys0 hst.1
   simp only at l2 l3
   refine ⟨_, .did oj r [] R hoj (by rw [← wj]; exact l2) (loc l3 (fun z hz => (ej _ _ z hz).symm) fun k hk => (k7 k (hst.2 k hk)).symm), ?_⟩
   have := Tr1.gdid (P := P) (oa := oa) (b := b) (i := i) (s := { s2 with s := putS s2.s oj.dst r, m := app [] s2.m }) oi c f g first cap r1 m1 n1 K hoi (by simp only; rw [wi]; exact k2) k3 k4 (by simp only; rw [ei _ _ f c2]; exact k5) (by simp only; rw [List.map_congr_left fun z hz => ei _ _ z (c1 z hz)]; exact k6) k7
   simp only [comm] at this ⊢
   exact this
  | gdid o2 c' f' g' first' cap' r m' n' K' l1 l2 l3 l4 l5 l6 l7 =>
   exfalso
   rcases hind with ⟨q, _⟩ | ⟨_, q, _⟩ | ⟨_, q, _⟩ <;> cases q
theorem Tr.uncons {oa : Array Oper} {b i : Nat} {l : List Nat} {s s' : St} {rs : List Rec} (h : Tr P oa b (i :: l) s rs s') : ∃ x rs', rs = x :: rs' ∧ x.i = i ∧ ∃ s1, Tr1 P oa b i s x s1 ∧ Tr P oa b l s1 rs' s' := by
 cases h with
 | skip _ _ _ _ rs o h1 h2 h3 => exact ⟨_, _, rfl, rfl, _, .skip o h1 h2, h3⟩
 | did _ _ _ _ rs o r d R h1 h2 h3 h4 => exact ⟨_, _, rfl, rfl, _, .did o r d R h1 h2 h3, h4⟩
 | gdid _ _ _ _ rs o c f g first cap r m' n' K h1 h2 h3 h4 h5 h6 h7 h8 => exact ⟨_, _, rfl, rfl, _, .gdid o c f g first cap r m' n' K h1 h2 h3 h4 h5 h6 h7, h8⟩
theorem Tr.front {oa : Array Oper} {b j : Nat} : ∀ {l1 l2 : List Nat} {s s' : St} {rs : List Rec}, Tr P oa b (l1 ++ j :: l2) s rs s' → DrawG oa rs → (∀ i, i ∈ l1 → reach oa 4 i j = false) →
  ∃ y s1 rs', Tr1 P oa b j s y s1 ∧ Tr P oa b (l1 ++ l2) s1 rs' s' ∧ DrawG oa rs' ∧ (∀ x, x ∈ rs' → x ∈ rs) ∧ y ∈ rs ∧ y.i = j
 | [], l2, s, s', rs, h, hd, _ => by
  obtain ⟨x, rs', rfl, hx, s1, t1, t2⟩ := Tr.uncons h
  exact ⟨x, s1, rs', t1, t2, (List.pairwise_cons.1 hd).2, fun y hy => by simp [hy], by simp, hx⟩
 | i :: l1, l2, s, s', rs, h, hd, he => by
  obtain ⟨x, rs', rfl, hx, s1, t1, t2⟩ := Tr.uncons h
  obtain ⟨hd1, hd2⟩ := List.pairwise_cons.1 hd
  obtain ⟨y, s2, rs2, u1, u2, u3, u5, u6, u7⟩ := Tr.front (l1 := l1) t2 hd2 (fun k hk => he k (by simp [hk]))
  have hap := (hd1 y u6).resolve_left (by rw [hx, u7, he i (by simp)]; simp)
  rw [hx, u7] at hap
  obtain ⟨s3, v1, v2⟩ := u1.move t1 hap.1 hap.2
  exact ⟨y, s3, x :: rs2, v1, .of1 v2 u2, List.pairwise_cons.2 ⟨fun z hz => hd1 z (u5 z hz), u3⟩, fun z hz => by
   simp only [List.mem_cons] at hz ⊢
   rcases hz with rfl | hz
   ·exact .inl rfl
   ·exact .inr (u5 z hz), by simp [u6], u7⟩
structure Going (okF : Nat → Prop) (B : Nat) (dl : List Deferred) (σ : Places) (b : Nat) (l : List Nat) (s : St) (a : Act) (w : World) : Prop where
 inv : Inv okF B σ s.m w
 fresh : ∀ k, s.n ≤ k → s.m k = none
 own : ∀ i, i ∈ l → b + i < s.n ∧ s.m (b + i) = none
 sr : SR okF σ s.m w a.tmps s.s
 defers : a.defers = dl
theorem Going.step {oa : Array Oper} {b i : Nat} {l l' : List Nat} {s s1 : St} {x : Rec} {a : Act} (h : Going okF B dl σ b l s a w) (hi : i ∈ l) (hl : ∀ j, j ∈ l' → j ∈ l ∧ j ≠ i) (ht : Tr1 P oa b i s x s1) {Q : Exit → Act → World → Prop} {K : Act → World → Prop}
  (hK : ∀ a' w' σ', Going okF B dl σ' b l' s1 a' w' → Ext okF B σ s.m w σ' s1.m w' → K a' w') : wpOpIn (FR ro) 0 P oa Q i K a w := by
 cases ht with
 | skip o h1 h2 =>
  unfold wpOpIn
  rw [h1]
  simp only
  rw [if_neg (by rw [h.sr.wanted h2]; simp)]
  refine ⟨fun _ _ => trivial, ?_⟩
  exact hK _ _ σ ⟨h.inv, h.fresh, fun j hj => h.own j (hl j hj).1, h.sr.put (.v undef rfl) _, by rw [Act.put_defers']; exact h.defers⟩ (.refl _ _ _ _ _)
 | did o r d R h1 h2 h3 =>
  obtain ⟨k1, k2⟩ := h3 _ _ (fun _ _ => rfl) (fun _ _ => rfl)
  unfold wpOpIn
  rw [h1]
  simp only
  rw [if_pos (by rw [h.sr.wanted h2])]
  refine (k2 okF B σ a w K Q h.inv h.sr.ev (h.own i hi).2 fun v w' σ' hr hi' hx => hK _ _ σ' ⟨hi', fun k hk => ?_, fun j hj => ?_, (h.sr.ext hx).put hr _, by rw [Act.put_defers']; exact h.defers⟩ hx)
  ·have : k ∉ keys d := fun hq => by
    rcases k1 k hq with rfl | hn
    ·have := (h.own i hi).1; simp only at hk; omega
    ·exact hn (h.fresh k hk)
   simp only; rw [bW this]; exact h.fresh k hk
  ·obtain ⟨j1, j2⟩ := hl j hj
   obtain ⟨o1, o2⟩ := h.own j j1
   refine ⟨o1, ?_⟩
   have : b + j ∉ keys d := fun hq => by
    rcases k1 _ hq with hq | hn
    ·omega
    ·exact hn o2
   simp only; rw [bW this]; exact o2
 | gdid o c f g first cap r m' n' K' h1 h2 h3 h4 h5 h6 h7 =>
  obtain ⟨hb, hle, hkeep, hcall⟩ := h6
  unfold wpOpIn
  rw [h1]
  simp only
  rw [if_pos (by rw [h.sr.wanted h2])]
  have hf := h.sr.ev f
  rw [h5] at hf
  generalize hz : a.eval f = z at hf
  cases hf with
  | fn _ fv cv _ _ g1 g2 g3 g4 =>
   obtain ⟨s1, s2⟩ := args_rel (fun x => h.sr.ev x) g1 g2 g3 g4 c.args
   unfold Oper.wpIn
   refine ⟨fun _ _ => trivial, ?_⟩
   rw [Oper.semAt_eq _ _ _ (by rw [h3]; intro c h; cases h), lJ h3 h4 hz hb]
   refine ⟨fun h => (by cases h), (qL (hcall okF B σ w _ h.inv h.fresh s1 s2)).mono ?_⟩
   rintro e w' ⟨v, σ', rfl, hi2, hfr, hr, hx⟩
   exact hK _ _ σ' ⟨hi2, hfr, fun j hj => by
    obtain ⟨o1, o2⟩ := h.own j (hl j hj).1
    exact ⟨by simp only; omega, hkeep _ o1 o2⟩, (h.sr.ext hx).put hr _, by rw [Act.put_defers']; exact h.defers⟩ hx
theorem Tr.run {oa : Array Oper} {b : Nat} {Q : Exit → Act → World → Prop} : ∀ {l : List Nat} {s s' : St} {rs : List Rec}, Tr P oa b l s rs s' → l.Nodup → ∀ {σ : Places} {a : Act} {w : World}, Going okF B dl σ b l s a w →
  (∀ a' w' σ', Going okF B dl σ' b [] s' a' w' → Ext okF B σ s.m w σ' s'.m w' → Q .normal a' w') → wpOpsIn (FR ro) 0 P oa Q l a w := by
 intro l s s' rs h
 induction h with
 | nil s => intro hn σ a w hg hq; exact hq a w σ hg (.refl _ _ _ _ _)
 | skip i l s s' rs o h1 h2 h3 ih =>
  intro hn σ a w hg hq
  rw [wpOpsIn_cons]
  obtain ⟨n1, n2⟩ := List.nodup_cons.1 hn
  exact hg.step (i := i) (by simp) (fun j hj => ⟨by simp [hj], fun e => n1 (e ▸ hj)⟩) (.skip o h1 h2) fun a' w' σ' hg' hx => ih n2 hg' fun a2 w2 σ2 g2 x2 => hq a2 w2 σ2 g2 (hx.trans x2)
 | did i l s s' rs o r d R h1 h2 h3 h4 ih =>
  intro hn σ a w hg hq
  rw [wpOpsIn_cons]
  obtain ⟨n1, n2⟩ := List.nodup_cons.1 hn
  exact hg.step (i := i) (by simp) (fun j hj => ⟨by simp [hj], fun e => n1 (e ▸ hj)⟩) (.did o r d R h1 h2 h3) fun a' w' σ' hg' hx => ih n2 hg' fun a2 w2 σ2 g2 x2 => hq a2 w2 σ2 g2 (hx.trans x2)
 | gdid i l s s' rs o c f g first cap r m' n' K h1 h2 h3 h4 h5 h6 h6k h7 ih =>
  intro hn σ a w hg hq
  rw [wpOpsIn_cons]
  obtain ⟨n1, n2⟩ := List.nodup_cons.1 hn
  exact hg.step (i := i) (by simp) (fun j hj => ⟨by simp [hj], fun e => n1 (e ▸ hj)⟩) (.gdid o c f g first cap r m' n' K h1 h2 h3 h4 h5 h6 h6k) fun a' w' σ' hg' hx => ih n2 hg' fun a2 w2 σ2 g2 x2 => hq a2 w2 σ2 g2 (hx.trans x2)
theorem nF {oa : Array Oper} {listed : Array Bool} (hc : ∀ i k, edge oa i k = true → k < oa.size → listed.getD k false = true → listed.getD i false = true) (hlt : ∀ i k, edge oa i k = true → k < oa.size) {j : Nat} (hj : ∀ i, edge oa i j = true → listed.getD i false = true) :
  ∀ (f : Nat) {i : Nat}, listed.getD i false = false → reach oa f i j = false
 | 0, i, hi => by
  cases he : edge oa i j with
  | false => exact he
  | true => rw [hj i he] at hi; cases hi
 | f + 1, i, hi => by
  unfold reach
  have h1 : edge oa i j = false := by
   cases he : edge oa i j with
   | false => rfl
   | true => rw [hj i he] at hi; cases hi
  rw [h1, Bool.false_or, List.any_eq_false]
  intro k hk
  simp only [Bool.and_eq_true, not_and, Bool.not_eq_true]
  intro he
  refine nF hc hlt hj f ?_
  cases hk2 : listed.getD k false with
  | false => rfl
  | true => rw [hc i k he (hlt i k he) hk2] at hi; cases hi
theorem edge_lt {oa : Array Oper} {i k : Nat} (h : edge oa i k = true) : k < oa.size := by
 unfold edge at h
 rcases Nat.lt_or_ge k oa.size with h' | h'
 ·exact h'
 ·rw [Array.getElem?_eq_none h'] at h; simp at h
theorem pT {oa : Array Oper} {listed : Array Bool} {i : Nat} (h : i ∈ Region.ready .any oa listed) : i < oa.size ∧ listed.getD i true = false ∧ ∀ j, edge oa j i = true → listed.getD j false = true := by
 unfold Region.ready at h
 simp only [List.mem_filter, List.mem_range, Bool.and_eq_true, Bool.not_eq_true'] at h
 obtain ⟨h1, h2, h3⟩ := h
 refine ⟨h1, h2, fun j hj => ?_⟩
 unfold edge at hj
 rw [Array.getElem?_eq_getElem h1] at hj h3
 simp only [Option.map_some, Option.getD_some] at hj h3
 rw [Array.any_eq_true] at hj
 obtain ⟨k, hk, hj⟩ := hj
 rw [Array.all_eq_true] at h3
 have := h3 k hk
 simp only [Bool.and_eq_true, beq_iff_eq] at hj
 rw [hj.1, hj.2] at this
 simpa using this
theorem Tr.any {oa : Array Oper} {b : Nat} {Q : Exit → Act → World → Prop} : ∀ (fuel : Nat) {listed : Array Bool} {l : List Nat} {s s' : St} {rs : List Rec}, Tr P oa b l s rs s' → DrawG oa rs → (∀ i k, edge oa i k = true → k < oa.size → listed.getD k false = true → listed.getD i false = true) → l.Nodup → listed.size = oa.size →
  (∀ i, i ∈ l ↔ i < oa.size ∧ listed.getD i true = false) → l.length ≤ fuel → (∀ i j, edge oa j i = true → i < oa.size → j < i) → l.Pairwise (· < ·) → ∀ {σ : Places} {a : Act} {w : World}, Going okF B dl σ b l s a w →
  (∀ a' w' σ', Going okF B dl σ' b [] s' a' w' → Ext okF B σ s.m w σ' s'.m w' → Q .normal a' w') → wpAnyIn (FR ro) 0 P .any oa Q fuel listed a w := by
 intro fuel
 have least : ∀ {listed : Array Bool} {l : List Nat}, listed.size = oa.size → (∀ i, i ∈ l ↔ i < oa.size ∧ listed.getD i true = false) → (∀ i j, edge oa j i = true → i < oa.size → j < i) → l.Pairwise (· < ·) → Region.ready .any oa listed = [] → l = [] := by
  intro listed l hsz hl htop hp hr
  cases l with
  | nil => rfl
  | cons i l =>
   exfalso
   obtain ⟨h1, h2⟩ := (hl i).1 (by simp)
   have : i ∈ Region.ready .any oa listed := by
    unfold Region.ready
    simp only [List.mem_filter, List.mem_range, Bool.and_eq_true, Bool.not_eq_true']
    refine ⟨h1, h2, ?_⟩
    rw [Array.getElem?_eq_getElem h1]
    simp only [Option.map_some, Option.getD_some]
    rw [Array.all_eq_true]
    intro k hk
    by_cases hb : Region.binds .any oa[i].after[k] = true
    ·have he : edge oa oa[i].after[k].on i = true := by
      unfold edge
      rw [Array.getElem?_eq_getElem h1]
      simp only [Option.map_some, Option.getD_some]
      rw [Array.any_eq_true]
      exact ⟨k, hk, by simp [hb]⟩
     have hlt := htop i _ he h1
     have hn : oa[i].after[k].on ∉ i :: l := by
      intro hm
      rw [List.mem_cons] at hm
      rcases hm with hm | hm
      ·omega
      ·have := (List.pairwise_cons.1 hp).1 _ hm; omega
     have hlt2 : oa[i].after[k].on < listed.size := by omega
     have : listed.getD oa[i].after[k].on false = true := by
      by_cases hq : listed.getD oa[i].after[k].on true = false
      ·exact absurd ((hl _).2 ⟨om, hq⟩) hn
      ·simp only [Array.getD_eq_getD_getElem?, Array.getElem?_eq_getElem hlt2, Option.getD_some] at hq ⊢
       simpa using hq
     simp [this]
    ·simp [hb]
   rw [hr] at this
   cases this
 induction fuel with
 | zero =>
  intro listed l s s' rs h hd hg hn hsz hl hle htop hp σ a w hgo hq
  have : l = [] := by cases l with
   | nil => rfl
   | cons _ _ => simp at hle
  subst this
  cases h
  refine ⟨?_, hq a w σ hgo (.refl _ _ _ _ _)⟩
  cases hr : Region.ready .any oa listed with
  | nil => rfl
  | cons i t =>
   obtain ⟨h1, h2, _⟩ := pT (i := i) (oa := oa) (listed := listed) (by rw [hr]; simp)
   have := (hl i).2 ⟨h1, h2⟩
   cases this
 | succ fuel ih =>
  intro listed l s s' rs h hd hg hn hsz hl hle htop hp σ a w hgo hq
  refine ⟨fun hr => ?_, fun i hi => ?_⟩
  ·have := least hsz hl htop hp hr
   subst this
   cases h
   exact hq a w σ hgo (.refl _ _ _ _ _)
  ·obtain ⟨h1, h2, h3⟩ := pT hi
   have him := (hl i).2 ⟨h1, h2⟩
   obtain ⟨l1, l2, rfl⟩ := List.append_of_mem him
   have hne : ∀ j, j ∈ l1 → reach oa 4 j i = false := fun j hj => by
    refine nF hg (fun _ _ he => edge_lt he) h3 4 ?_
    obtain ⟨j1, j2⟩ := (hl j).1 (by simp [hj])
    have hlt : j < listed.size := by omega
    simp only [Array.getD_eq_getD_getElem?, Array.getElem?_eq_getElem hlt, Option.getD_some] at j2 ⊢
    exact j2
   obtain ⟨y, s1, rs', t1, t2, t3, _, _, _⟩ := h.front hd hne
   have hg2 : ∀ i' k, edge oa i' k = true → k < oa.size → (listed.setIfInBounds i true).getD k false = true → (listed.setIfInBounds i true).getD i' false = true := fun i' k he hk hk2 => by
    have up : ∀ j, listed.getD j false = true → (listed.setIfInBounds i true).getD j false = true := fun j hj => by
     by_cases hij : i = j
     ·subst hij; simp only [Array.getD_eq_getD_getElem?, Array.getElem?_setIfInBounds]; rw [if_pos trivial, if_pos om]; rfl
     ·simp only [Array.getD_eq_getD_getElem?, Array.getElem?_setIfInBounds_ne hij] at hj ⊢; exact hj
    by_cases hik : i = k
    ·subst hik; exact up i' (h3 i' he)
    ·simp only [Array.getD_eq_getD_getElem?, Array.getElem?_setIfInBounds_ne hik] at hk2
     exact up i' (hg i' k he hk (by simpa [Array.getD_eq_getD_getElem?] using hk2))
   have hni : i ∉ l1 ++ l2 := by
    rw [List.nodup_append] at hn
    intro hm
    rw [List.mem_append] at hm
    rcases hm with hm | hm
    ·exact hn.2.2 i hm i (by simp) rfl
    ·exact (List.nodup_cons.1 hn.2.1).1 hm
   have hsub : (l1 ++ l2).Sublist (l1 ++ i :: l2) := List.Sublist.append_left (List.sublist_cons_self _ _) _
   refine hgo.step (l' := l1 ++ l2) him (fun j hj => ⟨hsub.subset hj, fun e => hni (e ▸ hj)⟩) t1 fun a' w' σ' hg' hx => ?_
   refine ih t2 t3 hg2 (hsub.nodup hn) (by simp [hsz]) (fun j => ?_) (by simp at hle ⊢; omega) htop (hp.sublist hsub) hg' fun a2 w2 σ2 g2 x2 => hq a2 w2 σ2 g2 (hx.trans x2)
   constructor
   ·intro hj
    obtain ⟨j1, j2⟩ := (hl j).1 (hsub.subset hj)
    refine ⟨j1, ?_⟩
    have hji : i ≠ j := fun e => hni (e ▸ hj)
    simp only [Array.getD_eq_getD_getElem?, Array.getElem?_setIfInBounds_ne hji] at j2 ⊢
    exact j2
   ·rintro ⟨j1, j2⟩
    by_cases hji : i = j
    ·subst hji
     simp only [Array.getD_eq_getD_getElem?, Array.getElem?_setIfInBounds] at j2
     rw [if_pos trivial, if_pos om] at j2
     simp at j2
    ·simp only [Array.getD_eq_getD_getElem?, Array.getElem?_setIfInBounds_ne hji] at j2
     have := (hl j).2 ⟨j1, by simpa [Array.getD_eq_getD_getElem?] using j2⟩
     simp only [List.mem_append, List.mem_cons] at this ⊢
     rcases this with k | k | k
     ·exact .inl k
     ·exact absurd k.symm hji
     ·exact .inr k
theorem topo_spec {oa : Array Oper} (h : topo oa = true) : ∀ i j, edge oa j i = true → i < oa.size → j < i := by
 intro i j he hi
 unfold topo at h
 rw [List.all_eq_true] at h
 have := h i (by simpa using hi)
 unfold edge at he
 rw [Array.getElem?_eq_getElem hi] at he this
 simp only [Option.map_some, Option.getD_some] at he this
 rw [Array.any_eq_true] at he
 obtain ⟨k, hk, he⟩ := he
 rw [Array.all_eq_true] at this
 have := this k hk
 simp only [Bool.and_eq_true, beq_iff_eq] at he
 simp only [he.1, he.2, Bool.not_true, Bool.false_or, decide_eq_true_eq] at this
 exact this
theorem resLV_run (hT : TypesOk P T) {s : St} {tmps : Array Value} (hI : Inv okF B σ s.m w) (hs : SR okF σ s.m w tmps s.s) {rv : ResultVar} {l : LV} (h : resLV T rv s = some l) :
  ∃ v, (match rv with | .tmp t => Pure.pure (tmps.getD t undef) | .cell a t => do loadVar t (← asAddr (tmps.getD a undef)) : Sem Value).run P w = .ok v w ∧ Rel (okS okF σ s.m) w σ v l := by
 cases rv with
 | tmp t =>
  simp only [resLV] at h
  have hlt : t < tmps.size := by rw [hs.size]; exact (List.getElem?_eq_some_iff.1 h).1
  exact ⟨tmps[t], by simp [hlt], hs.rel t _ l (Array.getElem?_eq_getElem hlt) h⟩
 | cell a t =>
  simp only [resLV] at h
  split at h
  ·rename_i la ha
   split at h
   ·rename_i ti cs hti hcs
    have hlt : a < tmps.size := by rw [hs.size]; exact (List.getElem?_eq_some_iff.1 ha).1
    have hr := hs.rel a _ la (Array.getElem?_eq_getElem hlt) ha
    obtain ⟨ad, vs, hv, hseg⟩ := mX hI hcs hr
    obtain ⟨v, hrun, hrel⟩ := load_run (P := P) hT hti hseg h
    exact ⟨v, by simp [hlt, hv, asAddr, hrun], hrel⟩
   ·cases h
  ·cases h
theorem nG (hT : TypesOk P T) {s : St} {tmps : Array Value} (hI : Inv okF B σ s.m w) (hs : SR okF σ s.m w tmps s.s) : ∀ {rvs : List ResultVar} {ls : List LV}, resList T rvs s = some ls →
  ∃ vs : List Value, (rvs.mapM (fun rv => match rv with | .tmp t => Pure.pure (tmps.getD t undef) | .cell a t => do loadVar t (← asAddr (tmps.getD a undef)) : ResultVar → Sem Value)).run P w = .ok vs w ∧ vs.length = ls.length ∧
   ∀ (i : Nat) (v : Value) (l : LV), vs[i]? = some v → ls[i]? = some l → Rel (okS okF σ s.m) w σ v l
 | [], ls, h => by simp [resList] at h; subst h; exact ⟨[], rfl, rfl, by simp⟩
 | rv :: rvs, ls, h => by
  simp only [resList] at h
  split at h
  ·rename_i l ls' h1 h2
   cases h
   obtain ⟨v, k1, k2⟩ := resLV_run (P := P) hT hI hs h1
   obtain ⟨vs, k3, k4, k5⟩ := nG hT hI hs h2
   refine ⟨v :: vs, ?_, by simp [k4], fun i x y hx hy => ?_⟩
   ·rw [List.mapM_cons]
    simp only [Sem.run_bind, k1, Result.andThen_ok, k3, Sem.run_pure]
   ·cases i with
    | zero => simp at hx hy; subst hx; subst hy; exact k2
    | succ i => simp at hx hy; exact k5 i x y hx hy
  ·cases h
theorem results_run (hT : TypesOk P T) {s : St} {tmps : Array Value} (hI : Inv okF B σ s.m w) (hs : SR okF σ s.m w tmps s.s) {fn : Func} {ls : List LV} (h : resList T fn.results.toList s = some ls) :
  ∃ v, (results fn tmps).run P w = .ok v w ∧ Rel (okS okF σ s.m) w σ v (resultLV ls) := by
 obtain ⟨vs, k1, k2, k3⟩ := nG (P := P) hT hI hs h
 have hm : (fn.results.mapM (fun rv => match rv with | .tmp t => Pure.pure (tmps.getD t undef) | .cell a t => do loadVar t (← asAddr (tmps.getD a undef)) : ResultVar → Sem Value)).run P w = .ok vs.toArray w := by
  rw [Array.mapM_eq_mapM_toList]
  simp only [Sem.run_map, k1, Result.andThen_ok]
 have hrun : (results fn tmps).run P w = .ok (if h : vs.toArray.size = 1 then vs.toArray[0] else .tuple vs.toArray) w := by
  show ((do let vs ← fn.results.mapM (fun rv => match rv with | .tmp t => Pure.pure (tmps.getD t undef) | .cell a t => do loadVar t (← asAddr (tmps.getD a undef)) : ResultVar → Sem Value); Pure.pure (if h : vs.size = 1 then vs[0] else .tuple vs) : Sem Value)).run P w = _
  rw [Sem.run_bind, hm]
  rfl
 refine ⟨_, hrun, ?_⟩
 by_cases h1 : vs.length = 1
 ·rw [dif_pos (by simpa using h1)]
  match vs, ls, h1, k2, k3 with
  | [v], [l], _, _, k3 => simpa [resultLV] using k3 0 v l rfl rfl
 ·rw [dif_neg (by simpa using h1)]
  have : resultLV ls = .tup ls := by
   unfold resultLV
   split
   ·simp at k2; exact absurd k2 h1
   ·rfl
  rw [this]
  exact .tup _ _ (by simpa using k2) fun i v l hv hl => k3 i v l (by simpa using hv) hl
theorem frame_sr {fn : Func} {args : List LV} {argv : Array Value} (hsz : argv.size = args.length) (hr : ∀ (i : Nat) (v : Value) (l : LV), argv[i]? = some v → args[i]? = some l → Rel (okS okF σ m) w σ v l) :
  SR okF σ m w (argv ++ Array.replicate (fn.ntmps - argv.size) undef) (frame fn args) := by
 refine ⟨by simp [frame, hsz], fun i v l hv hl => ?_⟩
 unfold frame at hl
 rw [Array.getElem?_append] at hv
 rw [List.getElem?_append] at hl
 rw [hsz] at hv
 split at hv
 ·rename_i hlt
  rw [if_pos hlt] at hl
  exact hr i v l hv hl
 ·rename_i hlt
  rw [if_neg hlt] at hl
  rw [List.getElem?_replicate] at hl
  rw [Array.getElem?_replicate] at hv
  split at hl
  ·cases hl
   split at hv <;> cases hv <;> exact .v _ rfl
  ·cases hl
theorem jH (hm : P.follows .mixedOrders = true) {id : Nat} {oa : Array Oper} {s s' : St} {rs : List Rec} {draw : Bool} (h : Tr P oa s.n (List.range oa.size) { s with n := s.n + oa.size } rs s')
  (hd : draw = true → DrawG oa rs ∧ topo oa = true) (hn : s.n + oa.size ≤ s'.n) (hk : ∀ k, k < s.n → s.m k = none → s'.m k = none) : SoundCode P (.region id oa draw) s .normal s' := by
 refine ⟨om, hk, fun {ro dl} okF B σ a w Q hI hf hs hdf hq => ?_⟩
 have going : ∀ w, Inv okF B σ s.m w → SR okF σ s.m w a.tmps s.s → Going okF B dl σ s.n (List.range oa.size) { s with n := s.n + oa.size } a w := fun w hI hs =>
  ⟨hI, fun k hk => hf k (by simp only at hk; omega), fun i hi => ⟨by simp at hi ⊢; omega, hf _ om⟩, hs, hdf⟩
 cases draw with
 | false =>
  exact wpIn_region (Tr.run (P := P) (Q := Q) h List.nodup_range (going w hI hs) fun a' w' σ' hg hx => hq a' w' σ' hg.inv hg.fresh hg.sr hg.defers hx)
 | true =>
  obtain ⟨d1, d2⟩ := hd rfl
  obtain ⟨i1, e1⟩ := hI.world (w' := w.drew) (Below.refl _ _).drew
  refine wpIn_region_any hm (Tr.any (P := P) (Q := Q) oa.size h d1 (fun i k _ hk hl => by simp [hk] at hl) List.nodup_range (by simp) (fun i => ?_) (by simp) (topo_spec d2) List.pairwise_lt_range (going w.drew i1 (hs.ext e1)) fun a' w' σ' hg hx => hq a' w' σ' hg.inv hg.fresh hg.sr hg.defers (e1.trans hx))
  simp only [List.mem_range]
  constructor
  ·intro hi; exact ⟨hi, by simp [hi]⟩
  ·exact fun hi => hi.1
theorem kW {oa : Array Oper} {i j : Nat} (h : edge oa i j = true) : ∀ f, reach oa f i j = true
 | 0 => h
 | f + 1 => by unfold reach; rw [h]; rfl
theorem drawG_of {oa : Array Oper} {rs : List Rec} (h : DrawOk oa rs) (hg : ∀ x, x ∈ rs → x.g = false) : DrawG oa rs :=
 h.imp fun {x y} hxy => by
  rcases hxy with h | ⟨h1, h2⟩
  ·exact .inl (kW h 4)
  ·exact .inr ⟨h1, .inl h2⟩
theorem Tr.mono {oa : Array Oper} {b : Nat} {l : List Nat} {s s' : St} {rs : List Rec} (h : Tr P oa b l s rs s') : s.n ≤ s'.n ∧ ∀ k, k < s.n → (∀ i, i ∈ l → k ≠ b + i) → s.m k = none → s'.m k = none := by
 induction h with
 | nil s => exact ⟨Nat.le_refl _, fun k _ _ h => h⟩
 | skip i l s s' rs o h1 h2 h3 ih => exact ⟨ih.1, fun k hk hl hm => ih.2 k hk (fun j hj => hl j (by simp [hj])) hm⟩
 | did i l s s' rs o r d R h1 h2 h3 h4 ih =>
  refine ⟨ih.1, fun k hk hl hm => ih.2 k hk (fun j hj => hl j (by simp [hj])) ?_⟩
  obtain ⟨k1, _⟩ := h3 _ _ (fun _ _ => rfl) (fun _ _ => rfl)
  have : k ∉ keys d := fun hq => by
   rcases k1 k hq with hq | hn
   ·exact hl i (by simp) hq
   ·exact hn hm
  simp only; rw [bW this]; exact hm
 | gdid i l s s' rs o c f g first cap r m' n' K h1 h2 h3 h4 h5 h6 h6k h7 ih =>
  refine ⟨Nat.le_trans h6.2.1 ih.1, fun k hk hl hm => ih.2 k (Nat.lt_of_lt_of_le hk h6.2.1) (fun j hj => hl j (by simp [hj])) (h6.2.2.1 k hk hm)⟩
theorem iI {d : Delta} {ls ls' : List LV} (h : SnapL m d ls ls') : ∀ c, c ∈ ls' → Data c := by
 intro c hc
 obtain ⟨i, hi⟩ := List.getElem?_of_mem hc
 have hlt : i < ls.length := by rw [h.1]; exact (List.getElem?_eq_some_iff.1 hi).1
 exact (h.2 i _ c (List.getElem?_eq_getElem hlt) hi).isData
theorem Inv.none (hok : ∀ b, w.heap.size ≤ b → okF b) : Inv okF w.heap.size (fun _ => none) (fun _ => none) w :=
 ⟨fun r o hr => (by cases hr), fun r o _ _ _ _ hr => (by cases hr), fun r p hr => (by cases hr), hok, Nat.le_refl _⟩
theorem oU {ok ok' : Nat → Prop} {σ : Places} {v : Value} {q sz off len : Nat} {p : Pl} (h : Rel ok w σ v (.ref q sz off len)) (hp : σ q = some p) : Rel ok' w (setM (fun _ => none) 0 p) v (.ref 0 sz off len) := by
 cases h with
 | ref _ _ _ _ cap q g1 g2 g3 g4 => rw [hp] at g1; cases g1; exact .ref 0 sz off len cap p (bE _ _ _) g2 g3 g4
 | ref0 a => exact .ref0 a 0 sz off
theorem Inv.only {m' : Mem} {d : Delta} (hI : Inv okF B σ m' w) (hS : ∀ r o, r ∈ keys d → m r = some o → o.st ≠ 2 → m' r = some { o with st := 1 }) {q : Nat} {ob : Ob} (hq : m' q = some ob) (hst : ob.st = 0) {ds : List LV} (hs : SnapL m d ob.cells ds)
  (h1 : ∀ (i : Nat) (c e : LV), ob.cells[i]? = some c → ds[i]? = some e → e.one = c.one) :
  ∃ p, σ q = some p ∧ Inv okF B (setM (fun _ => Option.none) 0 p) (setM (fun _ => Option.none) 0 { ob with cells := ds }) w ∧ ∀ b, okS okF σ m' b → okS okF (setM (fun _ => Option.none) 0 p) (setM (fun _ => Option.none) 0 { ob with cells := ds }) b := by
 obtain ⟨p, c, g1, g2, g3, g4, g5, g6, g8, g7⟩ := hI.at_ q ob hq om
 have only : ∀ {α : Type} {x y : α} {r : Nat}, (setM (fun _ => Option.none) 0 x : Nat → Option α) r = some y → r = 0 ∧ y = x := by
  intro α x y r h
  unfold setM at h
  split at h
  ·cases h; exact ⟨by assumption, rfl⟩
  ·cases h
 have hok : ∀ b, okS okF σ m' b → okS okF (setM (fun _ => Option.none) 0 p) (setM (fun _ => Option.none) 0 { ob with cells := ds }) b := fun b hb => by
  refine ⟨hb.1, fun r o p' hr hs' hp' => ?_⟩
  obtain ⟨rfl, rfl⟩ := only hp'
  exact hb.2 q ob p' hq hst g1
 have get : ∀ (j : Nat) (x : LV), ds[j]? = some x → ∃ y, ob.cells[j]? = some y := fun j x hj => by
  have hlt : j < ob.cells.length := by rw [hs.1]; exact (List.getElem?_eq_some_iff.1 hj).1
  exact ⟨_, List.getElem?_eq_getElem hlt⟩
 refine ⟨p, g1, ⟨?_, ?_, ?_, hI.new, hI.size⟩, hok⟩
 ·intro r o hr hs'
  obtain ⟨rfl, rfl⟩ := only hr
  refine ⟨p, c, bE _ _ _, g2, g3, g4, by simp only; rw [← hs.1]; exact g5, g6, fun x hx => ?_, fun j x hx => ?_⟩
  ·obtain ⟨i, hi⟩ := List.getElem?_of_mem hx
   obtain ⟨y, hy⟩ := get i x hi
   rw [h1 i y x hy hi]; exact g8 y (List.mem_of_getElem? hy)
  ·obtain ⟨y, hy⟩ := get j x hx
   obtain ⟨v, hv, hvr⟩ := g7 j y hy
   have hsn := hs.2 j y x hy hx
   exact ⟨v, hv, (hsn.isData.rel (σ' := setM (fun _ => Option.none) 0 p) (hsn.rel hI hS hvr)).mono (fun b hb _ => ⟨hok b hb, rfl⟩) fun _ _ h => h⟩
 ·intro r1 o1 r2 o2 p1 p2 hr1 _ hr2 _ hne _ _
  obtain ⟨rfl, _⟩ := only hr1
  obtain ⟨rfl, _⟩ := only hr2
  exact absurd rfl hne
 ·intro r p' hp'
  obtain ⟨rfl, _⟩ := only hp'
  exact ⟨_, bE _ _ _⟩
theorem iD {α : Type} {n k : Nat} {m m0 : Nat → Option α} (h : k < n) : mix n m m0 k = m k := if_pos h
theorem iC {α : Type} {n k : Nat} {m m0 : Nat → Option α} (h : ¬ k < n) : mix n m m0 k = m0 k := if_neg h
theorem Inv.both {n : Nat} {m0 : Mem} {σ0 : Places} {w' : World} (hI : Inv okF B σ m w) (hf : ∀ k, n ≤ k → m k = Option.none) (h0 : Inv (okS okF σ m) w.heap.size σ0 m0 w') (hf0 : ∀ k, k < n → m0 k = Option.none) (hb : Below w.heap.size w w') :
  Inv okF B (mix n σ σ0) (mix n m m0) w' ∧ Ext okF B σ m w (mix n σ σ0) (mix n m m0) w' ∧ (∀ b, okS (okS okF σ m) σ0 m0 b → okS okF (mix n σ σ0) (mix n m m0) b) ∧ ∀ r p, σ0 r = some p → mix n σ σ0 r = some p := by
 have hσ : ∀ r p, σ r = some p → r < n := fun r p hr => by
  obtain ⟨o, ho⟩ := hI.dom r p hr
  apply Classical.byContradiction
  intro hn
  rw [hf r om] at ho; cases ho
 have hσ0 : ∀ r p, σ0 r = some p → ¬ r < n := fun r p hr hn => by
  obtain ⟨o, ho⟩ := h0.dom r p hr
  rw [hf0 r hn] at ho; cases ho
 have new : ∀ r o q, m0 r = some o → o.st ≠ 2 → σ0 r = some q → w.heap.size ≤ q.blk := fun r o q hr hs hq => by
  obtain ⟨q2, c2, j1, _, _, _, _, j6, _⟩ := h0.at_ r o hr hs
  rw [hq] at j1; cases j1; exact j6
 have old : ∀ r o q, m r = some o → o.st ≠ 2 → σ r = some q → q.blk < w.heap.size := fun r o q hr hs hq => by
  obtain ⟨q2, c2, j1, _, j3, _⟩ := hI.at_ r o hr hs
  rw [hq] at j1; cases j1; exact eS j3
 have hok0 : ∀ b, okS (okS okF σ m) σ0 m0 b → okS okF (mix n σ σ0) (mix n m m0) b := fun b hb => by
  refine ⟨hb.1.1, fun r o q hr hs hq => ?_⟩
  by_cases k : r < n
  ·rw [iD k] at hr hq; exact hb.1.2 r o q hr hs hq
  ·rw [iC k] at hr hq; exact hb.2 r o q hr hs hq
 have e : Ext okF B σ m w (mix n σ σ0) (mix n m m0) w' := by
  refine ⟨fun b hb' hlt => ⟨⟨hb'.1, fun r o q hr hs hq => ?_⟩, hb.block b hlt⟩, fun r q hq => by rw [iD (hσ r q hq)]; exact hq, hb.mono hI.size⟩
  by_cases k : r < n
  ·rw [iD k] at hr hq; exact hb'.2 r o q hr hs hq
  ·rw [iC k] at hr hq
   have := new r o q hr om hq
   omega
 have hpl : ∀ r p, σ0 r = some p → mix n σ σ0 r = some p := fun r p hr => by rw [iC (hσ0 r p hr)]; exact hr
 refine ⟨⟨?_, ?_, ?_, hI.new, Nat.le_trans hI.size hb.size⟩, e, hok0, hpl⟩
 ·intro r o hr hs
  by_cases k : r < n
  ·rw [iD k] at hr
   obtain ⟨q, c2, j1, j2, j3, j4, j5, j6, j8, j7⟩ := hI.at_ r o hr hs
   refine ⟨q, c2, by rw [iD k]; exact j1, j2, by rw [hb.block _ (eS j3)]; exact j3, j4, j5, j6, j8, fun j x hx => ?_⟩
   obtain ⟨v, hv, hvr⟩ := j7 j x hx
   exact ⟨v, hv, e.rel hvr⟩
  ·rw [iC k] at hr
   obtain ⟨p, c, g1, g2, g3, g4, g5, g6, g8, g7⟩ := h0.at_ r o hr hs
   refine ⟨p, c, by rw [iC k]; exact g1, g2, g3, g4, g5, Nat.le_trans hI.size g6, g8, fun j x hx => ?_⟩
   obtain ⟨v, hv, hvr⟩ := g7 j x hx
   exact ⟨v, hv, hvr.mono (fun b hb' _ => ⟨hok0 b hb', rfl⟩) hpl⟩
 ·intro r1 o1 r2 o2 q q' hr1 hs1 hr2 hs2 hne hq hq'
  by_cases k1 : r1 < n <;> by_cases k2 : r2 < n
  ·rw [iD k1] at hr1 hq; rw [iD k2] at hr2 hq'
   exact hI.inj r1 o1 r2 o2 q q' hr1 hs1 hr2 hs2 hne hq hq'
  ·rw [iD k1] at hr1 hq; rw [iC k2] at hr2 hq'
   have := old r1 o1 q hr1 om hq
   have := new r2 o2 q' hr2 hs2 hq'
   omega
  ·rw [iC k1] at hr1 hq; rw [iD k2] at hr2 hq'
   have := new r1 o1 q hr1 om hq
   have := old r2 o2 q' hr2 hs2 hq'
   omega
  ·rw [iC k1] at hr1 hq; rw [iC k2] at hr2 hq'
   exact h0.inj r1 o1 r2 o2 q q' hr1 hs1 hr2 hs2 hne hq hq'
 ·intro r q hq
  by_cases k : r < n
  ·rw [iD k] at hq ⊢; exact hI.dom r q hq
  ·rw [iC k] at hq ⊢; exact h0.dom r q hq
theorem run_sound (hT : TypesOk P T) (hE : ∀ t, E t = true → EqOk P t) (hm : P.follows .mixedOrders = true) {t : Task} (h : Run P T E t) : Sound P t := by
 induction h with
 | prim o id ev m r d h => exact sound_prim hT hE h
 | pcall o id ev m r d c f g first cap as h1 h2 h3 h4 h5 h6 ih => exact sound_pcall h1 h2 h3 h4 h5 ih
 | bcall o id ev m x d c f g first cap as h1 h2 h3 h4 h5 h6 ih => exact sound_bcall h1 h2 h3 h4 h5 ih
 | ocall o id ev m r ob d c f g first cap as h1 h2 h3 h4 h5 h6 ih => exact sound_ocall h1 h2 h3 h4 h5 ih
 | nil oa b s => exact .nil s
 | skipped oa i l b s s' rs o h1 h2 h3 ih => exact .skip i l s s' rs o h1 h2 ih
 | did oa i l b s s' rs o r d R h1 h2 h3 h4 ih1 ih2 => exact .did i l s s' rs o r d R h1 h2 ih1 ih2
 | gdid oa i l b s s' rs o c f g first cap r m' n' K h1 h2 h3 h4 h5 h6 h6k h7 ih1 ih2 => exact .gdid i l s s' rs o c f g first cap r m' n' K h1 h2 h3 h4 h5 ih1 h6k ih2
 | skip s => exact ⟨⟨Nat.le_refl _, fun _ _ h => h, fun okF B σ a w Q hI hf hs hd hq => wpIn_skip (hq a w σ hI hf hs hd (.refl _ _ _ _ _))⟩, fun _ h => by cases h⟩
 | seq c d s s1 s2 x h1 h2 ih1 ih2 =>
  obtain ⟨ih1, _⟩ := ih1
  obtain ⟨ih2, _⟩ := ih2
  refine ⟨?_, fun _ h => by cases h⟩
  refine ⟨Nat.le_trans ih1.1 ih2.1, fun k hk hn => ih2.2.1 k (Nat.lt_of_lt_of_le hk ih1.1) (ih1.2.1 k hk hn), fun okF B σ a w Q hI hf hs hd hq => wpIn_seq ?_⟩
  exact ih1.2.2 okF B σ a w _ hI hf hs hd fun a' w' σ' hI' hf' hs' hd' hx => ih2.2.2 okF B σ' a' w' Q hI' hf' hs' hd' fun a2 w2 σ2 i2 f2 s2 d2 x2 => hq a2 w2 σ2 i2 f2 s2 d2 (hx.trans x2)
 | seqx c d s s1 x h1 h2 ih =>
  obtain ⟨ih, _⟩ := ih
  refine ⟨?_, fun _ h => by cases h⟩
  refine ⟨ih.1, ih.2.1, fun okF B σ a w Q hI hf hs hd hq => wpIn_seq ?_⟩
  refine ih.2.2 okF B σ a w _ hI hf hs hd fun a' w' σ' hI' hf' hs' hd' hx => ?_
  have := hq a' w' σ' hI' hf' hs' hd' hx
  cases x with
  | normal => exact absurd rfl h2
  | exit id => exact this
  | ret => exact this
 | cond c t thn els s s1 x h1 h2 ih =>
  obtain ⟨ih, _⟩ := ih
  refine ⟨?_, fun _ h => by cases h⟩
  refine ⟨ih.1, ih.2.1, fun okF B σ a w Q hI hf hs hd hq => ?_⟩
  have hr := hs.ev c
  rw [h1] at hr
  generalize hz : a.eval c = z at hr
  cases hr
  exact wpIn_cond hz (ih.2.2 okF B σ a w Q hI hf hs hd hq)
 | block id c s s1 x h1 ih =>
  obtain ⟨ih, _⟩ := ih
  refine ⟨?_, fun _ h => by cases h⟩
  refine ⟨ih.1, ih.2.1, fun okF B σ a w Q hI hf hs hd hq => wpIn_block ?_⟩
  refine ih.2.2 okF B σ a w _ hI hf hs hd fun a' w' σ' hI' hf' hs' hd' hx => ?_
  have := hq a' w' σ' hI' hf' hs' hd' hx
  cases x with
  | normal => simpa [Ex.to, Exit.inBlock] using this
  | exit id' =>
   simp only [Ex.to, Exit.inBlock]
   by_cases hid : id' = id
   ·subst hid; simpa [Ex.to] using this
   ·rw [if_neg hid]
    rw [if_neg (by simpa using hid)] at this
    exact this
  | ret => simpa [Ex.to, Exit.inBlock] using this
 | loop c s s1 s2 x h1 h2 ih1 ih2 =>
  obtain ⟨ih1, _⟩ := ih1
  obtain ⟨ih2, ih3⟩ := ih2
  obtain ⟨n, hn⟩ := ih3 c rfl
  have hr : SoundRounds P c s x s2 (n + 1) := fun okF B σ a w Q hI hf hs hd hq => by
   rw [roundsIn_succ]
   exact ih1.2.2 okF B σ a w _ hI hf hs hd fun a' w' σ' hI' hf' hs' hd' hx => hn okF B σ' a' w' Q hI' hf' hs' hd' fun a2 w2 σ2 i2 f2 s2 d2 x2 => hq a2 w2 σ2 i2 f2 s2 d2 (hx.trans x2)
  exact ⟨⟨Nat.le_trans ih1.1 ih2.1, fun k hk hn => ih2.2.1 k (Nat.lt_of_lt_of_le hk ih1.1) (ih1.2.1 k hk hn), fun okF B σ a w Q hI hf hs hd hq => wpIn_loop_rounds (n + 1) (hr okF B σ a w Q hI hf hs hd hq)⟩, fun body h => by cases h; exact ⟨_, hr⟩⟩
 | loopx c s s1 x h1 h2 ih =>
  obtain ⟨ih, _⟩ := ih
  have hr : SoundRounds P c s x s1 1 := fun okF B σ a w Q hI hf hs hd hq => by
   rw [roundsIn_succ]
   refine ih.2.2 okF B σ a w _ hI hf hs hd fun a' w' σ' hI' hf' hs' hd' hx => ?_
   have := hq a' w' σ' hI' hf' hs' hd' hx
   cases x with
   | normal => exact absurd rfl h2
   | exit id => exact this
   | ret => exact this
  exact ⟨⟨ih.1, ih.2.1, fun okF B σ a w Q hI hf hs hd hq => wpIn_loop_rounds 1 (hr okF B σ a w Q hI hf hs hd hq)⟩, fun body h => by cases h; exact ⟨_, hr⟩⟩
 | exit id s => exact ⟨⟨Nat.le_refl _, fun _ _ h => h, fun okF B σ a w Q hI hf hs hd hq => wpIn_exit (hq a w σ hI hf hs hd (.refl _ _ _ _ _))⟩, fun _ h => by cases h⟩
 | ret s => exact ⟨⟨Nat.le_refl _, fun _ _ h => h, fun okF B σ a w Q hI hf hs hd hq => wpIn_ret (hq a w σ hI hf hs hd (.refl _ _ _ _ _))⟩, fun _ h => by cases h⟩
 | region id oa s s' rs h1 ih =>
  have := Tr.mono ih
  exact ⟨jH hm ih (fun h => by cases h) this.1 fun k hk hn => this.2 k (by simp only; omega) (fun i _ => by omega) hn, fun _ h => by cases h⟩
 | draw id oa s s' rs h1 h2 h3 h4 ih =>
  have := Tr.mono ih
  exact ⟨jH hm ih (fun _ => ⟨drawG_of h2 h4, h3⟩) this.1 fun k hk hn => this.2 k (by simp only; omega) (fun i _ => by omega) hn, fun _ h => by cases h⟩
 | drawG id oa s s' rs h1 h2 h3 ih =>
  have := Tr.mono ih
  exact ⟨jH hm ih (fun _ => ⟨h2, h3⟩) this.1 fun k hk hn => this.2 k (by simp only; omega) (fun i _ => by omega) hn, fun _ h => by cases h⟩
 | regF id oa t s s' s1 m1 d h1 h2 h3 h4 ih =>
  obtain ⟨ih, _⟩ := ih
  have hn : ∀ k, s'.m k = none → m1 k = none := fun k hk => by
   have : app d s'.m k = none := by
    rw [bW (fun hkd => Frz.keys h2 hkd hk)]; exact hk
   rcases h4 k with ⟨_, j⟩ | ⟨o, cs, j, _⟩
   ·exact j
   ·rw [this] at j; cases j
  refine ⟨⟨ih.1, fun k hk hk' => hn k (ih.2.1 k hk hk'), fun okF B σ a w Q hI hf hs hd hq => ?_⟩, fun _ h => by cases h⟩
  refine ih.2.2 okF B σ a w Q hI hf hs hd fun a' w' σ' hI' hf' hs' hd' hx => ?_
  obtain ⟨i1, e1, k1⟩ := hI'.frzs h2
  have hS : ∀ r o, r ∈ keys d → s'.m r = some o → o.st ≠ 2 → app d s'.m r = some { o with st := 1 } := fun r o hr hm _ => k1 r o hr hm
  obtain ⟨i2, e2⟩ := i1.frzM hS h4
  refine hq a' w' σ' i2 (fun k hk => hn k (hf' k hk)) ⟨by rw [← h3.1]; exact hs'.size, fun i v l hv hl => ?_⟩ hd' ((hx.trans e1).trans e2)
  have hlt : i < s'.s.length := by rw [h3.1]; exact (List.getElem?_eq_some_iff.1 hl).1
  have hl0 := List.getElem?_eq_getElem hlt
  have hr := e1.rel (hs'.rel i v _ hv hl0)
  rcases h3.2 i _ l hl0 hl with rfl | k
  ·exact e2.rel hr
  ·exact e2.rel (k.rel i1 hS hr)
 | gcall f fn c args m n x s' ls h1 h2 h3 h4 h5 h6 h7 ih =>
  obtain ⟨ih, _⟩ := ih
  refine ⟨⟨fn, c, h1, h2, h3⟩, ih.1, ih.2.1, fun okF B σ w argv hI hf hsz hr => ?_⟩
  refine calls_of_wp h1 h2 (wpIn_wide (n := 0).1 ?_)
  refine ih.2.2 (ro := none) (dl := []) okF B σ _ w _ hI hf (frame_sr hsz hr) rfl fun a' w' σ' hI' hf' hs' hd' hx => ?_
  obtain ⟨v, k1, k2⟩ := results_run (P := P) hT hI' hs' h7
  have : bodyPost P fn (fun e w' => ∃ v σ', e = .returned v ∧ Inv okF B σ' s'.m w' ∧ (∀ k, s'.n ≤ k → s'.m k = none) ∧ Rel (okS okF σ' s'.m) w' σ' v (resultLV ls) ∧ Ext okF B σ m w σ' s'.m w') .ret a' w' := ⟨hd', v, k1, v, σ', rfl, hI', hf', k2, hx⟩
  rcases h6 with rfl | rfl
  ·exact this
  ·exact this
 | call f args r0 r m' n' d h1 h2 h3 ih =>
  obtain ⟨hb, _, _, hc⟩ := ih
  refine ⟨hb, fun okF w argv hok hsz hr => ?_⟩
  have hI0 : Inv okF w.heap.size (fun _ => none) (fun _ => none) w := ⟨fun r o hr => (by cases hr), fun r o _ _ _ _ hr => (by cases hr), fun r p hr => (by cases hr), hok, Nat.le_refl _⟩
  refine (hc okF w.heap.size _ w argv hI0 (fun _ _ => rfl) hsz fun i v l hv hl => (hr i v l hv hl).mono (fun b hb _ => ⟨⟨hb, fun r o p hr => (by cases hr)⟩, rfl⟩) fun _ _ h => h).mono ?_
  rintro e w' ⟨v, σ', rfl, hI, _, hrel, hx⟩
  obtain ⟨i1, e1, k1⟩ := hI.frzs h3
  have := h2.rel i1 (fun r o hr hm _ => k1 r o hr hm) (e1.rel hrel)
  exact ⟨v, rfl, (h2.isData.rel (σ' := fun _ => none) this).mono (fun b hb _ => ⟨hb.1, rfl⟩) fun _ _ h => h, hx.below⟩
 | callO f args q sz len ob ds m' n' d h1 h2 h3 h4 h5 h6 h7 h8 ih =>
  obtain ⟨hb, _, _, hc⟩ := ih
  refine ⟨hb, h3, fun c hc' => iI h6 c hc', .inl ⟨sz, len, rfl⟩, fun okF w argv hok hsz hr => ?_⟩
  refine (hc okF w.heap.size _ w argv (Inv.none hok) (fun _ _ => rfl) hsz fun i v l hv hl => (hr i v l hv hl).mono (fun b hb _ => ⟨⟨hb, fun r o p hr => (by cases hr)⟩, rfl⟩) fun _ _ h => h).mono ?_
  rintro e w' ⟨v, σ', rfl, hI, _, hrel, hx⟩
  obtain ⟨i1, e1, k1⟩ := hI.frzs h8
  obtain ⟨p, hp, i2, hok2⟩ := i1.only (m := m') (fun r o hr hm _ => k1 r o hr hm) (by rw [bW h5]; exact h2) h3 h6 h7
  exact ⟨v, _, rfl, i2, oU hrel hp, hx.below⟩
 | callOt f args q sz len ob ds rest rest' m' n' d h1 h2 h3 h4 h5 h6 h7 h8 h9 ih =>
  obtain ⟨hb, _, _, hc⟩ := ih
  refine ⟨hb, h3, fun c hc' => iI h6 c hc', .inr (.inl ⟨sz, len, rest', rfl, fun c hc' => iI h8 c hc'⟩), fun okF w argv hok hsz hr => ?_⟩
  refine (hc okF w.heap.size _ w argv (Inv.none hok) (fun _ _ => rfl) hsz fun i v l hv hl => (hr i v l hv hl).mono (fun b hb _ => ⟨⟨hb, fun r o p hr => (by cases hr)⟩, rfl⟩) fun _ _ h => h).mono ?_
  rintro e w' ⟨v, σ', rfl, hI, _, hrel, hx⟩
  obtain ⟨i1, e1, k1⟩ := hI.frzs h9
  obtain ⟨p, hp, i2, hok2⟩ := i1.only (m := m') (fun r o hr hm _ => k1 r o hr hm) (by rw [bW h5]; exact h2) h3 h6 h7
  refine ⟨v, _, rfl, i2, ?_, hx.below⟩
  have hrel' := e1.rel hrel
  cases hrel' with
  | tup vs _ g1 g2 =>
   refine .tup vs _ (by simp at g1 ⊢; rw [g1, h8.1]) (fun i v c hv hc => ?_)
   cases i with
   | zero => simp at hc; subst hc; exact oU (g2 0 v _ hv rfl) hp
   | succ i =>
    simp at hc
    have hlt : i < rest.length := by rw [h8.1]; exact (List.getElem?_eq_some_iff.1 hc).1
    have hl := List.getElem?_eq_getElem hlt
    have hs := h8.2 i _ c hl hc
    have hr2 := hs.rel i1 (fun r o hr hm _ => k1 r o hr hm) (g2 (i + 1) v _ hv (by simp))
    exact (hs.isData.rel (σ' := setM (fun _ => none) 0 p) hr2).mono (fun b hb _ => ⟨hok2 b hb, rfl⟩) fun _ _ h => h
 | callOu f args q sz len ob ds rest rest' y y' m' n' d h1 h2 h3 h4 h5 h6 h7 h8 h9 ih =>
  obtain ⟨hb, _, _, hc⟩ := ih
  refine ⟨hb, h3, fun c hc' => iI h6 c hc', .inr (.inr ⟨sz, len, y', rest', rfl, fun c hc' => iI h8 c hc'⟩), fun okF w argv hok hsz hr => ?_⟩
  refine (hc okF w.heap.size _ w argv (Inv.none hok) (fun _ _ => rfl) hsz fun i v l hv hl => (hr i v l hv hl).mono (fun b hb _ => ⟨⟨hb, fun r o p hr => (by cases hr)⟩, rfl⟩) fun _ _ h => h).mono ?_
  rintro e w' ⟨v, σ', rfl, hI, _, hrel, hx⟩
  obtain ⟨i1, e1, k1⟩ := hI.frzs h9
  obtain ⟨p, hp, i2, hok2⟩ := i1.only (m := m') (fun r o hr hm _ => k1 r o hr hm) (by rw [bW h5]; exact h2) h3 h6 h7
  refine ⟨v, _, rfl, i2, ?_, hx.below⟩
  have hrel' := e1.rel hrel
  have h8l : rest.length = rest'.length := by simpa using h8.1
  have plain : ∀ {v : Value} {i : Nat} {l c : LV}, (y :: rest)[i]? = some l → (y' :: rest')[i]? = some c → Rel (okS okF σ' (app d m')) w' σ' v l → Rel (okS okF (setM (fun _ => none) 0 p) (setM (fun _ => none) 0 { ob with cells := ds })) w' (setM (fun _ => none) 0 p) v c := by
   intro v i l c hl hc hr0
   have hs := h8.2 i l c hl hc
   have hr2 := hs.rel i1 (fun r o hr hm _ => k1 r o hr hm) hr0
   exact (hs.isData.rel (σ' := setM (fun _ => none) 0 p) hr2).mono (fun b hb _ => ⟨hok2 b hb, rfl⟩) fun _ _ h => h
  cases hrel' with
  | tup vs _ g1 g2 =>
   refine .tup vs _ (by simp at g1 ⊢; rw [g1, h8l]) (fun i v c hv hc => ?_)
   match i with
   | 0 => simp at hc; subst hc; exact plain (i := 0) rfl rfl (g2 0 v _ hv rfl)
   | 1 => simp at hc; subst hc; exact oU (g2 1 v _ hv rfl) hp
   | i + 2 =>
    simp at hc
    have hlt : i < rest.length := by rw [h8l]; exact (List.getElem?_eq_some_iff.1 hc).1
    have hl := List.getElem?_eq_getElem hlt
    exact plain (i := i + 1) (by rw [List.getElem?_cons_succ]; exact hl) (by rw [List.getElem?_cons_succ]; exact hc) (g2 (i + 2) v _ hv (by rw [List.getElem?_cons_succ, List.getElem?_cons_succ]; exact hl))
 | ext f args r h => exact h
 | frame f args as m m0 n n' r d h1 h2 h3 ih =>
  obtain ⟨hb, hn, hk0, hc⟩ := ih
  refine ⟨hb, hn, fun k hk hm0 => ?_, fun okF B σ w argv hI hf hsz hr => ?_⟩
  ·rw [iD hk, bW (fun hkd => Frz.keys h2 hkd hm0)]; exact hm0
  ·obtain ⟨i1, e1, k1⟩ := hI.frzs h2
   have s3 := h1.rel i1 (fun r o hr hm _ => k1 r o hr hm) (vs := argv) (fun i v l hv hl => e1.rel (hr i v l hv hl))
   refine (hc (okS okF σ (app d m)) w.heap.size _ w argv (Inv.none (nY i1)) (fun _ _ => rfl) (by rw [hsz]; exact h1.1) fun i v l hv hl => ((s3 i v l hv hl).2.rel (σ' := fun _ => none) (s3 i v l hv hl).1).mono (fun b hb _ => ⟨⟨hb, fun r o p hr => (by cases hr)⟩, rfl⟩) fun _ _ h => h).mono ?_
   rintro e w' ⟨v, σ', rfl, hI', hf', hrel, hx⟩
   have hfr : ∀ k, n ≤ k → app d m k = none := fun k hk => by rw [bW (fun hkd => Frz.keys h2 hkd (hf k hk))]; exact hf k hk
   obtain ⟨i2, e2, hok, hpl⟩ := i1.both hfr hI' (fun k hk => hk0 k hk rfl) hx.below
   exact ⟨v, _, rfl, i2, fun k hk => by rw [iC om]; exact hf' k hk, hrel.mono (fun b hb _ => ⟨hok b hb, rfl⟩) hpl, e1.trans e2⟩
end
end Go.Ab
namespace Go.Ab
open Go.RowKit
inductive HasC (T : TT) : TypeId → List LV → Prop
 | int (t : TypeId) (k : IntKind) (n : Int) : dsc T t = some (.int k) → k.min ≤ n → n ≤ k.max → HasC T t [.v (.int k n)]
 | bool (t : TypeId) (b : Bool) : dsc T t = some .bool → HasC T t [.v (.bool b)]
 | nil (t e : TypeId) : dsc T t = some (.sl e) → HasC T t [.sl 0 []]
 | sl (t e : TypeId) (xs : List (List LV)) : dsc T t = some (.sl e) → xs.length ≤ maxLen → (∀ row, row ∈ xs → HasC T e row) → HasC T t [.sl 1 xs]
 | st (t : TypeId) (ti : TI) (fs : List (Nat × TypeId)) (cs : List LV) : T t = some ti → ti.desc = .st fs → cs.length = ti.size → (∀ f tf, f ∈ fs → T f.2 = some tf → HasC T f.2 ((cs.drop f.1).take tf.size)) → HasC T t cs
def tileB (T : TT) : Nat → List (Nat × TypeId) → Nat → Bool
 | o, [], n => o == n
 | o, f :: fs, n => f.1 == o && match T f.2 with
  | some tf => tileB T (o + tf.size) fs n
  | none => false
def coverB (T : TT) (ts : List TypeId) : Bool := ts.all fun t => match T t with
 | some ti => match ti.desc with
  | .int _ | .bool => ti.size == 1
  | .sl e => ti.size == 1 && ts.contains e
  | .st fs => (fs.all (fun f => ts.contains f.2 && (T f.2).isSome) && decide (0 < ti.size)) && tileB T 0 fs ti.size
  | _ => false
 | none => false
variable {P : Program} {T : TT} {E : TypeId → Bool}
theorem cells?_get {w : World} {a : Addr} {n : Nat} {cs : List Value} (h : w.cells? 0 a n = some cs) : cs.length = n ∧ ∀ (i : Nat) (v : Value), cs[i]? = some v → w.cell? (a.add i) = some v := by
 unfold World.cells? at h
 rw [if_pos (Nat.zero_le _)] at h
 have key : ∀ (l : List Nat) (cs : List Value), l.mapM (fun i => w.cell? (a.add i)) = some cs → cs.length = l.length ∧ ∀ (i j : Nat) (v : Value), l[i]? = some j → cs[i]? = some v → w.cell? (a.add j) = some v := by
  intro l
  induction l with
  | nil => intro cs h; simp at h; subst h; simp
  | cons x l ih =>
   intro cs h
   rw [List.mapM_cons] at h
   cases h1 : w.cell? (a.add x) with
   | none => simp [h1] at h
   | some v =>
    cases h2 : l.mapM (fun i => w.cell? (a.add i)) with
    | none => simp [h1, h2] at h
    | some vs =>
     simp [h1, h2] at h
     subst h
     obtain ⟨k1, k2⟩ := ih vs h2
     refine ⟨by simp [k1], fun i j u hi hu => ?_⟩
     cases i with
     | zero => simp at hi hu; subst hi; subst hu; exact h1
     | succ i => simp at hi hu; exact k2 i j u hi hu
 obtain ⟨k1, k2⟩ := key _ _ h
 refine ⟨by simpa using k1, fun i v hi => k2 i i v ?_ hi⟩
 have hlt : i < n := by
  have := (List.getElem?_eq_some_iff.1 hi).1
  rw [k1, List.length_range] at this; exact this
 exact List.getElem?_range hlt
theorem oR {α β : Type} {f : α → Option β} : ∀ {l : List α} {bs : List β}, l.mapM f = some bs → bs.length = l.length ∧ ∀ (i : Nat) (a : α), l[i]? = some a → ∃ b, f a = some b
 | [], bs, h => by simp at h; subst h; simp
 | a :: l, bs, h => by
  rw [List.mapM_cons] at h
  cases h1 : f a with
  | none => simp [h1] at h
  | some b =>
   cases h2 : l.mapM f with
   | none => simp [h1, h2] at h
   | some cs =>
    simp [h1, h2] at h
    subst h
    obtain ⟨k1, k2⟩ := oR h2
    refine ⟨by simp [k1], fun i x hx => ?_⟩
    cases i with
    | zero => simp at hx; subst hx; exact ⟨b, h1⟩
    | succ i => simp at hx; exact k2 i x hx
structure Opens (T : TT) (w : World) (t : TypeId) (cs : List Value) (ls : List LV) : Prop where
 len : ls.length = cs.length
 has : HasC T t ls
 one : ∀ l, l ∈ ls → l.one = true
 data : ∀ l, l ∈ ls → Data l
 rel : ∀ (i : Nat) (v : Value) (l : LV), cs[i]? = some v → ls[i]? = some l → Rel (fun _ => True) w (fun _ => none) v l
theorem mF {ts : List TypeId} (h : coverB T ts = true) {t : TypeId} (ht : t ∈ ts) : ∃ ti, T t = some ti ∧ ((∃ k, ti.desc = .int k ∧ ti.size = 1) ∨ (ti.desc = .bool ∧ ti.size = 1) ∨ (∃ e, ti.desc = .sl e ∧ ti.size = 1 ∧ e ∈ ts) ∨
  (∃ fs, ti.desc = .st fs ∧ (∀ f, f ∈ fs → f.2 ∈ ts ∧ ∃ tf, T f.2 = some tf) ∧ 0 < ti.size ∧ tileB T 0 fs ti.size = true)) := by
 unfold coverB at h
 rw [List.all_eq_true] at h
 have := h t ht
 split at this
 ·rename_i ti hti
  refine ⟨ti, hti, ?_⟩
  split at this
  ·rename_i k hk; exact .inl ⟨k, hk, by simpa using this⟩
  ·rename_i hk; exact .inr (.inl ⟨hk, by simpa using this⟩)
  ·rename_i e hk; simp at this; exact .inr (.inr (.inl ⟨e, hk, this.1, this.2⟩))
  ·rename_i fs hk
   rw [Bool.and_eq_true, Bool.and_eq_true, List.all_eq_true, decide_eq_true_eq] at this
   refine .inr (.inr (.inr ⟨fs, hk, fun f hf => ?_, this.1.2, this.2⟩))
   have h2 := this.1.1 f hf
   simp only [Bool.and_eq_true, List.contains_iff_mem, Option.isSome_iff_exists] at h2
   exact h2
  ·cases this
 ·cases this
theorem lS {w : World} {cs : List Value} {n : Nat} (hn : cs.length = n) : ∀ (fs : List (Nat × TypeId)) (o : Nat), tileB T o fs n = true → o ≤ n → (∀ f, f ∈ fs → ∀ tf, T f.2 = some tf → ∃ ls, Opens T w f.2 ((cs.drop f.1).take tf.size) ls) →
  ∃ ls : List LV, ls.length = n - o ∧ (∀ l, l ∈ ls → l.one = true) ∧ (∀ l, l ∈ ls → Data l) ∧ (∀ (i : Nat) (v : Value) (l : LV), (cs.drop o)[i]? = some v → ls[i]? = some l → Rel (fun _ => True) w (fun _ => none) v l) ∧
   ∀ f tf, f ∈ fs → T f.2 = some tf → HasC T f.2 ((ls.drop (f.1 - o)).take tf.size)
 | [], o, h, ho, _ => by
  simp [tileB] at h
  exact ⟨[], by simp [h], by simp, by simp, by simp, by simp⟩
 | f :: fs, o, h, ho, hf => by
  simp only [tileB, Bool.and_eq_true, beq_iff_eq] at h
  obtain ⟨h1, h2⟩ := h
  split at h2
  ·rename_i tf htf
   obtain ⟨l1, hl1⟩ := hf f (by simp) tf htf
   have hle : o + tf.size ≤ n := by
    have : ∀ (fs : List (Nat × TypeId)) (o : Nat), tileB T o fs n = true → o ≤ n := by
     intro fs
     induction fs with
     | nil => intro o h; simp [tileB] at h; omega
     | cons g gs ih =>
      intro o h
      simp only [tileB, Bool.and_eq_true] at h
      obtain ⟨_, h⟩ := h
      split at h
      ·have := ih _ h; omega
      ·cases h
    exact this fs _ h2
   have hl1' : l1.length = tf.size := by rw [hl1.len, List.length_take, List.length_drop, hn, h1]; omega
   obtain ⟨ls, k1, k2, k3, k4, k5⟩ := lS hn fs (o + tf.size) h2 hle fun g hg => hf g (by simp [hg])
   refine ⟨l1 ++ ls, by rw [List.length_append, hl1', k1]; omega, fun l hl => ?_, fun l hl => ?_, fun i v l hv hl => ?_, fun g tg hg htg => ?_⟩
   ·rcases List.mem_append.1 hl with hl | hl
    ·exact hl1.one l hl
    ·exact k2 l hl
   ·rcases List.mem_append.1 hl with hl | hl
    ·exact hl1.data l hl
    ·exact k3 l hl
   ·rw [List.getElem?_append] at hl
    rw [List.getElem?_drop] at hv
    split at hl
    ·rename_i hlt
     refine hl1.rel i v l ?_ hl
     rw [List.getElem?_take, if_pos om, List.getElem?_drop, h1]; exact hv
    ·rename_i hge
     refine k4 (i - l1.length) v l ?_ hl
     rw [List.getElem?_drop, show o + tf.size + (i - l1.length) = o + i by omega]; exact hv
   ·rw [List.mem_cons] at hg
    rcases hg with rfl | hg
    ·rw [htf] at htg; cases htg
     rw [h1, Nat.sub_self, List.drop_zero, List.take_append_of_le_length om, List.take_of_length_le om]
     exact hl1.has
    ·have hge : o + tf.size ≤ g.1 := by
      have : ∀ (fs : List (Nat × TypeId)) (o : Nat), tileB T o fs n = true → ∀ g, g ∈ fs → o ≤ g.1 := by
       intro fs
       induction fs with
       | nil => intro o _ g hg; cases hg
       | cons x xs ih =>
        intro o h g hg
        simp only [tileB, Bool.and_eq_true, beq_iff_eq] at h
        obtain ⟨hx, h⟩ := h
        split at h
        ·rw [List.mem_cons] at hg
         rcases hg with rfl | hg
         ·omega
         ·have := ih _ h g hg; omega
        ·cases h
      exact this fs _ h2 g hg
     rw [List.drop_append, show g.1 - o - l1.length = g.1 - (o + tf.size) by omega, List.drop_eq_nil_of_le (by omega : l1.length ≤ g.1 - o), List.nil_append]
     exact k5 g tg hg htg
  ·cases h2
theorem opens (hT : TypesOk P T) {ts : List TypeId} (hc : coverB T ts = true) {H : Type} {enc : TypeId × Value → H} {w : World} {spare : Nat → Bool} {held : Bool} : ∀ (fuel : Nat) {t : TypeId} {cs : List Value} {d : DataW H} {ps : List MemPlace},
  t ∈ ts → DataW.trod enc P w 0 spare held fuel t cs = some (d, ps) → ∃ ls, Opens T w t cs ls
 | 0, t, cs, d, ps, ht, h => by simp [DataW.trod] at h
 | fuel + 1, t, cs, d, ps, ht, h => by
  obtain ⟨ti, hti, hd⟩ := mF hc ht
  obtain ⟨⟨info, z, g1, g2, g3, g4, g5⟩, ⟨de, hu, hf⟩, _, _⟩ := hT t ti hti
  have hdsc : dsc T t = some ti.desc := by simp [dsc, hti]
  unfold DataW.trod at h
  rw [hu] at h
  rcases hd with ⟨k, hk, _⟩ | ⟨hk, _⟩ | ⟨e, hk, _, he⟩ | ⟨fs, hk, hfs, hpos, htile⟩
  ·rw [hk] at hf hdsc; simp only [TD.fits] at hf; subst hf
   split at h <;> first | (rename_i h1 h2; cases h1; done) | skip
   all_goals first | (rename_i h1; cases h1; done) | skip
   ·rename_i k1 k2 n h1
    cases h1
    split at h
    ·rename_i hw
     obtain ⟨rfl, hw⟩ := hw
     simp [Lit.wf] at hw
     exact ⟨[.v (.int k2 n)], rfl, .int t k2 n hdsc hw.1 hw.2, by simp [LV.one], by simp; exact .v _, fun i v l hv hl => by
      cases i with
      | zero => simp at hv hl; subst hv; subst hl; exact .v _ rfl
      | succ i => simp at hl⟩
    ·cases h
   ·cases h
  ·rw [hk] at hf hdsc; simp only [TD.fits] at hf; subst hf
   split at h <;> first | (rename_i h1 h2; cases h1; done) | skip
   all_goals first | (rename_i h1; cases h1; done) | skip
   ·rename_i b h1
    exact ⟨[.v (.bool b)], rfl, .bool t b hdsc, by simp [LV.one], by simp; exact .v _, fun i v l hv hl => by
      cases i with
      | zero => simp at hv hl; subst hv; subst hl; exact .v _ rfl
      | succ i => simp at hl⟩
   ·cases h
  ·rw [hk] at hf hdsc; simp only [TD.fits] at hf; subst hf
   split at h <;> first | (rename_i h1 h2; cases h1; done) | skip
   all_goals first | (rename_i h1; cases h1; done) | skip
   ·exact ⟨[.sl 0 []], rfl, .nil t e hdsc, by simp [LV.one], by simp; exact .sl 0 [] (by simp), fun i v l hv hl => by
      cases i with
      | zero => simp at hv hl; subst hv; subst hl; exact .nil
      | succ i => simp at hl⟩
   ·rename_i e0 a len cap h1
    cases h1
    simp only at h
    split at h
    ·rename_i hcap
     obtain ⟨ti2, hti2, hd2⟩ := mF hc he
     obtain ⟨⟨info2, z2, j1, j2, _⟩, _, _, _⟩ := hT _ ti2 hti2
     have hsz : P.cellsOf e = ti2.size := by simp [Program.cellsOf, j1, j2]
     have hpos : 0 < ti2.size := by
      rcases hd2 with ⟨_, _, h⟩ | ⟨_, h⟩ | ⟨_, _, h, _⟩ | ⟨_, _, _, h, _⟩ <;> omega
     cases hm : (List.range len).mapM (fun i => (w.cells? 0 (a.add (i * P.cellsOf e)) (P.cellsOf e)).bind (DataW.trod enc P w 0 spare held fuel e)) with
     | none => rw [hm] at h; simp at h
     | some elems =>
      obtain ⟨-, hel⟩ := oR hm
      have row : ∀ i, i < len → ∃ ls, ∃ vs : List Value, vs.length = ti2.size ∧ (∀ (j : Nat) (v : Value), vs[j]? = some v → w.cell? ((a.add (i * ti2.size)).add j) = some v) ∧ Opens T w e vs ls := by
       intro i hi
       obtain ⟨b, hb⟩ := hel i i (List.getElem?_range hi)
       rw [hsz] at hb
       cases hcs : w.cells? 0 (a.add (i * ti2.size)) ti2.size with
       | none => rw [hcs] at hb; cases hb
       | some vs =>
        rw [hcs] at hb
        simp only [Option.bind_some] at hb
        obtain ⟨k1, k2⟩ := cells?_get hcs
        obtain ⟨ls, hls⟩ := opens hT hc fuel (d := b.1) (ps := b.2) he hb
        exact ⟨ls, vs, k1, k2, hls⟩
      have pick : ∃ xs : List (List LV), xs.length = len ∧ ∀ (i : Nat) (row : List LV), xs[i]? = some row → ∃ vs : List Value, vs.length = ti2.size ∧ (∀ (j : Nat) (v : Value), vs[j]? = some v → w.cell? ((a.add (i * ti2.size)).add j) = some v) ∧ Opens T w e vs row := by
       clear hm hel h hcap
       induction len with
       | zero => exact ⟨[], rfl, by simp⟩
       | succ n ih =>
        obtain ⟨xs, q1, q2⟩ := ih (fun i hi => row i om)
        obtain ⟨ls, hls⟩ := row n om
        refine ⟨xs ++ [ls], by simp [q1], fun i r hi => ?_⟩
        rw [List.getElem?_append] at hi
        split at hi
        ·exact q2 i r hi
        ·rename_i hge
         have : i = n := by
          have := (List.getElem?_eq_some_iff.1 hi).1
          simp at this; omega
         subst this
         rw [q1] at hi; simp at hi; subst hi; exact hls
      obtain ⟨xs, q1, q2⟩ := pick
      have hspot : ∀ (i j : Nat) (row : List LV) (c : LV), xs[i]? = some row → row[j]? = some c → ∃ v, Cell w (fun _ => True) a (i * ti2.size + j) v ∧ Rel (fun _ => True) w (fun _ => none) v c := by
       intro i j row c hi hj
       obtain ⟨vs, k1, k2, k3⟩ := q2 i row hi
       have hlt : j < vs.length := by rw [← k3.len]; exact (List.getElem?_eq_some_iff.1 hj).1
       have hv := List.getElem?_eq_getElem hlt
       have hcell := k2 j _ hv
       have sp : a.spot = none := by
        have h00 : 0 < xs.length := by have := (List.getElem?_eq_some_iff.1 hi).1; omega
        obtain ⟨vs0, m1, m2, m3⟩ := q2 0 _ (List.getElem?_eq_getElem h00)
        have hlt0 : 0 < vs0.length := by omega
        have := m2 0 _ (List.getElem?_eq_getElem hlt0)
        simp only [Nat.zero_mul, Addr.add, if_true] at this
        unfold World.cell? at this
        split at this
        ·split at this
         ·cases this
         ·rename_i hns; simpa using hns
        ·cases this
       refine ⟨vs[j], ⟨sp, trivial, ?_⟩, k3.rel j _ c hv hj⟩
       rw [fO a _ sp, fO _ _ rfl] at hcell
       simpa [Nat.add_assoc] using hcell
      have hlen : ∀ row, row ∈ xs → row.length = ti2.size := fun row hr => by
       obtain ⟨i, hi⟩ := List.getElem?_of_mem hr
       obtain ⟨vs, k1, k2, k3⟩ := q2 i row hi
       rw [k3.len, k1]
      have hvs : ∃ f : Nat → Nat → Value, ∀ (i j : Nat) (row : List LV) (c : LV), xs[i]? = some row → row[j]? = some c → Cell w (fun _ => True) a (i * ti2.size + j) (f i j) ∧ Rel (fun _ => True) w (fun _ => none) (f i j) c := by
       refine ⟨fun i j => (w.cell? ⟨a.block, a.off + (i * ti2.size + j), none⟩).getD undef, fun i j row c hi hj => ?_⟩
       obtain ⟨v, hv, hr⟩ := hspot i j row c hi hj
       have : (w.cell? ⟨a.block, a.off + (i * ti2.size + j), none⟩).getD undef = v := by rw [hv.2.2]; rfl
       show Cell w (fun _ => True) a (i * ti2.size + j) ((w.cell? ⟨a.block, a.off + (i * ti2.size + j), none⟩).getD undef) ∧ Rel (fun _ => True) w (fun _ => none) ((w.cell? ⟨a.block, a.off + (i * ti2.size + j), none⟩).getD undef) c
       rw [this]; exact ⟨hv, hr⟩
      obtain ⟨f, hf⟩ := hvs
      have mem : ∀ row, row ∈ xs → ∃ vs, Opens T w e vs row := fun row hr => by
       obtain ⟨i, hi⟩ := List.getElem?_of_mem hr
       obtain ⟨vs, _, _, k3⟩ := q2 i row hi
       exact ⟨vs, k3⟩
      refine ⟨[.sl 1 xs], rfl, .sl t e xs hdsc om (fun row hr => ?_), by simp [LV.one], fun l hl => ?_, fun i v l hv hl => ?_⟩
      ·obtain ⟨vs, k3⟩ := mem row hr; exact k3.has
      ·simp at hl; subst hl
       refine .sl 1 xs fun row hr c hc => ?_
       obtain ⟨vs, k3⟩ := mem row hr; exact k3.data c hc
      ·cases i with
       | zero =>
        simp at hv hl; subst hv; subst hl
        rw [← q1]
        exact .sl a cap 1 ti2.size xs f (.inl rfl) om (fun row hr => ⟨hlen row hr, by obtain ⟨vs, k3⟩ := mem row hr; exact k3.one⟩) (fun i j row c hi hj => (hf i j row c hi hj).1) (fun i j row c hi hj => (hf i j row c hi hj).2)
       | succ i => simp at hl
    ·cases h
   ·cases h
  ·rw [hk] at hf; obtain ⟨gs, rfl, hg⟩ := hf
   have hsz : P.cellsOf t = ti.size := by simp [Program.cellsOf, g1, g2]
   have h' : (if cs.length = P.cellsOf t then (gs.toList.mapM fun f => DataW.trod enc P w 0 spare held fuel f.type ((cs.drop f.offset).take (P.cellsOf f.type))).map fun xs => (DataW.agg (xs.map (·.1)), xs.flatMap (·.2)) else none) = some (d, ps) := by
    split at h <;> first | (rename_i h1 h2; cases h1; done) | skip
    all_goals first | (rename_i h1; cases h1; done) | skip
    ·rename_i h1; cases h1; exact h
    ·exact (‹∀ (fs : Array Field), some (TypeDesc.struct gs) = some (TypeDesc.struct fs) → False› gs rfl).elim
   clear h
   split at h'
   ·rename_i hlen
    cases hm : (gs.toList.mapM fun f => DataW.trod enc P w 0 spare held fuel f.type ((cs.drop f.offset).take (P.cellsOf f.type))) with
    | none => rw [hm] at h'; simp at h'
    | some ys =>
     obtain ⟨_, hel⟩ := oR hm
     have fld : ∀ f, f ∈ fs → ∀ tf, T f.2 = some tf → ∃ ls, Opens T w f.2 ((cs.drop f.1).take tf.size) ls := by
      intro f hf tf htf
      rw [← hg] at hf
      obtain ⟨g, hgm, rfl⟩ := List.mem_map.1 hf
      obtain ⟨i, hi⟩ := List.getElem?_of_mem hgm
      obtain ⟨b, hb⟩ := hel i g hi
      obtain ⟨⟨info2, z2, j1, j2, _⟩, _, _, _⟩ := hT _ tf htf
      have hs2 : P.cellsOf g.type = tf.size := by simp [Program.cellsOf, j1, j2]
      rw [hs2] at hb
      exact opens hT hc fuel (d := b.1) (ps := b.2) (hfs _ (by rw [← hg]; exact hf)).1 hb
     obtain ⟨ls, k1, k2, k3, k4, k5⟩ := lS (T := T) (w := w) (cs := cs) (n := ti.size) (by rw [hlen, hsz]) fs 0 htile (Nat.zero_le _) fld
     simp only [List.drop_zero, Nat.sub_zero] at k1 k4 k5
     exact ⟨ls, by rw [k1, hlen, hsz], .st t ti fs ls hti hk k1 k5, k2, k3, k4⟩
   ·cases h'
def ArgsTy (T : TT) : List TypeId → List LV → Prop
 | [], [] => True
 | t :: ts, l :: ls => (HasC T t l.cells ∧ ((∃ ti, T t = some ti ∧ ti.agg = true) ∧ (∃ cs, l = .agg cs) ∨ (∃ ti, T t = some ti ∧ ti.agg = false) ∧ ∀ cs, l ≠ .agg cs)) ∧ ArgsTy T ts ls
 | _, _ => False
theorem Opens.value {w : World} {t : TypeId} {v : Value} {ls : List LV} {ti : TI} (hti : T t = some ti) (h : Opens T w t v.cells.toList ls) (hv : (∃ cs, v = .agg cs ∧ ti.agg = true) ∨ ((∀ cs, v ≠ .agg cs) ∧ ti.agg = false)) : ∃ l, Rel (fun _ => True) w (fun _ => none) v l ∧ Data l ∧ HasC T t l.cells ∧ ((∃ ti, T t = some ti ∧ ti.agg = true) ∧ (∃ cs, l = .agg cs) ∨ (∃ ti, T t = some ti ∧ ti.agg = false) ∧ ∀ cs, l ≠ .agg cs) := by
 rcases hv with ⟨cs, rfl, hg⟩ | ⟨hv, hna⟩
 ·refine ⟨.agg ls, .agg cs ls (by rw [h.len]; simp [Value.cells]) h.one fun i v l hv hl => h.rel i v l (by simpa [Value.cells] using hv) hl, .agg ls h.data, h.has, .inl ⟨⟨ti, hti, hg⟩, ls, rfl⟩⟩
 ·have hc : v.cells = #[v] := by cases v <;> first | rfl | exact absurd rfl (hv _)
  rw [hc] at h
  obtain ⟨h1, h2, h3, h4, h5⟩ := h
  match ls, h1 with
  | [l], _ =>
   have hl : l.cells = [l] := by have := h3 l (by simp); cases l <;> first | rfl | simp [LV.one] at this
   exact ⟨l, h5 0 v l rfl rfl, h4 l (by simp), by rw [hl]; exact h2, .inr ⟨⟨ti, hti, hna⟩, fun cs e => by have := h3 l (by simp); rw [e] at this; simp [LV.one] at this⟩⟩
theorem entry (hT : TypesOk P T) (hE : ∀ t, E t = true → EqOk P t) (hm : P.follows .mixedOrders = true) {ts : List TypeId} (hc : coverB T ts = true) {f : FuncId} {params : List TypeId} (hp : ∀ t, t ∈ params → t ∈ ts)
  (hrun : ∀ ls, ArgsTy T params ls → (∀ l, l ∈ ls → Data l) → Run P T E (.call f ls (.v (.bool true)))) {H : Type} {enc : TypeId × Value → H} {W : World} {spare : Nat → Bool} {held : Bool} {base : Nat} {args : Array Value} {ds : List (DataW H)} {p : List MemPlace}
  (hA : DataW.TrodAll enc P W 0 spare held params args.toList ds p) (hval : ∀ (j : Nat) t v, params[j]? = some t → args[j]? = some v → Value.okWide P W .any base t v) :
  Calls P f args W fun e W' => e = .returned (.bool true) ∧ Below W.heap.size W W' := by
 have key : ∀ (params : List TypeId) (vs : List Value) (ds : List (DataW H)) (p : List MemPlace), (∀ t, t ∈ params → t ∈ ts) → DataW.TrodAll enc P W 0 spare held params vs ds p → (∀ (j : Nat) t v, params[j]? = some t → vs[j]? = some v → Value.okWide P W .any base t v) →
   ∃ ls, ls.length = vs.length ∧ ArgsTy T params ls ∧ (∀ l, l ∈ ls → Data l) ∧ ∀ (i : Nat) (v : Value) (l : LV), vs[i]? = some v → ls[i]? = some l → Rel (fun _ => True) W (fun _ => none) v l := by
  intro params
  induction params with
  | nil =>
   intro vs ds p _ h _
   cases vs with
   | nil => exact ⟨[], rfl, trivial, by simp, by simp⟩
   | cons v vs => cases ds <;> simp [DataW.TrodAll] at h
  | cons t ts' ih =>
   intro vs ds p hp h hv
   cases vs with
   | nil => cases ds <;> simp [DataW.TrodAll] at h
   | cons v vs =>
    cases ds with
    | nil => simp [DataW.TrodAll] at h
    | cons d ds =>
     obtain ⟨p1, q1, ⟨fuel, h1⟩, h2, _⟩ := h
     obtain ⟨ls, k1, k2, k3, k4⟩ := ih vs ds q1 (fun t ht => hp t (by simp [ht])) h2 (fun j t v hj hvj => hv (j + 1) t v (by simpa using hj) (by simpa using hvj))
     obtain ⟨ti, hti, _⟩ := mF hc (hp t (by simp))
     obtain ⟨l0, hl0⟩ := opens hT hc fuel (hp t (by simp)) h1
     have hok := hv 0 t v rfl rfl
     obtain ⟨_, ⟨de, hu, hf⟩, _, _⟩ := hT t ti hti
     have hsh : (∃ cs, v = .agg cs ∧ ti.agg = true) ∨ ((∀ cs, v ≠ .agg cs) ∧ ti.agg = false) := by
      unfold Value.okWide at hok
      rw [hu] at hok
      unfold TI.agg
      cases hd : ti.desc <;> rw [hd] at hf <;> simp only [TD.fits] at hf
      case st fs => obtain ⟨gs, rfl, _⟩ := hf; obtain ⟨cs, rfl, _⟩ := hok; exact .inl ⟨cs, rfl, rfl⟩
      case arr n e => subst hf; obtain ⟨cs, rfl, _⟩ := hok; exact .inl ⟨cs, rfl, rfl⟩
      all_goals
       refine .inr ⟨fun cs hcs => ?_, rfl⟩
       subst hcs
       first | (obtain ⟨_, _, _, rfl⟩ := hf) | (obtain ⟨_, rfl⟩ := hf) | subst hf
       simp [Cell.okWide, Cell.ok, hu] at hok
     obtain ⟨l, g1, g2, g3⟩ := hl0.value hti hsh
     exact ⟨l :: ls, by simp [k1], ⟨g3, k2⟩, by simp; exact ⟨g2, k3⟩, fun i x y hx hy => by
      cases i with
      | zero => simp at hx hy; subst hx; subst hy; exact g1
      | succ i => simp at hx hy; exact k4 i x y hx hy⟩
 obtain ⟨ls, k1, k2, k3, k4⟩ := key params args.toList ds p hp hA (fun j t v hj hvj => hval j t v hj (by simpa using hvj))
 have hs := run_sound hT hE hm (hrun ls k2 k3)
 refine (hs.2 (fun _ => True) W args (fun _ _ => trivial) (by simp [k1]) fun i v l hv hl => k4 i v l (by simpa using hv) hl).mono ?_
 rintro e w' ⟨v, rfl, hr, hb⟩
 cases hr
 exact ⟨rfl, hb⟩
end Go.Ab
