/- Part D of the proof of discountOwn_holds: what it rests on. No condition. -/
import Derived.Test.YtcblgjaomljikaaOwnC
set_option linter.unusedVariables false
set_option linter.unusedSimpArgs false
set_option maxRecDepth 100000
namespace Go.Proofs.Ytcblgjaomljikaa
open Go.Ab Go.RowKit
theorem sub32_run (x y c : Nat) (hx : x < 4294967296) (hy : y < 4294967296) (hc : c ≤ 1) : Run Try.prog T E0 (.call 193 [.v (.int .u32 (x : Int)), .v (.int .u32 (y : Int)), .v (.int .u32 (c : Int))] (.tup [.v (.int .u32 ((((x + 8589934592 - y - c) % 4294967296) : Nat) : Int)), .v (.int .u32 ((if x < y + c then 1 else 0 : Nat) : Int))])) := by
 have hxy : x ^^^ y < 4294967296 := Nat.xor_lt_two_pow (n := 32) hx hy
 refine bK Try.func193 J J (dM J) <| Rg 2 J <| Ua J J <| Ua J J <| Wn <| Rg 6 J <| Um J J <| Um J J <| aA (oSub32 J J) J <| Um J J <| aA (cI (((((x + 8589934592 - y - c) % 4294967296) : Nat) : Int)) (oSub32 J J) om) J <| Ua J J <| Wn <| Rg 13 J <| Um J J <| aA (oCom32 (a := x) J hx) J <| Um J J <| aA (fJ (v := .int .u32 (((4294967295 - x) &&& y : Nat) : Int)) J J (and32 om hy)) J <| Um J J <| Um J J <| aA (fJ (v := .int .u32 ((x ^^^ y : Nat) : Int)) J J (xor32 hx hy)) J <| aA (oCom32 (a := x ^^^ y) J hxy) J <| Um J J <| aA (fJ (v := .int .u32 (((4294967295 - (x ^^^ y)) &&& ((x + 8589934592 - y - c) % 4294967296) : Nat) : Int)) J J (and32 om om)) J ?_
 refine aA (fJ (v := .int .u32 ((((4294967295 - x) &&& y) ||| ((4294967295 - (x ^^^ y)) &&& ((x + 8589934592 - y - c) % 4294967296)) : Nat) : Int)) J J (or32 (Nat.lt_of_le_of_lt Nat.and_le_right hy) (Nat.lt_of_le_of_lt Nat.and_le_left om))) J <| aA (cI (((if x < y + c then 1 else 0 : Nat) : Int)) (oShr32 (s := 31) J J om) (by rw [← borrow hx hy hc (d := ((x + 8589934592 - y - c) % 4294967296)) om]; rfl)) J <| Ua J J <| Nk [6,7] J <| aP ?_
 exact post (n := 0) (.inr J) J J (by simp)
theorem plus_run (k1 k2 : Nat) (xs ys : List Nat) (hx : Dg B32 xs) (hy : Dg B32 ys) (lx : xs.length < 1099511627776) (ly : ys.length < 1099511627776) : ∃ r, Run Try.prog T E0 (.call 141 [.sl k1 (xs.map d32), .sl k2 (ys.map d32)] r) ∧ ∃ ds, r = .sl 1 (ds.map d32) ∧ Dg B32 ds ∧ val B32 ds = val B32 xs + val B32 ys ∧ ds.length ≤ max xs.length ys.length + 1 := by
 refine gJ Try.func141 J J (dM J) ?_
 have J3 : ∀ (k1 k2 : Nat) (us ws : List Nat) (hu : Dg B32 us) (hw : Dg B32 ws) (hle : ws.length ≤ us.length) (hm : us.length ≤ max xs.length ys.length) (hs : val B32 us + val B32 ws = val B32 xs + val B32 ys) (n : Nat) , WC Try.prog T E0 Try.f141.ntmps (codeR (codeR (codeOf Try.f141))) [(0, .sl k1 (us.map d32)), (1, .sl k2 (ws.map d32))] [] n (fun x e h n => ∃ r, (∃ ds, r = .sl 1 (ds.map d32) ∧ Dg B32 ds ∧ val B32 ds = val B32 xs + val B32 ys ∧ ds.length ≤ max xs.length ys.length + 1) ∧ Post T Try.f141.results.toList r x e h n) := by
  intro k1 k2 us ws hu hw hle hm hs n
  refine Rg 5 J <| Um J J <| aA (bD J J) J <| aA (aV J J om) J <| bB (oMk (a := 0) (b := us.length + 1) J J J J J J (by decide) om (by show 4 * (us.length + 1) ≤ _; omega) om) J <| Ua J J <| Wn <| Rg 1 J <| Ua J J <| Wn <| aB <| Rg 3 J <| Um J J <| aA (bD J J) J <| Um J J <| Wn <| aI <| aX (α := Nat × Nat × (List Nat)) (fun ⟨c, q, ds⟩ => [(0, .sl k1 (us.map d32)), (1, .sl k2 (ws.map d32)), (5, .ref q 1 0 ds.length), (6, .v (.int .u32 (c : Int))), (22, .v (.int .i64 (us.length : Int))), (23, .v (.int .i64 (ds.length : Int)))]) (fun ⟨c, q, ds⟩ => [(q, { cells := (ds.map d32).flatten, sz := 1, elem := 189, st := 0 })]) (fun ⟨c, q, ds⟩ n => ds.length ≤ us.length ∧ Dg B32 ds ∧ c ≤ 1 ∧ val B32 ds + B32 ^ ds.length * c = val B32 (us.take ds.length) + val B32 (ws.take ds.length)) (fun ⟨c, q, ds⟩ => us.length - ds.length) (0, n + 3, []) ⟨J, J, J, J, J, J, trivial⟩ ⟨g0, trivial⟩ ⟨Nat.zero_le _, by intro d hd; simp at hd, om, by simp [val]⟩ ?_
  rintro ⟨c, q, ds⟩ n hF
  change WC _ _ _ _ _ (_ :: _) (_ :: _) n _
  obtain ⟨hdl, hdd, hc, hi⟩ := hF
  refine Rg 1 J <| aA (bU J J) J <| bE (fun h24 => ?_) (fun h24 => ?_)
  rotate_left
  ·refine Wn <| aT J <| aU <| aN <| aO J <| Rg 5 J <| Um J J <| Um J J <| aA (dJ (cs := [_]) (rows := [[_]]) J J (by decide) J J J) J <| bB (oApM (f := d32) J J J J J (fun _ => rfl) (by decide) g0 (by show (2 * (ds.length + 1) + 256) * 4 ≤ _; omega) om) J <| Ua J J <| Wn <| aP <| ⟨.sl 1 ((ds ++ [c]).map d32), ⟨_, rfl, hdd.snoc (by show c < 4294967296; omega), ?_, by simp; omega⟩, qP (n := 0) _ (.inr J) J (by simp) g0 (by show (0 : Nat) ≠ 2; decide) J (by decide) J gT dP⟩
   have hl : ds.length = us.length := by omega
   rw [iU, hi, List.take_of_length_le om, List.take_of_length_le om, hs]
  refine Wn <| aR J <| aE <| aI <| Rg 2 J <| Um J J <| Ua J J <| Wn <| Rg 1 J <| Ua J J <| Wn <| aB <| Rg 4 J <| Um J J <| Um J J <| aA (bD J J) J <| aA (bU J J) J <| bE (fun h29 => ?_) (fun h29 => ?_)
  rotate_left
  ·refine Wn <| aT J <| aE <| Rg 1 J <| Ua J J <| Nk [0,1,5,6,7,8,22,23] J ?_
   have hxl : us.getD ds.length default < 4294967296 := bQ hu om
   refine Rg 12 J <| Um J J <| Um J J <| aA (bS J J J J J om J) J <| aA (dL J J J) J <| Um J J <| Um J J <| aA (aK J (jD (us.getD ds.length default) 0 c hxl (by decide) hc) (by simp)) J <| Um J J <| aA (cW J J) J <| aA (cW J J) J <| Ua J J <| Ua J J <| Nk [0,1,5,6,9,22,23] J <| aJ (z := 5) J <| Um J J <| Um J J <| aA (dJ (cs := [_]) (rows := [[_]]) J J (by decide) J J J) J <| bB (oApM (f := d32) J J J J J (fun _ => rfl) (by decide) g0 (by show (2 * (ds.length + 1) + 256) * 4 ≤ _; omega) om) J <| Ua J J <| Wn <| aG <| aJ (z := 2) J ?_
   refine aA (cI (((ds.length + 1 : Nat) : Int)) (aV J J om) om) J <| Um J J <| Wn <| aF <| ⟨⟨_, _, ds ++ [_]⟩, ⟨rfl, rfl, rfl, rfl, rfl, congrArg some (by simp), trivial⟩, ⟨g0, trivial⟩, ⟨by simp; omega, hdd.snoc (Nat.mod_lt _ (by decide)), om, plus_step hi J (getD_out om).symm⟩, by simp; omega⟩
  refine Wn <| aR J <| Rg 5 J <| Um J J <| Um J J <| aA (bS J J J J J om J) J <| aA (dL J J J) J <| Ua J J <| Nk [0,1,5,6,7,8,22,23] J <| Rg 1 J <| Ua J J <| dA ?_
  have hxl : us.getD ds.length default < 4294967296 := bQ hu om
  have hyl : ws.getD ds.length default < 4294967296 := bQ hw om
  refine Rg 12 J <| Um J J <| Um J J <| aA (bS J J J J J om J) J <| aA (dL J J J) J <| Um J J <| Um J J <| aA (aK J (jD (us.getD ds.length default) (ws.getD ds.length default) c hxl hyl hc) (by simp)) J <| Um J J <| aA (cW J J) J <| aA (cW J J) J <| Ua J J <| Ua J J <| Nk [0,1,5,6,9,22,23] J <| aJ (z := 5) J <| Um J J <| Um J J <| aA (dJ (cs := [_]) (rows := [[_]]) J J (by decide) J J J) J <| bB (oApM (f := d32) J J J J J (fun _ => rfl) (by decide) g0 (by show (2 * (ds.length + 1) + 256) * 4 ≤ _; omega) om) J <| Ua J J <| Wn <| aG <| aJ (z := 2) J ?_
  refine aA (cI (((ds.length + 1 : Nat) : Int)) (aV J J om) om) J <| Um J J <| Wn <| aF <| ⟨⟨_, _, ds ++ [_]⟩, ⟨rfl, rfl, rfl, rfl, rfl, congrArg some (by simp), trivial⟩, ⟨g0, trivial⟩, ⟨by simp; omega, hdd.snoc (Nat.mod_lt _ (by decide)), om, plus_step hi J J⟩, by simp; omega⟩
 refine Rg 1 J <| Ua J J <| Wn <| aB <| Rg 5 J <| Um J J <| aA (bD J J) J <| Um J J <| aA (bD J J) J <| aA (bU J J) J <| bE (fun h14 => ?_) (fun h14 => ?_)
 rotate_left
 ·refine Wn <| aT J <| aE <| Ck [0,1] J ?_
  exact J3 _ _ xs ys hx hy om om J _
 refine Wn <| aR J <| Rg 4 J <| Um J J <| Um J J <| Ua J J <| Ua J J <| Nk [0,1] J ?_
 exact J3 _ _ ys xs hy hx om om om _
theorem lO (k1 k2 : Nat) (xs ys : List Nat) (hx : Dg B32 xs) (hy : Dg B32 ys) (lx : xs.length < 1099511627776) (hle : ys.length ≤ xs.length) (hv : val B32 ys ≤ val B32 xs) : ∃ r, Run Try.prog T E0 (.call 143 [.sl k1 (xs.map d32), .sl k2 (ys.map d32)] r) ∧ ∃ ds, r = .sl 1 (ds.map d32) ∧ Dg B32 ds ∧ val B32 ds = val B32 xs - val B32 ys ∧ ds.length = xs.length := by
 refine gJ Try.func143 J J (dM J) <| Rg 1 J <| Ua J J <| Wn <| Rg 4 J <| Um J J <| aA (bD J J) J <| bB (oMk (a := 0) (b := xs.length) J J J J J J (by decide) om (by show 4 * xs.length ≤ _; omega) om) J <| Ua J J <| Wn <| Rg 1 J <| Ua J J <| Wn <| aB <| Rg 3 J <| Um J J <| aA (bD J J) J <| Um J J <| Wn <| aI <| aX (α := Nat × Nat × (List Nat)) (fun ⟨c, q, ds⟩ => [(0, .sl k1 (xs.map d32)), (1, .sl k2 (ys.map d32)), (5, .ref q 1 0 ds.length), (6, .v (.int .u32 (c : Int))), (14, .v (.int .i64 (xs.length : Int))), (15, .v (.int .i64 (ds.length : Int)))]) (fun ⟨c, q, ds⟩ => [(q, { cells := (ds.map d32).flatten, sz := 1, elem := 189, st := 0 })]) (fun ⟨c, q, ds⟩ n => ds.length ≤ xs.length ∧ Dg B32 ds ∧ c ≤ 1 ∧ val B32 (xs.take ds.length) + B32 ^ ds.length * c = val B32 ds + val B32 (ys.take ds.length)) (fun ⟨c, q, ds⟩ => xs.length - ds.length) (0, 0 + 1 + 2, []) ⟨J, J, J, J, J, J, trivial⟩ ⟨g0, trivial⟩ ⟨Nat.zero_le _, by intro d hd; simp at hd, om, by simp [val]⟩ ?_
 rintro ⟨c, q, ds⟩ n hF
 change WC _ _ _ _ _ (_ :: _) (_ :: _) n _
 obtain ⟨hdl, hdd, hc, hi⟩ := hF
 refine Rg 1 J <| aA (bU J J) J <| bE (fun h16 => ?_) (fun h16 => ?_)
 rotate_left
 ·refine Wn <| aT J <| aU <| aN <| aO J <| Rg 2 J <| Um J J <| Ua J J <| Wn <| aP <| ⟨.sl 1 (ds.map d32), ⟨_, rfl, hdd, ?_, om⟩, qP (n := 0) _ (.inr J) J (by simp) g0 (by show (0 : Nat) ≠ 2; decide) J (by decide) J gT dP⟩
  have hl : ds.length = xs.length := by omega
  rw [List.take_of_length_le om, List.take_of_length_le om] at hi
  have hlt := fK (B := B32) (by decide) hdd
  rcases (show c = 0 ∨ c = 1 by omega) with rfl | rfl
  ·omega
  ·omega
 refine Wn <| aR J <| aE <| aI <| Rg 2 J <| Um J J <| Ua J J <| Wn <| Rg 1 J <| Ua J J <| Wn <| aB <| Rg 4 J <| Um J J <| Um J J <| aA (bD J J) J <| aA (bU J J) J <| bE (fun h21 => ?_) (fun h21 => ?_)
 rotate_left
 ·refine Wn <| aT J <| aE <| Rg 1 J <| Ua J J <| Nk [0,1,5,6,7,8,14,15] J ?_
  have hxl : xs.getD ds.length default < 4294967296 := bQ hx om
  refine Rg 12 J <| Um J J <| Um J J <| aA (bS J J J J J om J) J <| aA (dL J J J) J <| Um J J <| Um J J <| aA (aK J (sub32_run (xs.getD ds.length default) 0 c hxl (by decide) hc) (by simp)) J <| Um J J <| aA (cW J J) J <| aA (cW J J) J <| Ua J J <| Ua J J <| Nk [0,1,5,6,9,14,15] J <| aJ (z := 5) J <| Um J J <| Um J J <| aA (dJ (cs := [_]) (rows := [[_]]) J J (by decide) J J J) J <| bB (oApM (f := d32) J J J J J (fun _ => rfl) (by decide) g0 (by show (2 * (ds.length + 1) + 256) * 4 ≤ _; omega) om) J <| Ua J J <| Wn <| aG <| aJ (z := 2) J ?_
  refine aA (cI (((ds.length + 1 : Nat) : Int)) (aV J J om) om) J <| Um J J <| Wn <| aF <| ⟨⟨_, _, ds ++ [_]⟩, ⟨rfl, rfl, rfl, rfl, rfl, congrArg some (by simp), trivial⟩, ⟨g0, trivial⟩, ⟨by simp; omega, hdd.snoc (Nat.mod_lt _ (by decide)), by split <;> omega, rN hi J (getD_out om).symm (by show _ = _ + 4294967296 * _; split <;> omega)⟩, by simp; omega⟩
 refine Wn <| aR J <| Rg 5 J <| Um J J <| Um J J <| aA (bS J J J J J om J) J <| aA (dL J J J) J <| Ua J J <| Nk [0,1,5,6,7,8,14,15] J <| Rg 1 J <| Ua J J <| dA ?_
 have hxl : xs.getD ds.length default < 4294967296 := bQ hx om
 have hyl : ys.getD ds.length default < 4294967296 := bQ hy om
 refine Rg 12 J <| Um J J <| Um J J <| aA (bS J J J J J om J) J <| aA (dL J J J) J <| Um J J <| Um J J <| aA (aK J (sub32_run (xs.getD ds.length default) (ys.getD ds.length default) c hxl hyl hc) (by simp)) J <| Um J J <| aA (cW J J) J <| aA (cW J J) J <| Ua J J <| Ua J J <| Nk [0,1,5,6,9,14,15] J <| aJ (z := 5) J <| Um J J <| Um J J <| aA (dJ (cs := [_]) (rows := [[_]]) J J (by decide) J J J) J <| bB (oApM (f := d32) J J J J J (fun _ => rfl) (by decide) g0 (by show (2 * (ds.length + 1) + 256) * 4 ≤ _; omega) om) J <| Ua J J <| Wn <| aG <| aJ (z := 2) J ?_
 refine aA (cI (((ds.length + 1 : Nat) : Int)) (aV J J om) om) J <| Um J J <| Wn <| aF <| ⟨⟨_, _, ds ++ [_]⟩, ⟨rfl, rfl, rfl, rfl, rfl, congrArg some (by simp), trivial⟩, ⟨g0, trivial⟩, ⟨by simp; omega, hdd.snoc (Nat.mod_lt _ (by decide)), by split <;> omega, rN hi J J (by show _ = _ + 4294967296 * _; split <;> omega)⟩, by simp; omega⟩
theorem eY (s : Int) (k : Nat) (ds : List Nat) (hs : s = 1 ∨ s = -1 ∨ s = 0 ∧ val B32 ds = 0) (hk : k = 1 ∨ k = 2) (hd : Dg B32 ds) (hl : ds.length < 4611686018427387904) : Run Try.prog T E0 (.call 140 [.v (.int .i64 s), .sl k (ds.map d32)] (lvI (s * val B32 ds))) := by
 have hkk : (if k = 0 then 0 else 1) = 1 := by rw [if_neg om]
 have htd := trim_dg hd
 have hrun := lD k ds om hl
 rw [hkk] at hrun
 have htl : (trim ds).length ≤ ds.length := by
  unfold trim; simpa using (List.dropWhile_sublist (· == 0) (l := ds.reverse)).length_le
 generalize hes : trim ds = es at *
 refine bK Try.func140 J J (dM J) <| Rg 1 J <| bB (dS J) J <| Wn <| Rg 3 J <| Um J J <| aA (aK J (hrun) (by simp)) J <| Ua J J <| Wn <| aB <| Rg 3 J <| Um J J <| aA (bD J J) J <| aA (oLeq J J) J <| bE (fun h12 => ?_) (fun h12 => ?_)
 rotate_left
 ·refine Wn <| aT J <| aE <| Rg 4 J <| Um J J <| Um J J <| aA (kH (cs := [_, _]) J J J J J) J <| aZ (cO (cs' := [_, _]) J J J J J J J J) <| Wn <| aP <| post (n := 0) (.inr J) J ?_ (by simp)
  have hb := val_big hd (by rw [hes]; omega)
  rw [lvI_made hd (by have : val B32 ds = val 4294967296 ds := rfl; omega) hb, hes]; rfl
 refine Wn <| aR J <| aB <| Rg 1 J <| Ua J J <| Wn <| aB <| aB <| Rg 3 J <| Um J J <| aA (bD J J) J <| Um J J <| Wn <| aI <| aX (α := Nat × Nat) (fun ⟨i, m⟩ => [(0, .v (.int .i64 s)), (1, .sl 1 (es.map d32)), (4, .ptr 0 0), (5, .v (.int .u64 (m : Int))), (13, .sl 1 (es.map d32)), (14, .v (.int .i64 (es.length : Int))), (15, .v (.int .i64 (i : Int)))]) (fun ⟨i, m⟩ => [(0, { cells := [.v (.int .i64 0), .sl 0 []], sz := 2, elem := 112, st := 0 })]) (fun ⟨i, m⟩ n => i ≤ es.length ∧ m = val B32 (es.take i)) (fun ⟨i, m⟩ => es.length - i) (0, 0) ⟨J, J, J, J, J, J, J, trivial⟩ ⟨J, trivial⟩ ⟨Nat.zero_le _, by simp [val]⟩ ?_
 rintro ⟨i, m⟩ n hF
 change WC _ _ _ _ _ (_ :: _) (_ :: _) n _
 obtain ⟨hi, hm⟩ := hF
 refine Rg 1 J <| aA (bU J J) J <| bE (fun h16 => ?_) (fun h16 => ?_)
 ·refine Wn <| aR J <| aE <| aI <| Rg 5 J <| Um J J <| aA (bS J J J J J om J) J <| aA (dL J J J) J <| Ua J J <| Ua J J <| dA ?_
  have hxl : es.getD i default < 4294967296 := bQ htd om
  have hml : m < 4294967296 ^ i := by
   have := fK (B := 4294967296) (by decide) (htd.take i)
   rw [List.length_take, Nat.min_eq_left hi] at this
   rw [hm]; exact this
  refine aJ (z := 8) J <| Um J J <| Um J J <| aA (cI (((es.getD i default : Nat) : Int)) (cE J J J) (by rw [IntKind.wrap_u64]; omega)) J <| Um J J <| aA (cI (((32 * i : Nat) : Int)) (mL J J om) om) J <| aA (cI (((es.getD i default * 4294967296 ^ i : Nat) : Int)) (oShlU (s := 32 * i) J J om) (shl_dig om hxl)) J <| aA (fJ (v := .int .u64 ((m + 4294967296 ^ i * es.getD i default : Nat) : Int)) J J (or_dig om hxl hml)) J <| Ua J J <| Wn <| aG <| Ck [0,1,4,5,13,14,15] J <| aJ (z := 2) J <| aA (cI (((i + 1 : Nat) : Int)) (aV J J om) om) J <| Um J J <| Wn <| aF <| ⟨⟨i + 1, _⟩, ⟨J, J, J, J, J, J, J, trivial⟩, ⟨J, trivial⟩, ⟨om, ?_⟩, by show es.length - (i + 1) < es.length - i; omega⟩
  rw [cV, hm]
 refine Wn <| aT J <| aU <| aN <| aO J <| aB <| Rg 2 J <| Um J J <| aA (bU J J) J <| bE (fun h29 => ?_) (fun h29 => ?_)
 rotate_left
 ·refine Wn <| aT J <| aE <| Rg 4 J <| Um J J <| Um J J <| aA (kH (cs := [_, _]) J J J J J) J <| aZ (cO (cs' := [_, _]) J J J J J J J J) <| Wn <| aP ?_
  have hE : m = val B32 ds := by
   rw [hm, List.take_of_length_le om, ← hes, trim_val]
  refine post (n := 0) (.inr J) J ?_ (by simp)
  rw [lvI_made hd om (by show 4611686018427387904 ≤ val B32 ds; omega), hes]; rfl
 refine Wn <| aR J <| aB <| Rg 6 J <| Um J J <| Um J J <| aA (cI ((m : Int)) (cE J J J) (by rw [IntWalk.i64_in _ om])) J <| aA (mL J J (by rcases hs with rfl | rfl | ⟨rfl, _⟩ <;> omega)) J <| aA (kH (cs := [_, _]) J J J J J) J <| aZ (cO (cs' := [_, _]) J J J J J J J J) <| Nk [4] J <| bC ?_
 have hE : m = val B32 ds := by
  rw [hm, List.take_of_length_le om, ← hes, trim_val]
 refine post (n := 0) (.inr J) J ?_ (by simp)
 rw [jJ (by unfold small; rw [← hE]; rcases hs with rfl | rfl | ⟨rfl, _⟩ <;> omega), ← hE]; rfl
end Go.Proofs.Ytcblgjaomljikaa
namespace Go.Proofs.Ytcblgjaomljikaa
open Go.Ab Go.RowKit
theorem ia0 {v : Int} (h : v.sign = 0) : v = 0 := Int.sign_eq_zero_iff_zero.1 h
theorem add_run (v w : Int) (hv : len32 v < 1099511627775) (hw : len32 w < 1099511627775) : Run Try.prog T E0 (.call 67 [lvI v, lvI w] (lvI (v + w))) := by
 have bv := pJ v
 have bw := pJ w
 have ev := fY v
 have ew := fY w
 have dv := hY (B := B32) (by decide) v.natAbs
 have dw := hY (B := B32) (by decide) w.natAbs
 have qv := kO (B := B32) (by decide) v.natAbs
 have qw := kO (B := B32) (by decide) w.natAbs
 have tv := dgs_tr (B := B32) (by decide) v.natAbs
 have tw := dgs_tr (B := B32) (by decide) w.natAbs
 have lv : (dgs B32 v.natAbs).length < 1099511627775 := hv
 have lw : (dgs B32 w.natAbs).length < 1099511627775 := hw
 refine bK Try.func67 J J (dM J) <| Rg 3 J <| bB (eG J J) J <| bB (eG J J) J <| bB (dS J) J <| Wn <| aB <| Rg 8 J <| aA (bH J J J J J) J <| aA (aL J J J J J) J <| aA (mE J J) J <| fT (fun h11 => ?_) (fun h11 => ?_)
 rotate_left
 ·refine Um J J <| K1 J J <| K1 J J <| K1 J J <| aA (cG J J) J <| Wn <| aT J <| aE <| Rg 7 J <| aA (aL (l := .agg [_, _]) J J J J J) J <| aA (aK J (eV _) (by simp)) J <| Um J J <| aA (cW J J) J <| aA (cW J J) J <| Ua J J <| Ua J J <| Nk [2,3,4,5,6] J <| Rg 7 J <| aA (aL (l := .agg [_, _]) J J J J J) J <| aA (aK J (eV _) (by simp)) J <| Um J J <| aA (cW J J) J <| aA (cW J J) J ?_
  refine Ua J J <| Ua J J <| Wn <| aI <| Rg 3 J <| Um J J <| aA (gB J J) J <| bE (fun h35 => ?_) (fun h35 => ?_)
  ·refine Ua J J <| Nk [2,3,4,5,6,7,8,33] J <| cL J <| Rg 2 J <| aA (aL (l := .agg [_, _]) J J J J J) J <| aZ (cO (cs' := [_, _]) J J J J J J J J) <| Wn <| aP <| aS <| post (n := 0) (.inr J) J ?_ (by simp)
   rw [ia0 h35, Int.zero_add]; rfl
  refine Ua J J <| Nk [2,3,4,5,6,7,8,33] J <| cH J <| Rg 3 J <| Um J J <| aA (gB J J) J <| bE (fun h39 => ?_) (fun h39 => ?_)
  ·refine Ua J J <| Wn <| cL J <| Rg 2 J <| aA (aL (l := .agg [_, _]) J J J J J) J <| aZ (cO (cs' := [_, _]) J J J J J J J J) <| Wn <| aP <| aS <| post (n := 0) (.inr J) J ?_ (by simp)
   rw [ia0 h39, Int.add_zero]; rfl
  refine Ua J J <| Wn <| cH J <| Rg 4 J <| Um J J <| Um J J <| aA (gB J J) J <| bE (fun h44 => ?_) (fun h44 => ?_)
  ·refine Ua J J <| Nk [4,5,6,7,8,41] J <| cL J ?_
   have hsv : v.sign = 1 ∨ v.sign = -1 := by rcases Int.sign_trichotomy v with h | h | h <;> omega
   obtain ⟨r, hr, ds, rfl, hdd, hvl, hln⟩ := plus_run 1 1 _ _ qv qw om om
   refine Rg 6 J <| Um J J <| Um J J <| Um J J <| aA (aK J (hr) (by simp)) J <| aA (aK J (eY v.sign 1 ds om (.inl J) hdd om) (by simp)) J <| aZ (cO (cs' := [_, _]) J J J J J J J J) <| Wn <| aP <| aS <| post (n := 0) (.inr J) J ?_ (by simp)
   have : v.sign * (val B32 ds : Int) = v + w := by
    rw [hvl, dv, dw]; rcases hsv with h | h <;> rw [h] at ev h44 ⊢ <;> rw [← h44] at ew <;> omega
   rw [this]; rfl
  refine Ua J J <| Nk [4,5,6,7,8,41] J <| cH J <| Rg 5 J <| Um J J <| Um J J <| aA (aK J (kL 1 1 _ _ qv qw tv tw om om) (by simp)) J <| aA (mK J J) J <| bE (fun h54 => ?_) (fun h54 => ?_)
  ·refine Ua J J <| Wn <| cL J ?_
   have hsv : v.sign = 1 ∨ v.sign = -1 := by rcases Int.sign_trichotomy v with h | h | h <;> omega
   have hge : val B32 (dgs B32 w.natAbs) ≤ val B32 (dgs B32 v.natAbs) := by
    rcases Nat.lt_or_ge (val B32 (dgs B32 v.natAbs)) (val B32 (dgs B32 w.natAbs)) with h | h
    ·rw [Int.sign_eq_neg_one_of_neg om] at h54; omega
    ·exact h
   have hll : (dgs B32 w.natAbs).length ≤ (dgs B32 v.natAbs).length := by
    rcases Nat.lt_or_ge (dgs B32 v.natAbs).length (dgs B32 w.natAbs).length with h | h
    ·have := fL (by decide) qv tw h; omega
    ·exact h
   obtain ⟨r, hr, ds, rfl, hdd, hvl, hln⟩ := lO 1 1 _ _ qv qw om hll hge
   refine Rg 6 J <| Um J J <| Um J J <| Um J J <| aA (aK J (hr) (by simp)) J <| aA (aK J (eY v.sign 1 ds om (.inl J) hdd om) (by simp)) J <| aZ (cO (cs' := [_, _]) J J J J J J J J) <| Nk [4] J <| aP <| aS <| post (n := 0) (.inr J) J ?_ (by simp)
   have : v.sign * (val B32 ds : Int) = v + w := by
    rw [hvl, dv, dw] at *; rcases hsv with h | h <;> rw [h] at ev h44 ⊢ <;> rcases (show w.sign = 1 ∨ w.sign = -1 by rcases Int.sign_trichotomy w with h | h | h <;> omega) with k | k <;> rw [k] at ew h44 <;> omega
   rw [this]; rfl
  refine Ua J J <| Wn <| cH J <| cM <| aG ?_
  have hsv : w.sign = 1 ∨ w.sign = -1 := by rcases Int.sign_trichotomy w with h | h | h <;> omega
  have hge : val B32 (dgs B32 v.natAbs) ≤ val B32 (dgs B32 w.natAbs) := by
   rcases Nat.lt_or_ge (val B32 (dgs B32 w.natAbs)) (val B32 (dgs B32 v.natAbs)) with h | h
   ·rw [Int.sign_eq_one_of_pos om] at h54; omega
   ·exact h
  have hll : (dgs B32 v.natAbs).length ≤ (dgs B32 w.natAbs).length := by
   rcases Nat.lt_or_ge (dgs B32 w.natAbs).length (dgs B32 v.natAbs).length with h | h
   ·have := fL (by decide) qw tv h; omega
   ·exact h
  obtain ⟨r, hr, ds, rfl, hdd, hvl, hln⟩ := lO 1 1 _ _ qw qv om hll hge
  refine Rg 6 J <| Um J J <| Um J J <| Um J J <| aA (aK J (hr) (by simp)) J <| aA (aK J (eY w.sign 1 ds om (.inl J) hdd om) (by simp)) J <| aZ (cO (cs' := [_, _]) J J J J J J J J) <| Nk [4] J <| aP <| post (n := 0) (.inr J) J ?_ (by simp)
  have : w.sign * (val B32 ds : Int) = v + w := by
   rw [hvl, dv, dw] at *; rcases hsv with h | h <;> rw [h] at ew h44 ⊢ <;> rcases (show v.sign = 1 ∨ v.sign = -1 by rcases Int.sign_trichotomy v with h | h | h <;> omega) with k | k <;> rw [k] at ev h44 <;> omega
  rw [this]; rfl
 refine Um J J <| aM J (bH J J J J J) J <| aM J (aL J J J J J) J <| aM J (mE J J) J <| fT (fun h15 => ?_) (fun h15 => ?_)
 ·refine aA (bW J J) J <| Wn <| aR J <| aB <| Rg 7 J <| aA (bH J J J J J) J <| aA (aL J J J J J) J <| aA (bH J J J J J) J <| aA (aL J J J J J) J <| aA (aV J J om) J <| aA (aK J (oU _ om) (by simp)) J <| aZ (cO (cs' := [_, _]) J J J J J J J J) <| Nk [4] J <| bC <| post (n := 0) (.inr J) J ?_ (by simp)
  rw [dH (pK.1 h11), dH (pK.1 h15)]; rfl
 refine aA (bW J J) J <| Wn <| aT J <| aE <| Rg 7 J <| aA (aL (l := .agg [_, _]) J J J J J) J <| aA (aK J (eV _) (by simp)) J <| Um J J <| aA (cW J J) J <| aA (cW J J) J <| Ua J J <| Ua J J <| Nk [2,3,4,5,6] J <| Rg 7 J <| aA (aL (l := .agg [_, _]) J J J J J) J <| aA (aK J (eV _) (by simp)) J <| Um J J <| aA (cW J J) J <| aA (cW J J) J <| Ua J J <| Ua J J <| Wn <| aI ?_
 refine Rg 3 J <| Um J J <| aA (gB J J) J <| bE (fun h35 => ?_) (fun h35 => ?_)
 ·refine Ua J J <| Nk [2,3,4,5,6,7,8,33] J <| cL J <| Rg 2 J <| aA (aL (l := .agg [_, _]) J J J J J) J <| aZ (cO (cs' := [_, _]) J J J J J J J J) <| Wn <| aP <| aS <| post (n := 0) (.inr J) J ?_ (by simp)
  rw [ia0 h35, Int.zero_add]; rfl
 refine Ua J J <| Nk [2,3,4,5,6,7,8,33] J <| cH J <| Rg 3 J <| Um J J <| aA (gB J J) J <| bE (fun h39 => ?_) (fun h39 => ?_)
 ·refine Ua J J <| Wn <| cL J <| Rg 2 J <| aA (aL (l := .agg [_, _]) J J J J J) J <| aZ (cO (cs' := [_, _]) J J J J J J J J) <| Wn <| aP <| aS <| post (n := 0) (.inr J) J ?_ (by simp)
  rw [ia0 h39, Int.add_zero]; rfl
 refine Ua J J <| Wn <| cH J <| Rg 4 J <| Um J J <| Um J J <| aA (gB J J) J <| bE (fun h44 => ?_) (fun h44 => ?_)
 ·refine Ua J J <| Nk [4,5,6,7,8,41] J <| cL J ?_
  have hsv : v.sign = 1 ∨ v.sign = -1 := by rcases Int.sign_trichotomy v with h | h | h <;> omega
  obtain ⟨r, hr, ds, rfl, hdd, hvl, hln⟩ := plus_run 1 1 _ _ qv qw om om
  refine Rg 6 J <| Um J J <| Um J J <| Um J J <| aA (aK J (hr) (by simp)) J <| aA (aK J (eY v.sign 1 ds om (.inl J) hdd om) (by simp)) J <| aZ (cO (cs' := [_, _]) J J J J J J J J) <| Wn <| aP <| aS <| post (n := 0) (.inr J) J ?_ (by simp)
  have : v.sign * (val B32 ds : Int) = v + w := by
   rw [hvl, dv, dw]; rcases hsv with h | h <;> rw [h] at ev h44 ⊢ <;> rw [← h44] at ew <;> omega
  rw [this]; rfl
 refine Ua J J <| Nk [4,5,6,7,8,41] J <| cH J <| Rg 5 J <| Um J J <| Um J J <| aA (aK J (kL 1 1 _ _ qv qw tv tw om om) (by simp)) J <| aA (mK J J) J <| bE (fun h54 => ?_) (fun h54 => ?_)
 ·refine Ua J J <| Wn <| cL J ?_
  have hsv : v.sign = 1 ∨ v.sign = -1 := by rcases Int.sign_trichotomy v with h | h | h <;> omega
  have hge : val B32 (dgs B32 w.natAbs) ≤ val B32 (dgs B32 v.natAbs) := by
   rcases Nat.lt_or_ge (val B32 (dgs B32 v.natAbs)) (val B32 (dgs B32 w.natAbs)) with h | h
   ·rw [Int.sign_eq_neg_one_of_neg om] at h54; omega
   ·exact h
  have hll : (dgs B32 w.natAbs).length ≤ (dgs B32 v.natAbs).length := by
   rcases Nat.lt_or_ge (dgs B32 v.natAbs).length (dgs B32 w.natAbs).length with h | h
   ·have := fL (by decide) qv tw h; omega
   ·exact h
  obtain ⟨r, hr, ds, rfl, hdd, hvl, hln⟩ := lO 1 1 _ _ qv qw om hll hge
  refine Rg 6 J <| Um J J <| Um J J <| Um J J <| aA (aK J (hr) (by simp)) J <| aA (aK J (eY v.sign 1 ds om (.inl J) hdd om) (by simp)) J <| aZ (cO (cs' := [_, _]) J J J J J J J J) <| Nk [4] J <| aP <| aS <| post (n := 0) (.inr J) J ?_ (by simp)
  have : v.sign * (val B32 ds : Int) = v + w := by
   rw [hvl, dv, dw] at *; rcases hsv with h | h <;> rw [h] at ev h44 ⊢ <;> rcases (show w.sign = 1 ∨ w.sign = -1 by rcases Int.sign_trichotomy w with h | h | h <;> omega) with k | k <;> rw [k] at ew h44 <;> omega
  rw [this]; rfl
 refine Ua J J <| Wn <| cH J <| cM <| aG ?_
 have hsv : w.sign = 1 ∨ w.sign = -1 := by rcases Int.sign_trichotomy w with h | h | h <;> omega
 have hge : val B32 (dgs B32 v.natAbs) ≤ val B32 (dgs B32 w.natAbs) := by
  rcases Nat.lt_or_ge (val B32 (dgs B32 w.natAbs)) (val B32 (dgs B32 v.natAbs)) with h | h
  ·rw [Int.sign_eq_one_of_pos om] at h54; omega
  ·exact h
 have hll : (dgs B32 v.natAbs).length ≤ (dgs B32 w.natAbs).length := by
  rcases Nat.lt_or_ge (dgs B32 w.natAbs).length (dgs B32 v.natAbs).length with h | h
  ·have := fL (by decide) qw tv h; omega
  ·exact h
 obtain ⟨r, hr, ds, rfl, hdd, hvl, hln⟩ := lO 1 1 _ _ qw qv om hll hge
 refine Rg 6 J <| Um J J <| Um J J <| Um J J <| aA (aK J (hr) (by simp)) J <| aA (aK J (eY w.sign 1 ds om (.inl J) hdd om) (by simp)) J <| aZ (cO (cs' := [_, _]) J J J J J J J J) <| Nk [4] J <| aP <| post (n := 0) (.inr J) J ?_ (by simp)
 have : w.sign * (val B32 ds : Int) = v + w := by
  rw [hvl, dv, dw] at *; rcases hsv with h | h <;> rw [h] at ew h44 ⊢ <;> rcases (show v.sign = 1 ∨ v.sign = -1 by rcases Int.sign_trichotomy v with h | h | h <;> omega) with k | k <;> rw [k] at ev h44 <;> omega
 rw [this]; rfl
end Go.Proofs.Ytcblgjaomljikaa
namespace Go.Proofs.Ytcblgjaomljikaa
open Go.Ab Go.RowKit
theorem mul64_run (x y : Nat) (hx : x < 18446744073709551616) (hy : y < 18446744073709551616) : Run Try.prog T E0 (.call 144 [.v (.int .u64 (x : Int)), .v (.int .u64 (y : Int))] (.tup [.v (.int .u64 ((x * y / 18446744073709551616 : Nat) : Int)), .v (.int .u64 ((x * y % 18446744073709551616 : Nat) : Int))])) := by
 obtain ⟨p00, h00⟩ : ∃ p, p = (x % 4294967296) * (y % 4294967296) := ⟨_, rfl⟩
 obtain ⟨p10, h10⟩ : ∃ p, p = (x / 4294967296) * (y % 4294967296) := ⟨_, rfl⟩
 obtain ⟨p01, h01⟩ : ∃ p, p = (x % 4294967296) * (y / 4294967296) := ⟨_, rfl⟩
 obtain ⟨p11, h11⟩ : ∃ p, p = (x / 4294967296) * (y / 4294967296) := ⟨_, rfl⟩
 have b00 := iA (a := x % 4294967296) (b := y % 4294967296) om om
 have b10 := iA (a := x / 4294967296) (b := y % 4294967296) om om
 have b01 := iA (a := x % 4294967296) (b := y / 4294967296) om om
 have b11 := iA (a := x / 4294967296) (b := y / 4294967296) om om
 have hxy := mul_words h00 h10 h01 h11
 rw [← h00] at b00
 rw [← h10] at b10
 rw [← h01] at b01
 rw [← h11] at b11
 refine bK Try.func144 J J (dM J) <| Rg 2 J <| Ua J J <| Ua J J <| Wn <| Rg 3 J <| Um J J <| aA (fJ (v := .int .u64 ((x % 4294967296 : Nat) : Int)) J J (mask32 hx)) J <| Ua J J <| Wn <| Rg 3 J <| Um J J <| aA (cI (((x / 4294967296 : Nat) : Int)) (eP (s := 32) J J om) om) J <| Ua J J <| Wn <| Rg 3 J <| Um J J <| aA (fJ (v := .int .u64 ((y % 4294967296 : Nat) : Int)) J J (mask32 hy)) J <| Ua J J <| Wn <| Rg 3 J <| Um J J <| aA (cI (((y / 4294967296 : Nat) : Int)) (eP (s := 32) J J om) om) J <| Ua J J ?_
 refine Nk [0,1,6,7,8,9] J <| Rg 4 J <| Um J J <| Um J J <| aA (cI ((p00 : Int)) (mD J J) (by rw [← Int.natCast_mul, ← h00]; omega)) J <| Ua J J <| Wn <| Rg 7 J <| Um J J <| Um J J <| aA (cI ((p10 : Int)) (mD J J) (by rw [← Int.natCast_mul, ← h10]; omega)) J <| Um J J <| aA (cI (((p00 / 4294967296 : Nat) : Int)) (eP (s := 32) J J om) om) J <| aA (cI (((p10 + p00 / 4294967296 : Nat) : Int)) (jK J J) om) J <| Ua J J <| Nk [0,1,6,7,9,11] J <| Rg 3 J <| Um J J <| aA (fJ (v := .int .u64 (((p10 + p00 / 4294967296) % 4294967296 : Nat) : Int)) J J (mask32 om)) J <| Ua J J <| Wn <| Rg 3 J ?_
 refine Um J J <| aA (cI ((((p10 + p00 / 4294967296) / 4294967296 : Nat) : Int)) (eP (s := 32) J J om) om) J <| Ua J J <| Wn <| Rg 6 J <| Um J J <| Um J J <| Um J J <| aA (cI ((p01 : Int)) (mD J J) (by rw [← Int.natCast_mul, ← h01]; omega)) J <| aA (cI ((((p10 + p00 / 4294967296) % 4294967296 + p01 : Nat) : Int)) (jK J J) om) J <| Ua J J <| Nk [0,1,7,9,12,13] J <| Rg 9 J <| Um J J <| Um J J <| aA (cI ((p11 : Int)) (mD J J) (by rw [← Int.natCast_mul, ← h11]; omega)) J <| Um J J <| aA (cI (((p11 + (p10 + p00 / 4294967296) / 4294967296 : Nat) : Int)) (jK J J) om) J <| Um J J <| aA (cI (((((p10 + p00 / 4294967296) % 4294967296 + p01) / 4294967296 : Nat) : Int)) (eP (s := 32) J J om) om) J <| aA (cI (((x * y / 18446744073709551616 : Nat) : Int)) (jK J J) (by rw [hxy]; omega)) J <| Ua J J <| dA ?_
 refine Ck [0,1,4] J <| Rg 4 J <| Um J J <| Um J J <| aA (cI (((x * y % 18446744073709551616 : Nat) : Int)) (mD J J) (by rw [← Int.natCast_mul]; rfl)) J <| Ua J J <| Wn <| aP ?_
 exact post (n := 0) (.inr J) J J (by simp)
theorem fD (v w : Int) (hv : len32 v < 549755813888) (hw : len32 w < 549755813888) : Run Try.prog T E0 (.call 68 [lvI v, lvI w] (lvI (v * w))) := by
 have bv := pJ v
 have bw := pJ w
 have ev := fY v
 have ew := fY w
 have evw : v * w = v.sign * w.sign * ((v.natAbs * w.natAbs : Nat) : Int) := by
  rw [Int.natCast_mul]; grind
 obtain ⟨σ, hσ⟩ : ∃ σ, σ = v.sign * w.sign := ⟨_, rfl⟩
 have hs3 : σ = 1 ∨ σ = -1 ∨ σ = 0 ∧ v.natAbs * w.natAbs = 0 := by
  rcases Int.sign_trichotomy v with h | h | h <;> rcases Int.sign_trichotomy w with k | k | k <;> rw [h, k] at hσ <;> simp at hσ <;> first | exact .inl hσ | exact .inr (.inl hσ) | skip
  all_goals (refine .inr (.inr ⟨hσ, ?_⟩); first | (rw [ia0 h]; simp; done) | (rw [ia0 k]; simp))
 rw [← hσ] at evw
 obtain ⟨xs, hxs⟩ : ∃ xs, xs = dgs B32 v.natAbs := ⟨_, rfl⟩
 obtain ⟨ys, hys⟩ : ∃ ys, ys = dgs B32 w.natAbs := ⟨_, rfl⟩
 have dv : val B32 xs = v.natAbs := by rw [hxs]; exact hY (by decide) _
 have dw : val B32 ys = w.natAbs := by rw [hys]; exact hY (by decide) _
 have qv : Dg B32 xs := by rw [hxs]; exact kO (by decide) _
 have qw : Dg B32 ys := by rw [hys]; exact kO (by decide) _
 have lv : xs.length < 549755813888 := by rw [hxs]; exact hv
 have lw : ys.length < 549755813888 := by rw [hys]; exact hw
 refine bK Try.func68 J J (dM J) ?_
 have J5 : ∀  (n : Nat) (hn : 3 ≤ n), WC Try.prog T E0 Try.f68.ntmps (codeR (codeR (codeOf Try.f68))) [(2, .ptr 0 0), (3, .ptr 1 0), (4, .ptr 2 0)] [(2, { cells := [.v (.int .i64 0), .sl 0 []], sz := 2, elem := 112, st := 0 }), (1, { cells := (lvI w).cells, sz := (lvI w).cells.length, elem := 112, st := 0 }), (0, { cells := (lvI v).cells, sz := (lvI v).cells.length, elem := 112, st := 0 })] n (Post T Try.f68.results.toList (lvI (v * w))) := by
  intro  n hn
  refine Rg 7 J <| aA (aL (l := .agg [_, _]) J J J J J) J <| aA (aK J ((hxs ▸ eV v)) (by simp)) J <| Um J J <| aA (cW J J) J <| aA (cW J J) J <| Ua J J <| Ua J J <| Wn <| Rg 7 J <| aA (aL (l := .agg [_, _]) J J J J J) J <| aA (aK J ((hys ▸ eV w)) (by simp)) J <| Um J J <| aA (cW J J) J <| aA (cW J J) J <| Ua J J <| Ua J J <| Nk [4,7,8,9,10] J <| Rg 7 J <| Um J J <| aA (bD J J) J <| Um J J <| aA (bD J J) J ?_
  refine aA (aV J J om) J <| bB (oMk (a := xs.length + ys.length) (b := xs.length + ys.length) J J J J om om (by decide) om (by show 4 * (xs.length + ys.length) ≤ _; omega) om) J <| Ua J J <| Wn <| aB <| Rg 3 J <| Um J J <| aA (bD J J) J <| Um J J <| Nk [4,7,9,10,11,74,75,76] J <| aI <| aX (α := Nat × Nat × (List Nat)) (fun ⟨i, q, us⟩ => [(4, .ptr 2 0), (7, .v (.int .i64 v.sign)), (9, .v (.int .i64 w.sign)), (10, .sl 1 (ys.map d32)), (11, .ref q 1 0 us.length), (74, .sl 1 (xs.map d32)), (75, .v (.int .i64 (xs.length : Int))), (76, .v (.int .i64 (i : Int)))]) (fun ⟨i, q, us⟩ => [(q, { cells := (us.map d32).flatten, sz := 1, elem := 189, st := 0 }), (2, { cells := [.v (.int .i64 0), .sl 0 []], sz := 2, elem := 112, st := 0 })]) (fun ⟨i, q, us⟩ n => i ≤ xs.length ∧ us.length = xs.length + ys.length ∧ Dg B32 us ∧ val B32 us = val B32 (xs.take i) * val B32 ys ∧ (∀ j, i + ys.length ≤ j → us.getD j default = 0) ∧ 2 < q) (fun ⟨i, q, us⟩ => xs.length - i) (0, n + 7 + 7 + 5, List.replicate (xs.length + ys.length) 0) ⟨rfl, rfl, rfl, rfl, congrArg some (by rw [List.length_replicate]; rfl), rfl, rfl, rfl, trivial⟩ ⟨g0.trans (by rw [List.map_replicate]; rfl), g1 om J, trivial⟩ ⟨Nat.zero_le _, by simp, by intro d hd; simp at hd; rw [hd.2]; decide, by rw [oZ]; simp [val], by intro j _; exact kE _ _, om⟩ ?_
  rintro ⟨i, q, us⟩ n hF
  change WC _ _ _ _ _ (_ :: _) (_ :: _) n _
  obtain ⟨hi, hul, hud, huv, huz, hq⟩ := hF
  refine Rg 1 J <| aA (bU J J) J <| bE (fun h77 => ?_) (fun h77 => ?_)
  rotate_left
  ·refine Wn <| aT J <| aU <| aN <| aO J ?_
   have hE : val B32 us = v.natAbs * w.natAbs := by
    rw [huv, List.take_of_length_le om, dv, dw]
   refine Rg 6 J <| Um J J <| Um J J <| aA (cI σ (mL J J (by rw [← hσ]; omega)) hσ.symm) J <| Um J J <| bB (kZ [.v (.int .i64 σ), .sl 1 (us.map d32)] [(q, { cells := (us.map d32).flatten, sz := 1, elem := 189, st := 1 })] J (eY σ 1 us (by rw [hE]; exact hs3) (.inl J) hud om) (.data (by simp) (.own _ (by simp) g0 (by show (0 : Nat) ≠ 2; decide) J (by decide) (by simp [keys]) J gT dP .nil)) (by intro p hp; simp at hp; subst hp; exact ⟨_, g0, by show (0 : Nat) ≠ 2; decide, rfl⟩)) J <| aZ (cO (cs' := [_, _]) J J J (g1 om (g1 om J)) J J J J) <| Wn <| aP <| post (n := 0) (.inr J) J ?_ (by simp)
   rw [evw, ← hE]; rfl
  refine Wn <| aR J <| aE <| aI <| Rg 5 J <| Um J J <| aA (bS J J J J J om J) J <| aA (dL J J J) J <| Ua J J <| Ua J J <| Wn <| Rg 1 J <| Ua J J <| Nk [4,7,9,10,11,12,13,14,74,75,76] J <| aB <| Rg 3 J <| Um J J <| aA (bD J J) J <| Um J J <| Wn <| aI <| aX (α := Nat × Nat × (List Nat)) (fun ⟨k, c, us1⟩ => [(4, .ptr 2 0), (7, .v (.int .i64 v.sign)), (9, .v (.int .i64 w.sign)), (10, .sl 1 (ys.map d32)), (11, .ref q 1 0 us1.length), (12, .v (.int .i64 (i : Int))), (13, .v (.int .u32 (xs.getD i default : Int))), (14, .v (.int .u64 (c : Int))), (74, .sl 1 (xs.map d32)), (75, .v (.int .i64 (xs.length : Int))), (76, .v (.int .i64 (i : Int))), (81, .sl 1 (ys.map d32)), (82, .v (.int .i64 (ys.length : Int))), (83, .v (.int .i64 (k : Int)))]) (fun ⟨k, c, us1⟩ => [(q, { cells := (us1.map d32).flatten, sz := 1, elem := 189, st := 0 }), (2, { cells := [.v (.int .i64 0), .sl 0 []], sz := 2, elem := 112, st := 0 })]) (fun ⟨k, c, us1⟩ n => k ≤ ys.length ∧ us1.length = us.length ∧ Dg B32 us1 ∧ c < 4294967296 ∧ val B32 us1 + B32 ^ (i + k) * c = val B32 us + B32 ^ i * (xs.getD i default * val B32 (ys.take k)) ∧ (∀ j, i + k ≤ j → us1.getD j default = us.getD j default)) (fun ⟨k, c, us1⟩ => ys.length - k) (0, 0, us) ⟨J, J, J, J, J, J, J, J, J, J, J, J, J, J, trivial⟩ ⟨g0, g1 om J, trivial⟩ ⟨Nat.zero_le _, rfl, hud, by decide, by simp [val], fun _ _ => rfl⟩ ?_
  rintro ⟨k, c, us1⟩ n hG
  change WC _ _ _ _ _ (_ :: _) (_ :: _) n _
  obtain ⟨hk, hl1, hd1, hc1, hv1, hz1⟩ := hG
  refine Rg 1 J <| aA (bU J J) J <| bE (fun h84 => ?_) (fun h84 => ?_)
  rotate_left
  ·refine Nk [4,7,9,10,11,12,13,14,74,75,76,81,82,83,84] J <| aT J <| aU <| aN <| aO J <| Ck [4,7,9,10,11,12,14,74,75,76] J <| aJ (z := 9) J <| Um J J <| Um J J <| Um J J <| aA (bD J J) J <| aA (cI (((i + ys.length : Nat) : Int)) (aV J J om) om) J <| Um J J <| aA (cI ((c : Int)) (cE J J J) (by rw [IntKind.wrap_u32]; omega)) J <| aA (cA J J J J J om J) J <| aZ (eC (f := d32) (us := us1) c J J J g0 (fun _ => rfl) J J om J) <| Wn <| aG <| Ck [4,7,9,10,11,74,75,76] J <| aJ (z := 2) J <| aA (cI (((i + 1 : Nat) : Int)) (aV J J om) om) J <| Um J J <| dA ?_
   refine aF <| ⟨⟨i + 1, q, us1.set (i + ys.length) c⟩, ⟨rfl, rfl, rfl, rfl, congrArg some (by rw [List.length_set]), rfl, rfl, rfl, trivial⟩, ⟨g0, g1 om (g1 om J), trivial⟩, ⟨om, by rw [List.length_set]; omega, hd1.set _ hc1, ?_, ?_, hq⟩, by show xs.length - (i + 1) < xs.length - i; omega⟩
   ·have hk' : k = ys.length := by omega
    subst hk'
    have h1 := gO (B := B32) us1 (i + ys.length) c om
    rw [hz1 _ (Nat.le_refl _), huz _ (Nat.le_refl _), Nat.mul_zero, Nat.add_zero] at h1
    rw [h1, hv1, huv, cV, List.take_of_length_le (Nat.le_refl _), Nat.add_mul, Nat.mul_assoc]
   ·intro j hj
    rw [iF om, hz1 j om]; exact huz j om
  refine Nk [4,7,9,10,11,12,13,14,74,75,76,81,82,83,84] J <| aR J <| aE <| aI <| Rg 5 J <| Um J J <| aA (bS J J J J J om J) J <| aA (dL J J J) J <| Ua J J <| Ua J J <| Nk [4,7,9,10,11,12,13,14,15,16,74,75,76,81,82,83] J ?_
  have hp : xs.getD i default < 4294967296 := bQ qv om
  have hqk : ys.getD k default < 4294967296 := bQ qw om
  have ho : us1.getD (i + k) default < 4294967296 := bQ hd1 om
  have hpq := iA hp hqk
  refine Rg 16 J <| Um J J <| Um J J <| aA (cI ((xs.getD i default : Int)) (cE J J J) (by rw [IntKind.wrap_u64]; omega)) J <| Um J J <| aA (cI ((ys.getD k default : Int)) (cE J J J) (by rw [IntKind.wrap_u64]; omega)) J <| aA (cI (((xs.getD i default * ys.getD k default : Nat) : Int)) (mD J J) (by rw [← Int.natCast_mul]; omega)) J <| Um J J <| Um J J <| Um J J <| aA (cI (((i + k : Nat) : Int)) (aV J J om) om) J <| aA (cA J J J J J om J) J <| aA (eJ (f := d32) (us := us1) (j := i + k) J J g0 (fun _ => rfl) J (by decide) om J) J <| aA (cI ((us1.getD (i + k) default : Int)) (cE J J J) (by rw [IntKind.wrap_u64]; omega)) J <| aA (cI (((xs.getD i default * ys.getD k default + us1.getD (i + k) default : Nat) : Int)) (jK J J) om) J <| aA (cI ((((c + (xs.getD i default * ys.getD k default + us1.getD (i + k) default)) : Nat) : Int)) (jK J J) om) J <| Ua J J <| Nk [4,7,9,10,11,12,13,14,15,74,75,76,81,82,83] J <| Rg 8 J <| Um J J <| Um J J <| Um J J <| aA (cI (((i + k : Nat) : Int)) (aV J J om) om) J ?_
  refine Um J J <| aA (cI ((((c + (xs.getD i default * ys.getD k default + us1.getD (i + k) default)) % 4294967296 : Nat) : Int)) (cE J J J) (by rw [IntKind.wrap_u32]; omega)) J <| aA (cA J J J J J om J) J <| aZ (eC (f := d32) (us := us1) ((c + (xs.getD i default * ys.getD k default + us1.getD (i + k) default)) % 4294967296) J J J g0 (fun _ => rfl) J J om J) <| Nk [4,7,9,10,11,12,13,14,74,75,76,81,82,83] J <| aJ (z := 3) J <| Um J J <| aA (cI ((((c + (xs.getD i default * ys.getD k default + us1.getD (i + k) default)) / 4294967296 : Nat) : Int)) (eP (s := 32) J J om) om) J <| Ua J J <| Wn <| aG <| Ck [4,7,9,10,11,12,13,14,74,75,76,81,82,83] J <| aJ (z := 2) J <| aA (cI (((k + 1 : Nat) : Int)) (aV J J om) om) J <| Um J J <| Wn <| aF <| ⟨⟨k + 1, (c + (xs.getD i default * ys.getD k default + us1.getD (i + k) default)) / 4294967296, us1.set (i + k) ((c + (xs.getD i default * ys.getD k default + us1.getD (i + k) default)) % 4294967296)⟩, ⟨rfl, rfl, rfl, rfl, congrArg some (by rw [List.length_set]), rfl, rfl, rfl, rfl, rfl, rfl, rfl, rfl, rfl, trivial⟩, ⟨g0, g1 om (g1 om J), trivial⟩, ⟨om, by rw [List.length_set]; exact hl1, hd1.set _ (Nat.mod_lt _ (by decide)), om, mul_step hv1 om, ?_⟩, by show ys.length - (k + 1) < ys.length - k; omega⟩
  intro j hj
  rw [iF om]; exact hz1 j om
 refine Rg 3 J <| bB (eG J J) J <| bB (eG J J) J <| bB (dS J) J <| Wn <| aB <| Rg 8 J <| aA (bH J J J J J) J <| aA (aL J J J J J) J <| aA (mE J J) J <| fT (fun h19 => ?_) (fun h19 => ?_)
 rotate_left
 ·refine Um J J <| K1 J J <| K1 J J <| K1 J J <| aA (cG J J) J <| Wn <| aT J <| aE <| Ck [2,3,4] J ?_
  exact J5 _ om
 refine Um J J <| aM J (bH J J J J J) J <| aM J (aL J J J J J) J <| aM J (mE J J) J <| fT (fun h23 => ?_) (fun h23 => ?_)
 rotate_left
 ·refine aA (bW J J) J <| Wn <| aT J <| aE <| Ck [2,3,4] J ?_
  exact J5 _ om
 refine aA (bW J J) J <| Wn <| aR J <| aB ?_
 have hia := dH (pK.1 h19)
 have hiw := dH (pK.1 h23)
 refine Rg 20 J <| aA (bH J J J J J) J <| aA (aL J J J J J) J <| aA (bH J J J J J) J <| aA (aL J J J J J) J <| aA (rR J om) J <| aA (cI (((v.natAbs : Nat) : Int)) (oMax J J) (by rw [hia]; split <;> omega)) J <| aA (cI (((v.natAbs : Nat) : Int)) (cE J J J) (by rw [IntKind.wrap_u64]; omega)) J <| aA (bH J J J J J) J <| aA (aL J J J J J) J <| aA (bH J J J J J) J <| aA (aL J J J J J) J <| aA (rR J om) J <| aA (cI (((w.natAbs : Nat) : Int)) (oMax J J) (by rw [hiw]; split <;> omega)) J <| aA (cI (((w.natAbs : Nat) : Int)) (cE J J J) (by rw [IntKind.wrap_u64]; omega)) J <| aA (aK J (mul64_run v.natAbs w.natAbs om om) (by simp)) J <| Um J J <| aA (cW J J) J <| aA (cW J J) J <| Ua J J <| Ua J J <| Nk [2,3,4,5,6] J <| aB ?_
 refine Rg 6 J <| Um J J <| aA (gB J J) J <| bE (fun h44 => ?_) (fun h44 => ?_)
 rotate_left
 ·refine Um J J <| K1 J J <| K1 J J <| aA (cG J J) J <| Wn <| aT J <| aE <| Ck [2,3,4] J ?_
  exact J5 _ om
 refine Um J J <| aM J (dU J) J <| aM J (bU J J) J <| bE (fun h47 => ?_) (fun h47 => ?_)
 rotate_left
 ·refine aA (bW J J) J <| Wn <| aT J <| aE <| Ck [2,3,4] J ?_
  exact J5 _ om
 refine aA (bW J J) J <| Wn <| aR J <| aB <| bN (z := 10) J kR <| aH (aL (l := .agg [_, _]) J J J J J) J <| aH (aK J (jN _) (by simp)) J <| aH (aL (l := .agg [_, _]) J J J J J) J <| aH (aK J (jN _) (by simp)) J <| aH (cI σ (mL J J (by rw [← hσ]; omega)) hσ.symm) J <| Dm J J <| aH (cI (((v.natAbs * w.natAbs : Nat) : Int)) (cE J J J) (by rw [IntWalk.i64_in _ om]; omega)) J <| aH (mL J J (by rcases hs3 with h | h | ⟨h, _⟩ <;> rw [h] <;> omega)) J <| aH (kH (cs := [_, _]) J J J J J) J <| cR (cO (cs' := [_, _]) J J J J J J J J) <| bJ (aY kR) J <| Ck [4] J <| bC <| post (n := 0) (.inr J) J ?_ (by simp)
 rw [evw, jJ (by unfold small; rcases hs3 with h | h | ⟨h, _⟩ <;> rw [h] <;> omega)]; rfl
end Go.Proofs.Ytcblgjaomljikaa
namespace Go.Proofs.Ytcblgjaomljikaa
open Go.Ab Go.RowKit
theorem div32_run (hi lo y : Nat) (hh : hi < y) (hl : lo < 4294967296) (hy : y < 4294967296) : Run Try.prog T E0 (.call 223 [.v (.int .u32 (hi : Int)), .v (.int .u32 (lo : Int)), .v (.int .u32 (y : Int))] (.tup [.v (.int .u32 (((hi * 4294967296 + lo) / y : Nat) : Int)), .v (.int .u32 (((hi * 4294967296 + lo) % y : Nat) : Int))])) := by
 have hq : (hi * 4294967296 + lo) / y < 4294967296 := by
  rw [Nat.div_lt_iff_lt_mul om]; have := Nat.mul_le_mul_left 4294967296 (show hi + 1 ≤ y from hh); omega
 have hr : (hi * 4294967296 + lo) % y < y := Nat.mod_lt _ om
 obtain ⟨Q, hQ⟩ : ∃ Q, Q = (hi * 4294967296 + lo) / y := ⟨_, rfl⟩
 obtain ⟨R, hR⟩ : ∃ R, R = (hi * 4294967296 + lo) % y := ⟨_, rfl⟩
 rw [← hQ] at hq
 rw [← hR] at hr
 refine bK Try.func223 J J (dM J) <| Rg 2 J <| Ua J J <| Ua J J <| Wn <| aB <| Rg 7 J <| Um J J <| aA (dV J J) J <| bE (fun h10 => ?_) (fun h10 => ?_)
 rotate_left
 ·omega
 refine Um J J <| aM J (dU J) J <| aM J (dU J) J <| aM J (oLeq J J) J <| bE (fun h14 => ?_) (fun h14 => ?_)
 ·omega
 refine aA (bW J J) J <| Wn <| aT J <| aE <| Rg 7 J <| Um J J <| aA (cI ((hi : Int)) (cE J J J) (by rw [IntKind.wrap_u64]; omega)) J <| aA (cI (((hi * 4294967296 : Nat) : Int)) (oShlU (s := 32) J J om) om) J <| Um J J <| aA (cI ((lo : Int)) (cE J J J) (by rw [IntKind.wrap_u64]; omega)) J <| aA (fJ (v := .int .u64 (((hi * 4294967296 + lo) : Nat) : Int)) J J (or_hi om hl)) J <| Ua J J <| Nk [2,8] J <| bN (z := 12) J kR <| Dm J J <| Dm J J <| aH (cI ((y : Int)) (cE J J J) (by rw [IntKind.wrap_u64]; omega)) J <| aH (cI ((Q : Int)) (oQuoU J J om om) (by rw [hQ])) J <| aH (cI ((Q : Int)) (cE J J J) (by rw [IntKind.wrap_u32]; omega)) J <| Dm J J <| Dm J J <| aH (cI ((y : Int)) (cE J J J) (by rw [IntKind.wrap_u64]; omega)) J <| aH (cI ((R : Int)) (oRemU J J om) (by rw [hR])) J ?_
 refine aH (cI ((R : Int)) (cE J J J) (by rw [IntKind.wrap_u32]; omega)) J <| aH (fR J) J <| aH (fR J) J <| bJ (aY kR) J <| aP ?_
 exact post (n := 0) (.inr J) J (by rw [← hQ, ← hR]; rfl) (by simp)
theorem short_run (k0 : Nat) (xs : List Nat) (y : Nat) (hx : Dg B32 xs) (hy : 0 < y) (hy2 : y < 4294967296) (lx : xs.length < 1099511627776) : ∃ r, Run Try.prog T E0 (.call 220 [.sl k0 (xs.map d32), .v (.int .u32 (y : Int))] r) ∧ ∃ ds rest, r = .tup [.sl 1 (ds.map d32), .v (.int .u32 ((rest : Nat) : Int))] ∧ Dg B32 ds ∧ rest < y ∧ val B32 ds * y + rest = val B32 xs ∧ ds.length = xs.length := by
 refine gJ Try.func220 J J (dM J) <| Rg 2 J <| Ua J J <| Ua J J <| Wn <| Rg 4 J <| Um J J <| aA (bD J J) J <| bB (oMk (a := xs.length) (b := xs.length) J J J J om om (by decide) om (by show 4 * xs.length ≤ _; omega) om) J <| Ua J J <| Wn <| Rg 1 J <| Ua J J <| Wn <| aB <| Rg 4 J <| Um J J <| aA (bD J J) J <| aA (dN J J om) J <| Ua J J <| Wn <| aI <| aX (α := Nat × Nat × (List Nat)) (fun ⟨k, rest, us⟩ => [(0, .sl k0 (xs.map d32)), (1, .v (.int .u32 (y : Int))), (6, .ref (0 + 2 + 2) 1 0 us.length), (7, .v (.int .u32 (rest : Int))), (8, .v (.int .i64 ((k : Int) - 1)))]) (fun ⟨k, rest, us⟩ => [(0 + 2 + 2, { cells := (us.map d32).flatten, sz := 1, elem := 189, st := 0 })]) (fun ⟨k, rest, us⟩ n => k ≤ xs.length ∧ us.length = xs.length ∧ Dg B32 us ∧ rest < y ∧ val B32 (us.drop k) * y + rest = val B32 (xs.drop k)) (fun ⟨k, rest, us⟩ => k) (xs.length, 0, List.replicate xs.length 0) ⟨rfl, rfl, congrArg some (by rw [List.length_replicate]; rfl), rfl, rfl, trivial⟩ ⟨g0.trans (by rw [List.map_replicate]; rfl), trivial⟩ ⟨Nat.le_refl _, by simp, by intro d hd; simp at hd; rw [hd.2]; decide, hy, by simp [val]⟩ ?_
 rintro ⟨k, rest, us⟩ n hF
 change WC _ _ _ _ _ (_ :: _) (_ :: _) n _
 obtain ⟨hk, hul, hud, hrest, huv⟩ := hF
 refine aB <| Rg 2 J <| Um J J <| aA (mK J J) J <| bE (fun h16 => ?_) (fun h16 => ?_)
 rotate_left
 ·refine Wn <| aT J <| aU <| aN <| aO J <| Rg 4 J <| Um J J <| Um J J <| Ua J J <| Ua J J <| Wn <| aP <| ⟨.tup [.sl 1 (us.map d32), .v (.int .u32 (rest : Int))], ⟨us, rest, rfl, hud, hrest, ?_, hul⟩, pN (n := 0) [(0 + 2 + 2, { cells := (us.map d32).flatten, sz := 1, elem := 189, st := 1 })] (.inr J) J (.own _ (by simp) J (by show (0 : Nat) ≠ 2; decide) J (by decide) (by simp [keys]) J gT dP (.data (by simp) .nil)) (by intro p hp; simp at hp; subst hp; exact ⟨_, rfl, by show (0 : Nat) ≠ 2; decide, rfl⟩)⟩
  have h0 : k = 0 := by omega
  subst h0
  simpa using huv
 refine Wn <| aR J <| aE <| aI ?_
 have hxl : xs.getD (k - 1) default < 4294967296 := bQ hx om
 have hq : (rest * 4294967296 + xs.getD (k - 1) default) / y < 4294967296 := by
  rw [Nat.div_lt_iff_lt_mul hy]; have := Nat.mul_le_mul_left 4294967296 (show rest + 1 ≤ y from hrest); omega
 refine aJ (z := 15) J <| Um J J <| Um J J <| Um J J <| Um J J <| Um J J <| aA (bS (j := k - 1) J J J J om om J) J <| aA (dL J J J) J <| Um J J <| aA (aK J (div32_run rest (xs.getD (k - 1) default) y hrest hxl hy2) (by simp)) J <| Um J J <| aA (cW J J) J <| aA (cW J J) J <| aA (cA (j := k - 1) J J J J om om J) J <| aZ (eC (f := d32) (us := us) ((rest * 4294967296 + xs.getD (k - 1) default) / y) J J J g0 (fun _ => rfl) J J om J) <| Ua J J <| Wn <| aG <| Ck [0,1,6,7,8] J <| aJ (z := 3) J <| Um J J <| aA (cI (((k - 1 : Nat) : Int) - 1) (dN J J om) om) J <| Ua J J <| dA ?_
 refine aF ?_
 have hj : k - 1 + 1 = k := by omega
 refine ⟨⟨k - 1, (rest * 4294967296 + xs.getD (k - 1) default) % y, us.set (k - 1) ((rest * 4294967296 + xs.getD (k - 1) default) / y)⟩, ⟨rfl, rfl, congrArg some (by rw [List.length_set]), rfl, rfl, trivial⟩, ⟨g0, trivial⟩, ⟨om, by rw [List.length_set]; exact hul, hud.set _ hq, Nat.mod_lt _ hy, ?_⟩, by show k - 1 < k; omega⟩
 exact short_step hy (by rw [hj]; exact huv) om om
end Go.Proofs.Ytcblgjaomljikaa
namespace Go.Proofs.Ytcblgjaomljikaa
open Go.Ab Go.RowKit
theorem pP (k0 : Nat) (xs : List Nat) (sh : Nat) (hx : Dg B32 xs) (hn : sh < 32) (lx : xs.length < 1099511627776) : ∃ sz len ob, Run Try.prog T E0 (.callO 225 [.sl k0 (xs.map d32), .v (.int .i64 (sh : Int))] (.ref 0 sz 0 len) ob) ∧ ∃ ds, sz = 1 ∧ len = ds.length ∧ ob = { cells := (ds.map d32).flatten, sz := 1, elem := 189, st := 0 } ∧ Dg B32 ds ∧ val B32 ds = val B32 xs * 2 ^ sh ∧ ds.length = xs.length + 1 := by
 have hp : (2 : Nat) ^ sh ≤ 2 ^ 31 := Nat.pow_le_pow_right (by decide) om
 have hp0 : 0 < (2 : Nat) ^ sh := Nat.pow_pos (by decide)
 refine mkcallO Try.func225 J J (dM J) <| Rg 1 J <| Ua J J <| Wn <| Rg 5 J <| Um J J <| aA (bD J J) J <| aA (aV J J om) J <| bB (oMk (a := xs.length + 1) (b := xs.length + 1) J J J J om om (by decide) om (by show 4 * (xs.length + 1) ≤ _; omega) om) J <| Ua J J <| Wn <| aB <| Rg 3 J <| Um J J <| aA (bD J J) J <| Um J J <| Wn <| aI <| aX (α := Nat × (List Nat)) (fun ⟨i, us⟩ => [(1, .v (.int .i64 (sh : Int))), (5, .ref (0 + 1 + 3) 1 0 us.length), (13, .sl k0 (xs.map d32)), (14, .v (.int .i64 (xs.length : Int))), (15, .v (.int .i64 (i : Int)))]) (fun ⟨i, us⟩ => [(0 + 1 + 3, { cells := (us.map d32).flatten, sz := 1, elem := 189, st := 0 })]) (fun ⟨i, us⟩ n => i ≤ xs.length ∧ us.length = xs.length + 1 ∧ Dg B32 us ∧ val B32 us = val B32 (xs.take i) * 2 ^ sh ∧ (∀ j, i < j → us.getD j default = 0) ∧ us.getD i default < 2 ^ sh) (fun ⟨i, us⟩ => xs.length - i) (0, List.replicate (xs.length + 1) 0) ⟨rfl, congrArg some (by rw [List.length_replicate]; rfl), rfl, rfl, rfl, trivial⟩ ⟨g0.trans (by rw [List.map_replicate]; rfl), trivial⟩ ⟨Nat.zero_le _, by simp, by intro d hd; simp at hd; rw [hd]; decide, by rw [oZ]; simp [val], fun j _ => kE _ _, by rw [kE]; exact hp0⟩ ?_
 rintro ⟨i, us⟩ n hF
 change WC _ _ _ _ _ (_ :: _) (_ :: _) n _
 obtain ⟨hi, hul, hud, huv, huz, hlo⟩ := hF
 refine Rg 1 J <| aA (bU J J) J <| bE (fun h16 => ?_) (fun h16 => ?_)
 rotate_left
 ·refine Wn <| aT J <| aU <| aN <| aO J <| Rg 2 J <| Um J J <| Ua J J <| Wn <| aP <| ⟨1, us.length, _, ⟨us, rfl, rfl, rfl, hud, ?_, hul⟩, .inr J, _, rfl, rfl, rfl, rfl, by intro c hc; obtain ⟨row, hr, hc⟩ := List.mem_flatten.1 hc; exact dP row hr c hc⟩
  rw [huv, List.take_of_length_le om]
 refine Wn <| aR J <| aE <| aI <| Rg 5 J <| Um J J <| aA (bS J J J J J om J) J <| aA (dL J J J) J <| Ua J J <| Ua J J <| dA ?_
 have hxl : xs.getD i default < 4294967296 := bQ hx om
 have hw : (xs.getD i default * 2 ^ sh) < 9223372036854775808 := by
  have := Nat.mul_lt_mul_of_lt_of_le hxl hp (by decide); omega
 have hor := shift_or hn hlo hxl
 have hhi := shift_hi (n := sh) hxl
 have hol : us.getD i default < 4294967296 := by omega
 refine Rg 5 J <| Um J J <| aA (cI ((xs.getD i default : Int)) (cE J J J) (by rw [IntKind.wrap_u64]; omega)) J <| Um J J <| aA (cI ((((xs.getD i default * 2 ^ sh) : Nat) : Int)) (oShlU (s := sh) J J om) (by rw [show ((xs.getD i default : Nat) : Int) * 2 ^ sh = (((xs.getD i default * 2 ^ sh) : Nat) : Int) by simp]; omega)) J <| Ua J J <| Nk [1,5,6,8,13,14,15] J <| Rg 9 J <| Um J J <| Um J J <| aA (cA J J J J J om J) J <| aA (eJ (f := d32) (us := us) (j := i) J J g0 (fun _ => rfl) J (by decide) om J) J <| Um J J <| aA (cI ((((xs.getD i default * 2 ^ sh) % 4294967296 : Nat) : Int)) (cE J J J) (by rw [IntKind.wrap_u32]; omega)) J <| aA (fJ (v := .int .u32 (((us.getD i default + (xs.getD i default * 2 ^ sh) % 4294967296) : Nat) : Int)) J J ((or32 hol om).trans (by rw [hor.1]))) J <| aA (cA J J J J J om J) J <| aZ (eC (f := d32) (us := us) (us.getD i default + (xs.getD i default * 2 ^ sh) % 4294967296) J J J g0 (fun _ => rfl) J J om J) <| Nk [1,5,6,8,13,14,15] J <| aJ (z := 8) J <| Um J J <| Um J J <| aA (cI (((i + 1 : Nat) : Int)) (aV J J om) om) J ?_
 refine Um J J <| aA (cI ((((xs.getD i default * 2 ^ sh) / 4294967296 : Nat) : Int)) (eP (s := 32) J J om) om) J <| aA (cI ((((xs.getD i default * 2 ^ sh) / 4294967296 : Nat) : Int)) (cE J J J) (by rw [IntKind.wrap_u32]; omega)) J <| aA (cA J J J J J om J) J <| aZ (eC (f := d32) (us := us.set i (us.getD i default + (xs.getD i default * 2 ^ sh) % 4294967296)) ((xs.getD i default * 2 ^ sh) / 4294967296) J J J g0 (fun _ => rfl) J J (by rw [List.length_set]; omega) J) <| Wn <| aG <| aJ (z := 2) J <| aA (cI (((i + 1 : Nat) : Int)) (aV J J om) om) J <| Um J J <| Wn <| aF <| ⟨⟨i + 1, (us.set i (us.getD i default + (xs.getD i default * 2 ^ sh) % 4294967296)).set (i + 1) ((xs.getD i default * 2 ^ sh) / 4294967296)⟩, ⟨rfl, congrArg some (by rw [List.length_set, List.length_set]), rfl, rfl, rfl, trivial⟩, ⟨g0, trivial⟩, ⟨om, by rw [List.length_set, List.length_set]; exact hul, (hud.set _ hor.2).set _ (by show _ < 4294967296; omega), shift_step (by decide) huv om (huz _ om), ?_, ?_⟩, by show xs.length - (i + 1) < xs.length - i; omega⟩
 ·intro j hj
  rw [iF om, iF om]; exact huz j om
 ·have : ((us.set i (us.getD i default + (xs.getD i default * 2 ^ sh) % 4294967296)).set (i + 1) ((xs.getD i default * 2 ^ sh) / 4294967296)).getD (i + 1) default = (xs.getD i default * 2 ^ sh) / 4294967296 := by
   rw [List.getD_eq_getElem?_getD, List.getElem?_set_self (by simp; omega)]; rfl
  rw [this]; exact hhi
theorem len32_run (x : Nat) (hx : x < 4294967296) : Run Try.prog T E0 (.call 165 [.v (.int .u32 (x : Int))] (.v (.int .i64 ((blen x : Nat) : Int)))) := by
 refine bK Try.func165 J J (dM J) ?_
 have J7 : ∀ (y k : Nat) (hy : y < 256) (hk : k ≤ 24) (he : blen x = blen y + k) (n : Nat) , WC Try.prog T E0 Try.f165.ntmps (codeR (codeR (codeR (codeOf Try.f165)))) [(0, .v (.int .u32 (y : Int))), (2, .v (.int .i64 (k : Int)))] [] n (Post T Try.f165.results.toList (.v (.int .i64 ((blen x : Nat) : Int)))) := by
  intro y k hy hk he n
  have hyb := qC (n := 8) hy
  refine Rg 7 J <| Um J J <| Um J J <| aA (cI ((y : Int)) (cE J J J) (by rw [IntKind.wrap_u8]; omega)) J <| aA (cI (((blen y : Nat) : Int)) (oIxS (bs := tab8) (n := (y : Int)) J kR J om (tab8_get hy)) (congrArg Int.ofNat (tab8_val hy))) J <| aA (cI (((blen y : Nat) : Int)) (cE J J J) (by rw [IntWalk.i64_in _ om])) J <| aA (aV J J om) J <| Ua J J <| Wn <| aP ?_
  exact post (n := 0) (.inr J) J (congrArg (fun z => LV.v (.int .i64 z)) om) (by simp)
 refine Rg 1 J <| Ua J J <| Wn <| aB <| Rg 2 J <| Um J J <| aA (mK J J) J <| bE (fun h4 => ?_) (fun h4 => ?_)
 rotate_left
 ·refine Wn <| aT J <| aE <| aB <| Rg 2 J <| Um J J <| aA (mK J J) J <| bE (fun h8 => ?_) (fun h8 => ?_)
  rotate_left
  ·refine Wn <| aT J <| aE <| Ck [0,2] J ?_
   first | exact J7 (x / 65536) 16 om om (gP (x := x) (k := 16) om) _ | exact J7 x 0 om om rfl _
  refine Wn <| aR J <| aB <| Rg 3 J <| Um J J <| aA (cI (((x / 256 : Nat) : Int)) (oShr32 (s := 8) J J om) om) J <| Ua J J <| Wn <| Rg 3 J <| Um J J <| aA (aV J J om) J <| Ua J J <| Nk [0,2] J ?_
  first | exact J7 (x / 65536 / 256) 24 om om (by rw [gP (x := x) (k := 16) om, gP (x := x / 2 ^ 16) (k := 8) om]) _ | exact J7 (x / 256) 8 om om (gP (x := x) (k := 8) om) _
 refine Wn <| aR J <| aB <| Rg 3 J <| Um J J <| aA (cI (((x / 65536 : Nat) : Int)) (oShr32 (s := 16) J J om) om) J <| Ua J J <| Wn <| Rg 1 J <| Ua J J <| Wn <| aB <| Rg 2 J <| Um J J <| aA (mK J J) J <| bE (fun h8 => ?_) (fun h8 => ?_)
 rotate_left
 ·refine Wn <| aT J <| aE <| Ck [0,2] J ?_
  first | exact J7 (x / 65536) 16 om om (gP (x := x) (k := 16) om) _ | exact J7 x 0 om om rfl _
 refine Wn <| aR J <| aB <| Rg 3 J <| Um J J <| aA (cI (((x / 65536 / 256 : Nat) : Int)) (oShr32 (s := 8) J J om) om) J <| Ua J J <| Wn <| Rg 3 J <| Um J J <| aA (aV J J om) J <| Ua J J <| Nk [0,2] J ?_
 first | exact J7 (x / 65536 / 256) 24 om om (by rw [gP (x := x) (k := 16) om, gP (x := x / 2 ^ 16) (k := 8) om]) _ | exact J7 (x / 256) 8 om om (gP (x := x) (k := 8) om) _
theorem zeros32_run (x : Nat) (hx : x < 4294967296) : Run Try.prog T E0 (.call 224 [.v (.int .u32 (x : Int))] (.v (.int .i64 ((32 - blen x : Nat) : Int)))) := by
 have hb := qC (n := 32) hx
 refine bK Try.func224 J J (dM J) <| Rg 1 J <| Ua J J <| Wn <| Rg 4 J <| Um J J <| aA (aK J (len32_run x hx) (by simp)) J <| aA (dN J J om) J <| Ua J J <| Wn <| aP ?_
 exact post (n := 0) (.inr J) J (congrArg (fun z => LV.v (.int .i64 z)) om) (by simp)
end Go.Proofs.Ytcblgjaomljikaa
set_option maxHeartbeats 4000000
namespace Go.Proofs.Ytcblgjaomljikaa
open Go.Ab Go.RowKit
theorem long_run (k1 k2 : Nat) (xs ys : List Nat) (hx : Dg 4294967296 xs) (hy : Dg 4294967296 ys) (ty : Trm ys) (hl : 2 ≤ ys.length) (hle : ys.length ≤ xs.length) (lx : xs.length < 549755813888) : ∃ r, Run Try.prog T E0 (.call 221 [.sl k1 (xs.map d32), .sl k2 (ys.map d32)] r) ∧ ∃ qs rs, r = .tup [.sl 1 (qs.map d32), .sl 1 (rs.map d32)] ∧ Dg 4294967296 qs ∧ Dg 4294967296 rs ∧ val 4294967296 qs * val 4294967296 ys + val 4294967296 rs = val 4294967296 xs ∧ val 4294967296 rs < val 4294967296 ys ∧ qs.length ≤ xs.length ∧ rs.length = ys.length := by
 obtain ⟨sh, hsh⟩ : ∃ sh, sh = 32 - blen (ys.getD (ys.length - 1) default) := ⟨_, rfl⟩
 obtain ⟨n1, n2, n3⟩ := norm_facts hy ty hl hsh
 obtain ⟨vs, hvs⟩ : ∃ vs, vs = dgs 4294967296 (val 4294967296 ys * 2 ^ sh) := ⟨_, rfl⟩
 rw [← hvs] at n2 n3
 rw [← n2] at n3
 have hvd : Dg 4294967296 vs := by rw [hvs]; exact kO (by decide) _
 have hvv : val 4294967296 vs = val 4294967296 ys * 2 ^ sh := by rw [hvs]; exact hY (by decide) _
 have hyl : ys.getD (ys.length - 1) default < 4294967296 := bQ hy om
 obtain ⟨_, _, _, hr1, us0, rfl, rfl, rfl, hud0, huv0, hul0⟩ := pP k1 xs sh hx n1 om
 obtain ⟨_, _, _, hr2, ws, rfl, rfl, rfl, hwd, hwv, hwl⟩ := pP k2 ys sh hy n1 om
 have htr : trim ws = vs := by rw [lC (by decide) hwd, hwv, hvs]
 have hp31 : (2 : Nat) ^ sh ≤ 2 ^ 31 := Nat.pow_le_pow_right (by decide) om
 have hp0 : 0 < (2 : Nat) ^ sh := Nat.pow_pos (by decide)
 have hV0 : 0 < val 4294967296 vs := by
  have h1 := cX 4294967296 vs (vs.length - 1) om
  rw [cB (by omega : vs.length - 1 < vs.length)] at h1
  simp only [val] at h1
  have h2 : 0 < (4294967296 : Nat) ^ (vs.length - 1) := Nat.pow_pos (by decide)
  have h3 := Nat.mul_le_mul h2 n3
  have h4 := Nat.mul_add ((4294967296 : Nat) ^ (vs.length - 1)) (vs.getD (vs.length - 1) default) (4294967296 * val 4294967296 (List.drop (vs.length - 1 + 1) vs))
  omega
 refine gJ Try.func221 J J (dM J) <| Rg 2 J <| Ua J J <| Ua J J <| Wn <| Rg 8 J <| Um J J <| Um J J <| aA (bD J J) J <| aA (dN J J om) J <| aA (bS (j := ys.length - 1) J J J J om om J) J <| aA (dL J J J) J <| aA (cI ((sh : Int)) (aK J (zeros32_run _ hyl) (by simp)) (by rw [hsh])) J <| Ua J J <| Wn <| Rg 9 J <| Um J J <| Um J J <| bB (oCallO J hr1 (by simp)) J <| Um J J <| Um J J <| bB (oCallO J hr2 (by simp)) J <| bB (bG (b := .sl 1 (vs.map d32)) (kZ [.sl 1 (ws.map d32)] [((0 + 2 + 8 + 5), { cells := (ws.map d32).flatten, sz := 1, elem := 189, st := 1 })] J (lD 1 ws om om) (.own _ (by simp) g0 (by show (0 : Nat) ≠ 2; decide) J (by decide) (by simp [keys]) J gT dP .nil) (by intro p hp; simp at hp; subst hp; exact ⟨_, g0, by show (0 : Nat) ≠ 2; decide, rfl⟩)) (by rw [htr]; rfl)) J <| Ua J J ?_
 refine Ua J J <| Nk [6,7,8] J <| Rg 3 J <| Um J J <| aA (bD J J) J <| Ua J J <| Wn <| Rg 6 J <| Um J J <| aA (pM J J) J <| Um J J <| aA (dN J J om) J <| bB (oMk (a := xs.length + 1 - ys.length) (b := xs.length + 1 - ys.length) J J J J om om (by decide) om (by show 4 * (xs.length + 1 - ys.length) ≤ _; omega) om) J <| Ua J J <| Wn <| aB <| Rg 6 J <| Um J J <| aA (pM J J) J <| Um J J <| aA (dN J J om) J <| aA (dN J J om) J <| Ua J J ?_
 refine Nk [6,7,8,9,10,11] J <| aI <| aX (α := Nat × (List Nat) × (List Nat)) (fun ⟨k, us, qs⟩ => [(6, .v (.int .i64 (sh : Int))), (7, .ref (0 + 2 + 8 + 2) 1 0 us.length), (8, .sl 1 (vs.map d32)), (9, .v (.int .i64 (vs.length : Int))), (10, .ref (0 + 2 + 8 + 9 + 3 + 4) 1 0 qs.length), (11, .v (.int .i64 ((k : Int) - 1)))]) (fun ⟨k, us, qs⟩ => [((0 + 2 + 8 + 2), { cells := (us.map d32).flatten, sz := 1, elem := 189, st := 0 }), ((0 + 2 + 8 + 9 + 3 + 4), { cells := (qs.map d32).flatten, sz := 1, elem := 189, st := 0 })]) (fun ⟨k, us, qs⟩ n => k + vs.length ≤ us.length ∧ us.length = xs.length + 1 ∧ qs.length = xs.length + 1 - ys.length ∧ Dg 4294967296 us ∧ Dg 4294967296 qs ∧ val 4294967296 us0 = val 4294967296 (qs.drop k) * val 4294967296 vs * 4294967296 ^ k + val 4294967296 us ∧ val 4294967296 (us.drop k) < val 4294967296 vs ∧ 30 ≤ n) (fun ⟨k, us, qs⟩ => k) (xs.length + 1 - ys.length, us0, List.replicate (xs.length + 1 - ys.length) 0) ⟨rfl, rfl, rfl, rfl, congrArg some (by rw [List.length_replicate]; rfl), congrArg (fun z => some (LV.v (.int .i64 z))) om, trivial⟩ ⟨rfl, g0.trans (by rw [List.map_replicate]; rfl), trivial⟩ ⟨om, hul0, by simp, hud0, by intro d hd; simp at hd; rw [hd.2]; decide, by rw [List.drop_eq_nil_of_le (by simp)]; simp [val], long_init (n := xs.length) (by decide) huv0 (fK (by decide) hx) om om om hp0 om, om⟩ ?_
 rintro ⟨k, us, qs⟩ n hF
 change WC _ _ _ _ _ (_ :: _) (_ :: _) n _
 obtain ⟨hk, hul, hql0, hud, hqd, hU, hlt, hn30⟩ := hF
 refine aB <| Rg 2 J <| Um J J <| aA (mK J J) J <| bE (fun h54 => ?_) (fun h54 => ?_)
 rotate_left
 ·refine Wn <| aT J <| aU <| aN <| aO J ?_
  have hk0 : k = 0 := by omega
  subst hk0
  rw [List.drop_zero, Nat.pow_zero, Nat.mul_one] at hU
  rw [List.drop_zero] at hlt
  refine Rg 3 J <| Um J J <| bB (oMk (a := vs.length) (b := vs.length) J J J J om om (by decide) om (by show 4 * vs.length ≤ _; omega) om) J <| Ua J J <| Wn <| aB <| Rg 3 J <| Um J J <| aA (pM J J) J <| Um J J <| Wn <| aI <| aX (α := Nat × Nat × (List Nat)) (fun ⟨i, q3, rs⟩ => [(6, .v (.int .i64 (sh : Int))), (7, .ref (0 + 2 + 8 + 2) 1 0 us.length), (10, .ref (0 + 2 + 8 + 9 + 3 + 4) 1 0 qs.length), (25, .ref q3 1 0 rs.length), (229, .v (.int .i64 (vs.length : Int))), (230, .v (.int .i64 (i : Int)))]) (fun ⟨i, q3, rs⟩ => [((0 + 2 + 8 + 2), { cells := (us.map d32).flatten, sz := 1, elem := 189, st := 0 }), ((0 + 2 + 8 + 9 + 3 + 4), { cells := (qs.map d32).flatten, sz := 1, elem := 189, st := 0 }), (q3, { cells := (rs.map d32).flatten, sz := 1, elem := 189, st := 0 })]) (fun ⟨i, q3, rs⟩ n => i ≤ vs.length ∧ rs.length = vs.length ∧ Dg 4294967296 rs ∧ val 4294967296 rs = (val 4294967296 (us.take (i + 1)) / 2 ^ sh) % 4294967296 ^ i ∧ (∀ j, i ≤ j → rs.getD j default = 0) ∧ 30 ≤ q3) (fun ⟨i, q3, rs⟩ => vs.length - i) (0, n + 2 + 1, List.replicate vs.length 0) ⟨rfl, rfl, rfl, congrArg some (by rw [List.length_replicate]; rfl), rfl, rfl, trivial⟩ ⟨g1 om g0, g1 om (g1 (by decide) g0), g0.trans (by rw [List.map_replicate]; rfl), trivial⟩ ⟨Nat.zero_le _, by simp, by intro d hd; simp at hd; rw [hd.2]; decide, by rw [oZ, Nat.pow_zero, Nat.mod_one], fun j _ => kE _ _, om⟩ ?_
  rintro ⟨i, q3, rs⟩ n hR
  change WC _ _ _ _ _ (_ :: _) (_ :: _) n _
  obtain ⟨hi, hrl, hrd, hrv, hrz, hq3⟩ := hR
  refine Rg 1 J <| aA (bU J J) J <| bE (fun h231 => ?_) (fun h231 => ?_)
  rotate_left
  ·refine Wn <| aT J <| aU <| aN <| aO J ?_
   have hi' : i = vs.length := by omega
   subst hi'
   rw [rest_end (Nat.lt_trans hlt (fK (by decide) hvd)) om] at hrv
   obtain ⟨hx1, hx2⟩ := unshift hp0 (show val 4294967296 xs * 2 ^ sh = val 4294967296 qs * (val 4294967296 ys * 2 ^ sh) + val 4294967296 us by rw [← hvv, ← huv0, hU]) (by rw [← hvv]; exact hlt)
   rw [← hrv] at hx1 hx2
   refine Rg 4 J <| Um J J <| Um J J <| Ua J J <| Ua J J <| Wn <| aP <| ⟨.tup [.sl 1 (qs.map d32), .sl 1 (rs.map d32)], ⟨qs, rs, rfl, hqd, hrd, hx1, hx2, om, om⟩, ?_⟩
   exact pN (n := 0) [((0 + 2 + 8 + 9 + 3 + 4), { cells := (qs.map d32).flatten, sz := 1, elem := 189, st := 1 }), (q3, { cells := (rs.map d32).flatten, sz := 1, elem := 189, st := 1 })] (.inr J) J (.own _ (by simp) (g1 om g0) (by show (0 : Nat) ≠ 2; decide) J (by decide) (by simp [keys]) J gT dP (.own _ (by simp) (g1 om (g1 om g0)) (by show (0 : Nat) ≠ 2; decide) J (by decide) (by simp [keys]) J gT dP .nil)) (by intro p hp; simp at hp; rcases hp with hp | hp <;> subst hp; exact ⟨_, g1 om g0, by show (0 : Nat) ≠ 2; decide, rfl⟩; exact ⟨_, g1 om (g1 om g0), by show (0 : Nat) ≠ 2; decide, rfl⟩)
  refine Wn <| aR J <| aE <| aI <| Rg 2 J <| Um J J <| Ua J J <| dA ?_
  have hux : us.getD i default < 4294967296 := bQ hud om
  have huy : us.getD (i + 1) default < 4294967296 := bQ hud om
  obtain ⟨Z, hZ⟩ : ∃ Z, Z = (us.getD i default + us.getD (i + 1) default * 4294967296) / 2 ^ sh := ⟨_, rfl⟩
  refine dW (z := 20) J kR <| Dm J J <| Dm J J <| Dm J J <| Dm J J <| aH (cA J J J J J om J) J <| aH (eJ (f := d32) (us := us) (j := i) J J g0 (fun _ => rfl) J (by decide) om J) J <| aH (cI ((us.getD i default : Int)) (cE J J J) (by rw [IntKind.wrap_u64]; omega)) J <| Dm J J <| Dm J J <| aH (cI (((i + 1 : Nat) : Int)) (aV J J om) om) J <| aH (cA (j := i + 1) J J J J om om J) J <| aH (eJ (f := d32) (us := us) (j := i + 1) J J g0 (fun _ => rfl) J (by decide) om J) J <| aH (cI ((us.getD (i + 1) default : Int)) (cE J J J) (by rw [IntKind.wrap_u64]; omega)) J <| aH (cI (((us.getD (i + 1) default * 4294967296 : Nat) : Int)) (oShlU (s := 32) J J om) om) J <| aH (fJ (v := .int .u64 (((us.getD i default + us.getD (i + 1) default * 4294967296) : Nat) : Int)) J J (or_lo om om)) J <| Dm J J <| aH (cI ((Z : Int)) (eP (s := sh) J J om) (by rw [hZ]; simp)) J <| aH (cI (((Z % 4294967296 : Nat) : Int)) (cE J J J) (by rw [IntKind.wrap_u32]; omega)) J <| aH (cA J J J J J om J) J <| cR (eC (f := d32) (us := rs) (Z % 4294967296) J J J (g1 om (g1 om g0)) (fun _ => rfl) J J om J) <| bJ (aY kR) J <| aG <| Ck [6,7,10,25,229,230] J ?_
  refine aJ (z := 2) J <| aA (cI (((i + 1 : Nat) : Int)) (aV J J om) om) J <| Um J J <| Wn <| aF <| ⟨⟨i + 1, q3, rs.set i (Z % 4294967296)⟩, ⟨rfl, rfl, rfl, congrArg some (by rw [List.length_set]), rfl, rfl, trivial⟩, ⟨g1 om g0, g1 om (g1 (by decide) g0), g0, trivial⟩, ⟨om, by rw [List.length_set]; exact hrl, hrd.set _ (Nat.mod_lt _ (by decide)), by rw [hZ]; exact rest_set om om hud om (hrz i (Nat.le_refl _)) hrv, ?_, hq3⟩, by show vs.length - (i + 1) < vs.length - i; omega⟩
  intro j hj
  rw [iF om]; exact hrz j om
 refine Wn <| aR J <| aE <| aI ?_
 have hu0 : us.getD (k - 1 + vs.length) default < 4294967296 := bQ hud om
 have hu1 : us.getD (k - 1 + vs.length - 1) default < 4294967296 := bQ hud om
 have LQh := lq_make (B := 4294967296) (by decide) (j := k - 1) hud hvd om om om (by rw [show k - 1 + 1 = k by omega]; exact hlt)
 obtain ⟨top, htop⟩ : ∃ top, top = us.getD (k - 1 + vs.length) default * 4294967296 + us.getD (k - 1 + vs.length - 1) default := ⟨_, rfl⟩
 obtain ⟨u2, hu2⟩ : ∃ z, z = us.getD (k - 1 + vs.length - 2) default := ⟨_, rfl⟩
 obtain ⟨v1, hv1⟩ : ∃ z, z = vs.getD (vs.length - 1) default := ⟨_, rfl⟩
 obtain ⟨v2, hv2⟩ : ∃ z, z = vs.getD (vs.length - 2) default := ⟨_, rfl⟩
 rw [← htop, ← hu2, ← hv1, ← hv2] at LQh
 have lu2 : u2 < 4294967296 := by rw [hu2]; exact bQ hud om
 have lv1 : v1 < 4294967296 := by rw [hv1]; exact bQ hvd om
 have lv2 : v2 < 4294967296 := by rw [hv2]; exact bQ hvd om
 have gv1 : 2147483648 ≤ v1 := by rw [hv1]; exact n3
 have htop2 : top < 18446744073709551616 := by omega
 have hRB := LQh.lt_pow (fK (B := 4294967296) (by decide) hvd)
 refine bN (z := 18) J kR <| Dm J J <| Dm J J <| Dm J J <| aH (cI (((k - 1 + vs.length : Nat) : Int)) (aV J J om) om) J <| aH (cA (j := k - 1 + vs.length) J J J J om om J) J <| aH (eJ (f := d32) (us := us) (j := k - 1 + vs.length) J J g0 (fun _ => rfl) J (by decide) om J) J <| aH (cI ((us.getD (k - 1 + vs.length) default : Int)) (cE J J J) (by rw [IntKind.wrap_u64]; omega)) J <| aH (cI (((us.getD (k - 1 + vs.length) default * 4294967296 : Nat) : Int)) (oShlU (s := 32) J J om) om) J <| Dm J J <| Dm J J <| Dm J J <| aH (cI (((k - 1 + vs.length : Nat) : Int)) (aV J J om) om) J <| aH (dN J J om) J <| aH (cA (j := k - 1 + vs.length - 1) J J J J om om J) J <| aH (eJ (f := d32) (us := us) (j := k - 1 + vs.length - 1) J J g0 (fun _ => rfl) J (by decide) om J) J <| aH (cI ((us.getD (k - 1 + vs.length - 1) default : Int)) (cE J J J) (by rw [IntKind.wrap_u64]; omega)) J <| aH (cI ((top : Int)) (fJ (v := .int .u64 ((us.getD (k - 1 + vs.length) default * 4294967296 + us.getD (k - 1 + vs.length - 1) default : Nat) : Int)) J J (or_hi om om)) (by rw [htop])) J <| aH (fR J) J <| bJ (aY kR) J <| Ck [6,7,8,9,10,11,12] J <| Rg 9 J <| Um J J <| Um J J ?_
 refine Um J J <| aA (dN J J om) J <| aA (bS (j := vs.length - 1) J J J J om om J) J <| aA (dL J J J) J <| aA (cI ((v1 : Int)) (cE J J J) (by rw [IntKind.wrap_u64]; omega)) J <| aA (oQuoU J J om om) J <| Ua J J <| Nk [6,7,8,9,10,11,12,13] J <| Rg 9 J <| Um J J <| Um J J <| Um J J <| aA (dN J J om) J <| aA (bS (j := vs.length - 1) J J J J om om J) J <| aA (dL J J J) J <| aA (cI ((v1 : Int)) (cE J J J) (by rw [IntKind.wrap_u64]; omega)) J <| aA (oRemU J J om) J <| Ua J J <| Nk [6,7,8,9,10,11,13,14] J <| aI <| aX (α := Nat × Nat) (fun ⟨qh, rh⟩ => [(6, .v (.int .i64 (sh : Int))), (7, .ref (0 + 2 + 8 + 2) 1 0 us.length), (8, .sl 1 (vs.map d32)), (9, .v (.int .i64 (vs.length : Int))), (10, .ref (0 + 2 + 8 + 9 + 3 + 4) 1 0 qs.length), (11, .v (.int .i64 ((k : Int) - 1))), (13, .v (.int .u64 (qh : Int))), (14, .v (.int .u64 (rh : Int)))]) (fun ⟨qh, rh⟩ => [((0 + 2 + 8 + 2), { cells := (us.map d32).flatten, sz := 1, elem := 189, st := 0 }), ((0 + 2 + 8 + 9 + 3 + 4), { cells := (qs.map d32).flatten, sz := 1, elem := 189, st := 0 })]) (fun ⟨qh, rh⟩ n => top = qh * v1 + rh ∧ val 4294967296 (us.drop (k - 1)) / val 4294967296 vs ≤ qh ∧ qh ≤ 4294967297 ∧ rh < 4294967296 ∧ 30 ≤ n) (fun ⟨qh, rh⟩ => qh) (top / v1, top % v1) ⟨J, J, J, J, J, J, J, J, trivial⟩ ⟨g0, g1 (by decide) g0, trivial⟩ ⟨(Nat.div_add_mod' top v1).symm, lq_start LQh (by decide), lq_first LQh (by decide), by have := Nat.mod_lt top (show 0 < v1 by omega); omega, om⟩ ?_
 rintro ⟨qh, rh⟩ n hG
 change WC _ _ _ _ _ (_ :: _) (_ :: _) n _
 obtain ⟨hG1, hG2, hG3, hG4, hn31⟩ := hG
 refine aB <| bN (z := 24) J kR <| Dm J J <| aH (mK J J) J <| WD.D (fun h91 => ?_) (fun h91 => ?_)
 ·refine Dm J J <| jC J J <| jC J J <| jC J J <| jC J J <| jC J J <| jC J J <| jC J J <| jC J J <| jC J J <| jC J J <| jC J J <| jC J J <| jC J J <| jC J J <| jC J J <| jC J J <| jC J J <| jC J J <| jC J J <| jC J J <| aH (bW J J) J <| bJ (aY kR) J <| Ck [6,7,8,9,10,11,13,14,93,94,95,96,97,98,99,100,101,102,103,104,105,106,107,108,109,110,111,112,113] J ?_
  refine aR J <| aE <| cN ?_
  obtain ⟨hdc1, hdc2⟩ := lq_dec LQh hG1 hG2 (by first | exact .inl om | exact .inr om)
  refine Rg 3 J <| Um J J <| aA (cI (((qh - 1 : Nat) : Int)) (gS J J) om) J <| Ua J J <| Nk [6,7,8,9,10,11,13,14,93,94,95,96,97,98,99,100,101,102,103,104,105,106,107,108,109,110,111,112] J <| Rg 9 J <| Um J J <| Um J J <| Um J J <| aA (dN J J om) J <| aA (bS (j := vs.length - 1) J J J J om om J) J <| aA (dL J J J) J <| aA (cI ((v1 : Int)) (cE J J J) (by rw [IntKind.wrap_u64]; omega)) J <| aA (cI (((rh + v1 : Nat) : Int)) (jK J J) om) J <| Ua J J <| Nk [6,7,8,9,10,11,13,14,93,94,95,96,97,98,99,100,101,102,103,104,105,106,107,108,109,110,111,112] J <| Rg 2 J <| Um J J <| aA (mK J J) J <| bE (fun h125 => ?_) (fun h125 => ?_)
  rotate_left
  ·refine Nk [6,7,8,9,10,11,13,14,93,94,95,96,97,98,99,100,101,102,103,104,105,106,107,108,109,110,111,112,125] J <| cH J <| cM <| dY <| aF <| ⟨⟨qh - 1, rh + v1⟩, ⟨J, J, J, J, J, J, J, J, trivial⟩, ⟨g0, g1 (by decide) g0, trivial⟩, ⟨dec_eq hG1 hdc1, hdc2, om, om, om⟩, by show qh - 1 < qh; omega⟩
  refine Nk [6,7,8,9,10,11,13,14,93,94,95,96,97,98,99,100,101,102,103,104,105,106,107,108,109,110,111,112,125] J <| cL J <| qA <| gZ J <| aN <| aO J <| Ck [6,7,8,9,10,11,13,93,94,95,96,97,98,99,100,101,102,103,104,105,106,107,108,109,110,111,112] J ?_
  obtain ⟨hql, hqo⟩ := lq_break LQh hG1 hdc1 hG4 om hG3
  replace hG2 := hdc2
  obtain ⟨q1, hq1⟩ : ∃ q1, q1 = qh - 1 := ⟨_, rfl⟩
  rw [← hq1] at hqo hql hG2 ⊢
  refine Rg 2 J <| Ua J J <| Ua J J <| Nk [6,7,8,9,10,11,13,15,16,93,94,95,96,97,98,99,100,101,102,103,104,105,106,107,108,109,110,111,112] J <| aB <| Rg 3 J <| Um J J <| aA (bD J J) J <| Um J J <| Nk [6,7,8,9,10,11,13,15,16,93,94,95,96,97,98,99,100,101,102,103,104,105,106,107,108,109,110,111,112,126,127,128] J <| aI ?_
  refine aX (α := Nat × Nat × Nat × (List Nat)) (fun ⟨i, c, b, us1⟩ => [(6, .v (.int .i64 (sh : Int))), (7, .ref (0 + 2 + 8 + 2) 1 0 us1.length), (8, .sl 1 (vs.map d32)), (9, .v (.int .i64 (vs.length : Int))), (10, .ref (0 + 2 + 8 + 9 + 3 + 4) 1 0 qs.length), (11, .v (.int .i64 ((k : Int) - 1))), (13, .v (.int .u64 (q1 : Int))), (15, .v (.int .u64 (b : Int))), (16, .v (.int .u64 (c : Int))), (126, .sl 1 (vs.map d32)), (127, .v (.int .i64 (vs.length : Int))), (128, .v (.int .i64 (i : Int)))]) (fun ⟨i, c, b, us1⟩ => [((0 + 2 + 8 + 2), { cells := (us1.map d32).flatten, sz := 1, elem := 189, st := 0 }), ((0 + 2 + 8 + 9 + 3 + 4), { cells := (qs.map d32).flatten, sz := 1, elem := 189, st := 0 })]) (fun ⟨i, c, b, us1⟩ n => i ≤ vs.length ∧ us1.length = us.length ∧ Dg 4294967296 us1 ∧ c < 4294967296 ∧ b ≤ 1 ∧ val 4294967296 us1 + 4294967296 ^ (k - 1) * (q1 * val 4294967296 (vs.take i)) = val 4294967296 us + 4294967296 ^ (k - 1 + i) * (c + b) ∧ us1.take (k - 1) = us.take (k - 1) ∧ us1.drop (k - 1 + i) = us.drop (k - 1 + i) ∧ 30 ≤ n) (fun ⟨i, c, b, us1⟩ => vs.length - i) (0, 0, 0, us) ⟨J, J, J, J, J, J, J, J, J, J, J, J, trivial⟩ ⟨g0, g1 (by decide) g0, trivial⟩ ⟨Nat.zero_le _, rfl, hud, by decide, by decide, by simp [val], rfl, rfl, om⟩ ?_
  rintro ⟨i, c, b, us1⟩ n hL
  change WC _ _ _ _ _ (_ :: _) (_ :: _) n _
  obtain ⟨hi, hl1, hd1, hc1, hb1, he1, ht1, hp1, hn32⟩ := hL
  refine Rg 1 J <| aA (bU J J) J <| bE (fun h129 => ?_) (fun h129 => ?_)
  ·refine Wn <| aR J <| aE <| aI ?_
   have hvi : vs.getD i default < 4294967296 := bQ hvd om
   have hui : us1.getD (k - 1 + i) default < 4294967296 := bQ hd1 om
   have hqv := iA hql hvi
   obtain ⟨p, hpe⟩ : ∃ p, p = q1 * vs.getD i default + c := ⟨_, rfl⟩
   obtain ⟨u, hue⟩ : ∃ u, u = us1.getD (k - 1 + i) default := ⟨_, rfl⟩
   have hpb : p < 18446744073709551616 := by omega
   obtain ⟨d, hde⟩ : ∃ d, d = (u + 4294967296 - p % 4294967296 - b) % 4294967296 := ⟨_, rfl⟩
   refine Rg 5 J <| Um J J <| aA (bS J J J J J om J) J <| aA (dL J J J) J <| Ua J J <| Ua J J <| Nk [6,7,8,9,10,11,13,15,16,17,18,126,127,128] J <| Rg 7 J <| Um J J <| Um J J <| aA (cI ((vs.getD i default : Int)) (cE J J J) (by rw [IntKind.wrap_u64]; omega)) J <| aA (cI (((q1 * vs.getD i default : Nat) : Int)) (mD J J) (by rw [← Int.natCast_mul]; omega)) J <| Um J J <| aA (cI ((p : Int)) (jK J J) om) J <| Ua J J <| Nk [6,7,8,9,10,11,13,15,17,19,126,127,128] J <| Rg 3 J <| Um J J <| aA (cI (((p / 4294967296 : Nat) : Int)) (eP (s := 32) J J om) om) J <| Ua J J <| Nk [6,7,8,9,10,11,13,15,16,17,19,126,127,128] J ?_
   refine Rg 14 J <| Um J J <| Um J J <| Um J J <| aA (cI (((k - 1 + i : Nat) : Int)) (aV J J om) om) J <| aA (cA (j := k - 1 + i) J J J J om om J) J <| aA (eJ (f := d32) (us := us1) (j := k - 1 + i) J J g0 (fun _ => rfl) J (by decide) om J) J <| aA (cI ((u : Int)) (cE J J J) (by rw [IntKind.wrap_u64]; omega)) J <| Um J J <| aA (cI (((p % 4294967296 : Nat) : Int)) (cE J J J) (by rw [IntKind.wrap_u32]; omega)) J <| aA (cI (((p % 4294967296 : Nat) : Int)) (cE J J J) (by rw [IntKind.wrap_u64]; omega)) J <| aA (gS J J) J <| Um J J <| aA (cI (((((u + 18446744073709551616 - p % 4294967296 - b) % 18446744073709551616) : Nat) : Int)) (gS J J) om) J <| Ua J J <| Nk [6,7,8,9,10,11,13,16,17,20,126,127,128] J <| Rg 8 J <| Um J J <| Um J J <| Um J J <| aA (cI (((k - 1 + i : Nat) : Int)) (aV J J om) om) J <| Um J J <| aA (cI ((d : Int)) (cE J J J) (by rw [IntKind.wrap_u32]; omega)) J ?_
   refine aA (cA (j := k - 1 + i) J J J J om om J) J <| aZ (eC (f := d32) (us := us1) d J J J g0 (fun _ => rfl) J J om J) <| Nk [6,7,8,9,10,11,13,16,20,126,127,128] J <| aJ (z := 3) J <| Um J J <| aA (cI (((if u < p % 4294967296 + b then 1 else 0 : Nat) : Int)) (eP (s := 63) J J om) (by split <;> omega)) J <| Ua J J <| Wn <| aG <| Ck [6,7,8,9,10,11,13,15,16,126,127,128] J <| aJ (z := 2) J <| aA (cI (((i + 1 : Nat) : Int)) (aV J J om) om) J <| Um J J <| Wn <| aF <| ⟨⟨i + 1, p / 4294967296, if u < p % 4294967296 + b then 1 else 0, us1.set (k - 1 + i) d⟩, ⟨rfl, congrArg some (by rw [List.length_set]), rfl, rfl, rfl, rfl, rfl, rfl, rfl, rfl, rfl, rfl, trivial⟩, ⟨g0, g1 (by decide) (g1 (by decide) g0), trivial⟩, ⟨om, by rw [List.length_set]; exact hl1, hd1.set _ om, om, by split <;> omega, ?_, by rw [cS om]; exact ht1, by rw [dB om]; exact fC hp1 om, om⟩, by show vs.length - (i + 1) < vs.length - i; omega⟩
   rw [hpe]
   exact lB he1 om (by rw [← hpe, ← hue, hde]; split <;> omega)
  refine Wn <| aT J <| aU <| aN <| aO J ?_
  have hi' : i = vs.length := by omega
  subst hi'
  rw [List.take_of_length_le (Nat.le_refl _)] at he1
  obtain ⟨u, hue⟩ : ∃ u, u = us1.getD (k - 1 + vs.length) default := ⟨_, rfl⟩
  have hul1 : u < 4294967296 := by rw [hue]; exact bQ hd1 om
  obtain ⟨d, hde⟩ : ∃ d, d = (u + 4294967296 - c - b) % 4294967296 := ⟨_, rfl⟩
  have hd4 : d < 4294967296 := by omega
  refine Rg 12 J <| Um J J <| Um J J <| Um J J <| aA (cI (((k - 1 + vs.length : Nat) : Int)) (aV J J om) om) J <| aA (cA (j := k - 1 + vs.length) J J J J om om J) J <| aA (eJ (f := d32) (us := us1) (j := k - 1 + vs.length) J J g0 (fun _ => rfl) J (by decide) om J) J <| aA (cI ((u : Int)) (cE J J J) (by rw [IntKind.wrap_u64]; omega)) J <| Um J J <| aA (gS J J) J <| Um J J <| aA (cI (((((u + 18446744073709551616 - c - b) % 18446744073709551616) : Nat) : Int)) (gS J J) om) J <| Ua J J <| Nk [6,7,8,9,10,11,13,21] J <| Rg 8 J <| Um J J <| Um J J <| Um J J <| aA (cI (((k - 1 + vs.length : Nat) : Int)) (aV J J om) om) J <| Um J J <| aA (cI ((d : Int)) (cE J J J) (by rw [IntKind.wrap_u32]; omega)) J <| aA (cA (j := k - 1 + vs.length) J J J J om om J) J <| aZ (eC (f := d32) (us := us1) d J J J g0 (fun _ => rfl) J J om J) ?_
  refine Nk [6,7,8,9,10,11,13,21] J <| aB <| Rg 3 J <| Um J J <| aA (cI (((if u < c + b then 1 else 0 : Nat) : Int)) (eP (s := 63) J J om) (by split <;> omega)) J <| aA (gB J J) J <| bE (fun h184 => ?_) (fun h184 => ?_)
  rotate_left
  ·have hneg : c + b ≤ u := by
    rcases Nat.lt_or_ge u (c + b) with h | h
    ·rw [if_pos h] at h184; simp at h184
    ·exact h
   have hs2 := jO (o := 0) (d := d) he1 om (by rw [← hue]; omega)
   rw [Nat.mul_zero, Nat.add_zero] at hs2
   refine Wn <| aT J <| aE ?_
   have hlF : (us1.set (k - 1 + vs.length) d).length = us.length := by rw [List.length_set]; exact hl1
   have hdF : Dg 4294967296 (us1.set (k - 1 + vs.length) d) := hd1.set _ hd4
   have hltF := oR (by decide) hV0 om om (by rw [cS om]; exact ht1) hs2 hG2
   have hUF := iG (qs := qs) (j := k - 1) om (by rw [show k - 1 + 1 = k by omega]; exact hU) hs2
   refine aJ (z := 6) J <| Um J J <| Um J J <| Um J J <| aA (cI ((q1 : Int)) (cE J J J) (by rw [IntKind.wrap_u32]; omega)) J <| aA (cA (j := k - 1) J J J J om om J) J <| aZ (eC (f := d32) (us := qs) q1 J J J (g1 (by decide) (g1 (by decide) g0)) (fun _ => rfl) J J om J) <| Wn <| aG <| Ck [6,7,8,9,10,11] J <| aJ (z := 3) J <| Um J J <| aA (cI (((k - 1 : Nat) : Int) - 1) (dN J J om) om) J <| Ua J J <| Wn <| aF <| ⟨⟨k - 1, (us1.set (k - 1 + vs.length) d), qs.set (k - 1) q1⟩, ⟨rfl, congrArg some (by rw [List.length_set]), rfl, rfl, congrArg some (by rw [List.length_set]), rfl, trivial⟩, ⟨g1 (by decide) g0, g0, trivial⟩, ⟨by rw [hlF]; omega, by rw [hlF]; exact hul, by rw [List.length_set]; exact hql0, hdF, hqd.set _ om, hUF, hltF, om⟩, by show k - 1 < k; omega⟩
  have hneg : u < c + b := by
   rcases Nat.lt_or_ge u (c + b) with h | h
   ·exact h
   ·rw [if_neg om] at h184; simp at h184
  have hs2 := jO (o := 1) (d := d) he1 om (by rw [← hue]; omega)
  have hlT : (us1.set (k - 1 + vs.length) d).length = us.length := by rw [List.length_set]; exact hl1
  have hdT : Dg 4294967296 (us1.set (k - 1 + vs.length) d) := hd1.set _ hd4
  have htT : (us1.set (k - 1 + vs.length) d).take (k - 1) = us.take (k - 1) := by rw [cS om]; exact ht1
  have hpT : (us1.set (k - 1 + vs.length) d).drop (k - 1 + vs.length + 1) = us.drop (k - 1 + vs.length + 1) := by rw [dB om]; exact fC hp1 om
  obtain ⟨hgt, hq1p⟩ := neg_gt (by decide) hdT om hlT hRB hpT htT hs2
  refine Wn <| aR J <| aB <| Rg 3 J <| Um J J <| aA (cI (((q1 - 1 : Nat) : Int)) (gS J J) om) J <| Ua J J <| Wn <| aB <| Rg 1 J <| Ua J J <| Wn <| aB <| aB <| Rg 3 J <| Um J J <| aA (bD J J) J <| Um J J <| Nk [6,7,8,9,10,11,13,22,187,188,189] J <| aI <| aX (α := Nat × Nat × (List Nat)) (fun ⟨i2, c2, us3⟩ => [(6, .v (.int .i64 (sh : Int))), (7, .ref (0 + 2 + 8 + 2) 1 0 us3.length), (8, .sl 1 (vs.map d32)), (9, .v (.int .i64 (vs.length : Int))), (10, .ref (0 + 2 + 8 + 9 + 3 + 4) 1 0 qs.length), (11, .v (.int .i64 ((k : Int) - 1))), (13, .v (.int .u64 ((q1 - 1 : Nat) : Int))), (22, .v (.int .u32 (c2 : Int))), (187, .sl 1 (vs.map d32)), (188, .v (.int .i64 (vs.length : Int))), (189, .v (.int .i64 (i2 : Int)))]) (fun ⟨i2, c2, us3⟩ => [((0 + 2 + 8 + 2), { cells := (us3.map d32).flatten, sz := 1, elem := 189, st := 0 }), ((0 + 2 + 8 + 9 + 3 + 4), { cells := (qs.map d32).flatten, sz := 1, elem := 189, st := 0 })]) (fun ⟨i2, c2, us3⟩ n => i2 ≤ vs.length ∧ us3.length = us.length ∧ Dg 4294967296 us3 ∧ c2 ≤ 1 ∧ val 4294967296 us3 + 4294967296 ^ (k - 1 + i2) * c2 = val 4294967296 (us1.set (k - 1 + vs.length) d) + 4294967296 ^ (k - 1) * val 4294967296 (vs.take i2) ∧ us3.take (k - 1) = us.take (k - 1) ∧ us3.drop (k - 1 + vs.length) = (us1.set (k - 1 + vs.length) d).drop (k - 1 + vs.length) ∧ 30 ≤ n) (fun ⟨i2, c2, us3⟩ => vs.length - i2) (0, 0, (us1.set (k - 1 + vs.length) d)) ⟨rfl, congrArg some (by rw [List.length_set]), rfl, rfl, rfl, rfl, rfl, rfl, rfl, rfl, rfl, trivial⟩ ⟨g0, g1 (by decide) (g1 (by decide) g0), trivial⟩ ⟨Nat.zero_le _, hlT, hdT, by decide, by simp [val], htT, rfl, om⟩ ?_
  rintro ⟨i2, c2, us3⟩ n hM
  change WC _ _ _ _ _ (_ :: _) (_ :: _) n _
  obtain ⟨hi2, hl3, hd3, hc3, he3, ht3, hp3, hn33⟩ := hM
  refine Rg 1 J <| aA (bU J J) J <| bE (fun h190 => ?_) (fun h190 => ?_)
  ·refine Wn <| aR J <| aE <| aI <| Rg 5 J <| Um J J <| aA (bS J J J J J om J) J <| aA (dL J J J) J <| Ua J J <| Ua J J <| Nk [6,7,8,9,10,11,13,22,23,24,187,188,189] J ?_
   have hu3 : us3.getD (k - 1 + i2) default < 4294967296 := bQ hd3 om
   have hv3 : vs.getD i2 default < 4294967296 := bQ hvd om
   refine aJ (z := 19) J <| Um J J <| Um J J <| Um J J <| aA (cI (((k - 1 + i2 : Nat) : Int)) (aV J J om) om) J <| Um J J <| Um J J <| Um J J <| aA (cI (((k - 1 + i2 : Nat) : Int)) (aV J J om) om) J <| aA (cA (j := k - 1 + i2) J J J J om om J) J <| aA (eJ (f := d32) (us := us3) (j := k - 1 + i2) J J g0 (fun _ => rfl) J (by decide) om J) J <| Um J J <| Um J J <| aA (aK J (jD (us3.getD (k - 1 + i2) default) (vs.getD i2 default) c2 hu3 hv3 hc3) (by simp)) J <| Um J J <| aA (cW J J) J <| aA (cW J J) J <| aA (cA (j := k - 1 + i2) J J J J om om J) J <| aZ (eC (f := d32) (us := us3) ((us3.getD (k - 1 + i2) default + vs.getD i2 default + c2) % 4294967296) J J J g0 (fun _ => rfl) J J om J) <| Ua J J <| Wn <| aG <| Ck [6,7,8,9,10,11,13,22,187,188,189] J <| aJ (z := 2) J ?_
   refine aA (cI (((i2 + 1 : Nat) : Int)) (aV J J om) om) J <| Um J J <| Wn <| aF <| ⟨⟨i2 + 1, _, us3.set (k - 1 + i2) ((us3.getD (k - 1 + i2) default + vs.getD i2 default + c2) % 4294967296)⟩, ⟨rfl, congrArg some (by rw [List.length_set]), rfl, rfl, rfl, rfl, rfl, rfl, rfl, rfl, rfl, trivial⟩, ⟨g0, g1 (by decide) (g1 (by decide) g0), trivial⟩, ⟨om, by rw [List.length_set]; exact hl3, hd3.set _ om, om, jV he3 om, by rw [cS om]; exact ht3, by rw [dB om]; exact hp3, om⟩, by show vs.length - (i2 + 1) < vs.length - i2; omega⟩
  refine Wn <| aT J <| aU <| aN <| aO J ?_
  have hi' : i2 = vs.length := by omega
  subst hi'
  rw [List.take_of_length_le (Nat.le_refl _)] at he3
  have hu3 : us3.getD (k - 1 + vs.length) default < 4294967296 := bQ hd3 om
  refine Rg 10 J <| Um J J <| Um J J <| Um J J <| aA (cI (((k - 1 + vs.length : Nat) : Int)) (aV J J om) om) J <| aA (cA (j := k - 1 + vs.length) J J J J om om J) J <| aA (eJ (f := d32) (us := us3) (j := k - 1 + vs.length) J J g0 (fun _ => rfl) J (by decide) om J) J <| Um J J <| aA (cI ((((us3.getD (k - 1 + vs.length) default + c2) % 4294967296 : Nat) : Int)) (oAdd32 J J) om) J <| aA (cA (j := k - 1 + vs.length) J J J J om om J) J <| aZ (eC (f := d32) (us := us3) ((us3.getD (k - 1 + vs.length) default + c2) % 4294967296) J J J g0 (fun _ => rfl) J J om J) <| Nk [6,7,8,9,10,11,13] J ?_
  have hlF : (us3.set (k - 1 + vs.length) ((us3.getD (k - 1 + vs.length) default + c2) % 4294967296)).length = us.length := by rw [List.length_set]; exact hl3
  have hdF : Dg 4294967296 (us3.set (k - 1 + vs.length) ((us3.getD (k - 1 + vs.length) default + c2) % 4294967296)) := hd3.set _ om
  have h4 := jU he3 om
  obtain ⟨hs4, hltF⟩ := qY (by decide) hV0 hdF om hlF hRB (by rw [dB om]; exact (fC hp3 om).trans hpT) (by rw [cS om]; exact ht3) hs2 h4 hG2 hq1p hqo hgt om
  have hUF := iG (qs := qs) (j := k - 1) om (by rw [show k - 1 + 1 = k by omega]; exact hU) hs4
  refine aJ (z := 6) J <| Um J J <| Um J J <| Um J J <| aA (cI (((q1 - 1 : Nat) : Int)) (cE J J J) (by rw [IntKind.wrap_u32]; omega)) J <| aA (cA (j := k - 1) J J J J om om J) J <| aZ (eC (f := d32) (us := qs) (q1 - 1) J J J (g1 (by decide) (g1 (by decide) g0)) (fun _ => rfl) J J om J) <| Wn <| aG <| aJ (z := 3) J <| Um J J <| aA (cI (((k - 1 : Nat) : Int) - 1) (dN J J om) om) J <| Ua J J <| Wn <| aF <| ⟨⟨k - 1, (us3.set (k - 1 + vs.length) ((us3.getD (k - 1 + vs.length) default + c2) % 4294967296)), qs.set (k - 1) (q1 - 1)⟩, ⟨rfl, congrArg some (by rw [List.length_set]), rfl, rfl, congrArg some (by rw [List.length_set]), rfl, trivial⟩, ⟨g1 (by decide) g0, g0, trivial⟩, ⟨by rw [hlF]; omega, by rw [hlF]; exact hul, by rw [List.length_set]; exact hql0, hdF, hqd.set _ om, hUF, hltF, om⟩, by show k - 1 < k; omega⟩
 refine Dm J J <| fN J (dU J) J <| fN J (dU J) J <| fN J (dU J) J <| fN J (dN J J om) J <| fN J (bS (j := vs.length - 2) J J J J om om J) J <| fN J (dL J J J) J <| fN J (cI ((v2 : Int)) (cE J J J) (by rw [IntKind.wrap_u64]; omega)) J <| fN J (cI (((qh * v2 : Nat) : Int)) (mD J J) (by rw [← Int.natCast_mul]; have := iA (a := qh) (b := v2) om om; omega)) J <| fN J (dU J) J <| fN J (cI (((rh * 4294967296 : Nat) : Int)) (oShlU (s := 32) J J om) om) J <| fN J (dU J) J <| fN J (dU J) J <| fN J (dU J) J <| fN J (cI (((k - 1 + vs.length : Nat) : Int)) (aV J J om) om) J <| fN J (dN J J om) J <| fN J (cA (j := k - 1 + vs.length - 2) J J J J om om J) J <| fN J (eJ (f := d32) (us := us) (j := k - 1 + vs.length - 2) J J g0 (fun _ => rfl) J (by decide) om J) J <| fN J (cI ((u2 : Int)) (cE J J J) (by rw [IntKind.wrap_u64]; omega)) J <| fN J (fJ (v := .int .u64 ((rh * 4294967296 + u2 : Nat) : Int)) J J (or_hi om om)) J <| fN J (gW J J) J <| WD.D (fun h112 => ?_) (fun h112 => ?_)
 rotate_left
 ·refine aH (cG J J) J <| bJ (aY kR) J <| Ck [6,7,8,9,10,11,13,14,93,94,95,96,97,98,99,100,101,102,103,104,105,106,107,108,109,110,111,112,113] J <| aT J <| aU <| aN <| aO J <| Ck [6,7,8,9,10,11,13,93,94,95,96,97,98,99,100,101,102,103,104,105,106,107,108,109,110,111,112] J ?_
  have hqo := lq_ok LQh hG1 (show qh < 4294967296 by omega) om
  have hql : qh < 4294967296 := by omega
  obtain ⟨q1, hq1⟩ : ∃ q1, q1 = qh := ⟨_, rfl⟩
  rw [← hq1] at hqo hql hG2 ⊢
  refine Rg 2 J <| Ua J J <| Ua J J <| Nk [6,7,8,9,10,11,13,15,16,93,94,95,96,97,98,99,100,101,102,103,104,105,106,107,108,109,110,111,112] J <| aB <| Rg 3 J <| Um J J <| aA (bD J J) J <| Um J J <| Nk [6,7,8,9,10,11,13,15,16,93,94,95,96,97,98,99,100,101,102,103,104,105,106,107,108,109,110,111,112,126,127,128] J <| aI ?_
  refine aX (α := Nat × Nat × Nat × (List Nat)) (fun ⟨i, c, b, us1⟩ => [(6, .v (.int .i64 (sh : Int))), (7, .ref (0 + 2 + 8 + 2) 1 0 us1.length), (8, .sl 1 (vs.map d32)), (9, .v (.int .i64 (vs.length : Int))), (10, .ref (0 + 2 + 8 + 9 + 3 + 4) 1 0 qs.length), (11, .v (.int .i64 ((k : Int) - 1))), (13, .v (.int .u64 (q1 : Int))), (15, .v (.int .u64 (b : Int))), (16, .v (.int .u64 (c : Int))), (126, .sl 1 (vs.map d32)), (127, .v (.int .i64 (vs.length : Int))), (128, .v (.int .i64 (i : Int)))]) (fun ⟨i, c, b, us1⟩ => [((0 + 2 + 8 + 2), { cells := (us1.map d32).flatten, sz := 1, elem := 189, st := 0 }), ((0 + 2 + 8 + 9 + 3 + 4), { cells := (qs.map d32).flatten, sz := 1, elem := 189, st := 0 })]) (fun ⟨i, c, b, us1⟩ n => i ≤ vs.length ∧ us1.length = us.length ∧ Dg 4294967296 us1 ∧ c < 4294967296 ∧ b ≤ 1 ∧ val 4294967296 us1 + 4294967296 ^ (k - 1) * (q1 * val 4294967296 (vs.take i)) = val 4294967296 us + 4294967296 ^ (k - 1 + i) * (c + b) ∧ us1.take (k - 1) = us.take (k - 1) ∧ us1.drop (k - 1 + i) = us.drop (k - 1 + i) ∧ 30 ≤ n) (fun ⟨i, c, b, us1⟩ => vs.length - i) (0, 0, 0, us) ⟨J, J, J, J, J, J, J, J, J, J, J, J, trivial⟩ ⟨g0, g1 (by decide) g0, trivial⟩ ⟨Nat.zero_le _, rfl, hud, by decide, by decide, by simp [val], rfl, rfl, om⟩ ?_
  rintro ⟨i, c, b, us1⟩ n hL
  change WC _ _ _ _ _ (_ :: _) (_ :: _) n _
  obtain ⟨hi, hl1, hd1, hc1, hb1, he1, ht1, hp1, hn32⟩ := hL
  refine Rg 1 J <| aA (bU J J) J <| bE (fun h129 => ?_) (fun h129 => ?_)
  ·refine Wn <| aR J <| aE <| aI ?_
   have hvi : vs.getD i default < 4294967296 := bQ hvd om
   have hui : us1.getD (k - 1 + i) default < 4294967296 := bQ hd1 om
   have hqv := iA hql hvi
   obtain ⟨p, hpe⟩ : ∃ p, p = q1 * vs.getD i default + c := ⟨_, rfl⟩
   obtain ⟨u, hue⟩ : ∃ u, u = us1.getD (k - 1 + i) default := ⟨_, rfl⟩
   have hpb : p < 18446744073709551616 := by omega
   obtain ⟨d, hde⟩ : ∃ d, d = (u + 4294967296 - p % 4294967296 - b) % 4294967296 := ⟨_, rfl⟩
   refine Rg 5 J <| Um J J <| aA (bS J J J J J om J) J <| aA (dL J J J) J <| Ua J J <| Ua J J <| Nk [6,7,8,9,10,11,13,15,16,17,18,126,127,128] J <| Rg 7 J <| Um J J <| Um J J <| aA (cI ((vs.getD i default : Int)) (cE J J J) (by rw [IntKind.wrap_u64]; omega)) J <| aA (cI (((q1 * vs.getD i default : Nat) : Int)) (mD J J) (by rw [← Int.natCast_mul]; omega)) J <| Um J J <| aA (cI ((p : Int)) (jK J J) om) J <| Ua J J <| Nk [6,7,8,9,10,11,13,15,17,19,126,127,128] J <| Rg 3 J <| Um J J <| aA (cI (((p / 4294967296 : Nat) : Int)) (eP (s := 32) J J om) om) J <| Ua J J <| Nk [6,7,8,9,10,11,13,15,16,17,19,126,127,128] J ?_
   refine Rg 14 J <| Um J J <| Um J J <| Um J J <| aA (cI (((k - 1 + i : Nat) : Int)) (aV J J om) om) J <| aA (cA (j := k - 1 + i) J J J J om om J) J <| aA (eJ (f := d32) (us := us1) (j := k - 1 + i) J J g0 (fun _ => rfl) J (by decide) om J) J <| aA (cI ((u : Int)) (cE J J J) (by rw [IntKind.wrap_u64]; omega)) J <| Um J J <| aA (cI (((p % 4294967296 : Nat) : Int)) (cE J J J) (by rw [IntKind.wrap_u32]; omega)) J <| aA (cI (((p % 4294967296 : Nat) : Int)) (cE J J J) (by rw [IntKind.wrap_u64]; omega)) J <| aA (gS J J) J <| Um J J <| aA (cI (((((u + 18446744073709551616 - p % 4294967296 - b) % 18446744073709551616) : Nat) : Int)) (gS J J) om) J <| Ua J J <| Nk [6,7,8,9,10,11,13,16,17,20,126,127,128] J <| Rg 8 J <| Um J J <| Um J J <| Um J J <| aA (cI (((k - 1 + i : Nat) : Int)) (aV J J om) om) J <| Um J J <| aA (cI ((d : Int)) (cE J J J) (by rw [IntKind.wrap_u32]; omega)) J ?_
   refine aA (cA (j := k - 1 + i) J J J J om om J) J <| aZ (eC (f := d32) (us := us1) d J J J g0 (fun _ => rfl) J J om J) <| Nk [6,7,8,9,10,11,13,16,20,126,127,128] J <| aJ (z := 3) J <| Um J J <| aA (cI (((if u < p % 4294967296 + b then 1 else 0 : Nat) : Int)) (eP (s := 63) J J om) (by split <;> omega)) J <| Ua J J <| Wn <| aG <| Ck [6,7,8,9,10,11,13,15,16,126,127,128] J <| aJ (z := 2) J <| aA (cI (((i + 1 : Nat) : Int)) (aV J J om) om) J <| Um J J <| Wn <| aF <| ⟨⟨i + 1, p / 4294967296, if u < p % 4294967296 + b then 1 else 0, us1.set (k - 1 + i) d⟩, ⟨rfl, congrArg some (by rw [List.length_set]), rfl, rfl, rfl, rfl, rfl, rfl, rfl, rfl, rfl, rfl, trivial⟩, ⟨g0, g1 (by decide) (g1 (by decide) g0), trivial⟩, ⟨om, by rw [List.length_set]; exact hl1, hd1.set _ om, om, by split <;> omega, ?_, by rw [cS om]; exact ht1, by rw [dB om]; exact fC hp1 om, om⟩, by show vs.length - (i + 1) < vs.length - i; omega⟩
   rw [hpe]
   exact lB he1 om (by rw [← hpe, ← hue, hde]; split <;> omega)
  refine Wn <| aT J <| aU <| aN <| aO J ?_
  have hi' : i = vs.length := by omega
  subst hi'
  rw [List.take_of_length_le (Nat.le_refl _)] at he1
  obtain ⟨u, hue⟩ : ∃ u, u = us1.getD (k - 1 + vs.length) default := ⟨_, rfl⟩
  have hul1 : u < 4294967296 := by rw [hue]; exact bQ hd1 om
  obtain ⟨d, hde⟩ : ∃ d, d = (u + 4294967296 - c - b) % 4294967296 := ⟨_, rfl⟩
  have hd4 : d < 4294967296 := by omega
  refine Rg 12 J <| Um J J <| Um J J <| Um J J <| aA (cI (((k - 1 + vs.length : Nat) : Int)) (aV J J om) om) J <| aA (cA (j := k - 1 + vs.length) J J J J om om J) J <| aA (eJ (f := d32) (us := us1) (j := k - 1 + vs.length) J J g0 (fun _ => rfl) J (by decide) om J) J <| aA (cI ((u : Int)) (cE J J J) (by rw [IntKind.wrap_u64]; omega)) J <| Um J J <| aA (gS J J) J <| Um J J <| aA (cI (((((u + 18446744073709551616 - c - b) % 18446744073709551616) : Nat) : Int)) (gS J J) om) J <| Ua J J <| Nk [6,7,8,9,10,11,13,21] J <| Rg 8 J <| Um J J <| Um J J <| Um J J <| aA (cI (((k - 1 + vs.length : Nat) : Int)) (aV J J om) om) J <| Um J J <| aA (cI ((d : Int)) (cE J J J) (by rw [IntKind.wrap_u32]; omega)) J <| aA (cA (j := k - 1 + vs.length) J J J J om om J) J <| aZ (eC (f := d32) (us := us1) d J J J g0 (fun _ => rfl) J J om J) ?_
  refine Nk [6,7,8,9,10,11,13,21] J <| aB <| Rg 3 J <| Um J J <| aA (cI (((if u < c + b then 1 else 0 : Nat) : Int)) (eP (s := 63) J J om) (by split <;> omega)) J <| aA (gB J J) J <| bE (fun h184 => ?_) (fun h184 => ?_)
  rotate_left
  ·have hneg : c + b ≤ u := by
    rcases Nat.lt_or_ge u (c + b) with h | h
    ·rw [if_pos h] at h184; simp at h184
    ·exact h
   have hs2 := jO (o := 0) (d := d) he1 om (by rw [← hue]; omega)
   rw [Nat.mul_zero, Nat.add_zero] at hs2
   refine Wn <| aT J <| aE ?_
   have hlF : (us1.set (k - 1 + vs.length) d).length = us.length := by rw [List.length_set]; exact hl1
   have hdF : Dg 4294967296 (us1.set (k - 1 + vs.length) d) := hd1.set _ hd4
   have hltF := oR (by decide) hV0 om om (by rw [cS om]; exact ht1) hs2 hG2
   have hUF := iG (qs := qs) (j := k - 1) om (by rw [show k - 1 + 1 = k by omega]; exact hU) hs2
   refine aJ (z := 6) J <| Um J J <| Um J J <| Um J J <| aA (cI ((q1 : Int)) (cE J J J) (by rw [IntKind.wrap_u32]; omega)) J <| aA (cA (j := k - 1) J J J J om om J) J <| aZ (eC (f := d32) (us := qs) q1 J J J (g1 (by decide) (g1 (by decide) g0)) (fun _ => rfl) J J om J) <| Wn <| aG <| Ck [6,7,8,9,10,11] J <| aJ (z := 3) J <| Um J J <| aA (cI (((k - 1 : Nat) : Int) - 1) (dN J J om) om) J <| Ua J J <| Wn <| aF <| ⟨⟨k - 1, (us1.set (k - 1 + vs.length) d), qs.set (k - 1) q1⟩, ⟨rfl, congrArg some (by rw [List.length_set]), rfl, rfl, congrArg some (by rw [List.length_set]), rfl, trivial⟩, ⟨g1 (by decide) g0, g0, trivial⟩, ⟨by rw [hlF]; omega, by rw [hlF]; exact hul, by rw [List.length_set]; exact hql0, hdF, hqd.set _ om, hUF, hltF, om⟩, by show k - 1 < k; omega⟩
  have hneg : u < c + b := by
   rcases Nat.lt_or_ge u (c + b) with h | h
   ·exact h
   ·rw [if_neg om] at h184; simp at h184
  have hs2 := jO (o := 1) (d := d) he1 om (by rw [← hue]; omega)
  have hlT : (us1.set (k - 1 + vs.length) d).length = us.length := by rw [List.length_set]; exact hl1
  have hdT : Dg 4294967296 (us1.set (k - 1 + vs.length) d) := hd1.set _ hd4
  have htT : (us1.set (k - 1 + vs.length) d).take (k - 1) = us.take (k - 1) := by rw [cS om]; exact ht1
  have hpT : (us1.set (k - 1 + vs.length) d).drop (k - 1 + vs.length + 1) = us.drop (k - 1 + vs.length + 1) := by rw [dB om]; exact fC hp1 om
  obtain ⟨hgt, hq1p⟩ := neg_gt (by decide) hdT om hlT hRB hpT htT hs2
  refine Wn <| aR J <| aB <| Rg 3 J <| Um J J <| aA (cI (((q1 - 1 : Nat) : Int)) (gS J J) om) J <| Ua J J <| Wn <| aB <| Rg 1 J <| Ua J J <| Wn <| aB <| aB <| Rg 3 J <| Um J J <| aA (bD J J) J <| Um J J <| Nk [6,7,8,9,10,11,13,22,187,188,189] J <| aI <| aX (α := Nat × Nat × (List Nat)) (fun ⟨i2, c2, us3⟩ => [(6, .v (.int .i64 (sh : Int))), (7, .ref (0 + 2 + 8 + 2) 1 0 us3.length), (8, .sl 1 (vs.map d32)), (9, .v (.int .i64 (vs.length : Int))), (10, .ref (0 + 2 + 8 + 9 + 3 + 4) 1 0 qs.length), (11, .v (.int .i64 ((k : Int) - 1))), (13, .v (.int .u64 ((q1 - 1 : Nat) : Int))), (22, .v (.int .u32 (c2 : Int))), (187, .sl 1 (vs.map d32)), (188, .v (.int .i64 (vs.length : Int))), (189, .v (.int .i64 (i2 : Int)))]) (fun ⟨i2, c2, us3⟩ => [((0 + 2 + 8 + 2), { cells := (us3.map d32).flatten, sz := 1, elem := 189, st := 0 }), ((0 + 2 + 8 + 9 + 3 + 4), { cells := (qs.map d32).flatten, sz := 1, elem := 189, st := 0 })]) (fun ⟨i2, c2, us3⟩ n => i2 ≤ vs.length ∧ us3.length = us.length ∧ Dg 4294967296 us3 ∧ c2 ≤ 1 ∧ val 4294967296 us3 + 4294967296 ^ (k - 1 + i2) * c2 = val 4294967296 (us1.set (k - 1 + vs.length) d) + 4294967296 ^ (k - 1) * val 4294967296 (vs.take i2) ∧ us3.take (k - 1) = us.take (k - 1) ∧ us3.drop (k - 1 + vs.length) = (us1.set (k - 1 + vs.length) d).drop (k - 1 + vs.length) ∧ 30 ≤ n) (fun ⟨i2, c2, us3⟩ => vs.length - i2) (0, 0, (us1.set (k - 1 + vs.length) d)) ⟨rfl, congrArg some (by rw [List.length_set]), rfl, rfl, rfl, rfl, rfl, rfl, rfl, rfl, rfl, trivial⟩ ⟨g0, g1 (by decide) (g1 (by decide) g0), trivial⟩ ⟨Nat.zero_le _, hlT, hdT, by decide, by simp [val], htT, rfl, om⟩ ?_
  rintro ⟨i2, c2, us3⟩ n hM
  change WC _ _ _ _ _ (_ :: _) (_ :: _) n _
  obtain ⟨hi2, hl3, hd3, hc3, he3, ht3, hp3, hn33⟩ := hM
  refine Rg 1 J <| aA (bU J J) J <| bE (fun h190 => ?_) (fun h190 => ?_)
  ·refine Wn <| aR J <| aE <| aI <| Rg 5 J <| Um J J <| aA (bS J J J J J om J) J <| aA (dL J J J) J <| Ua J J <| Ua J J <| Nk [6,7,8,9,10,11,13,22,23,24,187,188,189] J ?_
   have hu3 : us3.getD (k - 1 + i2) default < 4294967296 := bQ hd3 om
   have hv3 : vs.getD i2 default < 4294967296 := bQ hvd om
   refine aJ (z := 19) J <| Um J J <| Um J J <| Um J J <| aA (cI (((k - 1 + i2 : Nat) : Int)) (aV J J om) om) J <| Um J J <| Um J J <| Um J J <| aA (cI (((k - 1 + i2 : Nat) : Int)) (aV J J om) om) J <| aA (cA (j := k - 1 + i2) J J J J om om J) J <| aA (eJ (f := d32) (us := us3) (j := k - 1 + i2) J J g0 (fun _ => rfl) J (by decide) om J) J <| Um J J <| Um J J <| aA (aK J (jD (us3.getD (k - 1 + i2) default) (vs.getD i2 default) c2 hu3 hv3 hc3) (by simp)) J <| Um J J <| aA (cW J J) J <| aA (cW J J) J <| aA (cA (j := k - 1 + i2) J J J J om om J) J <| aZ (eC (f := d32) (us := us3) ((us3.getD (k - 1 + i2) default + vs.getD i2 default + c2) % 4294967296) J J J g0 (fun _ => rfl) J J om J) <| Ua J J <| Wn <| aG <| Ck [6,7,8,9,10,11,13,22,187,188,189] J <| aJ (z := 2) J ?_
   refine aA (cI (((i2 + 1 : Nat) : Int)) (aV J J om) om) J <| Um J J <| Wn <| aF <| ⟨⟨i2 + 1, _, us3.set (k - 1 + i2) ((us3.getD (k - 1 + i2) default + vs.getD i2 default + c2) % 4294967296)⟩, ⟨rfl, congrArg some (by rw [List.length_set]), rfl, rfl, rfl, rfl, rfl, rfl, rfl, rfl, rfl, trivial⟩, ⟨g0, g1 (by decide) (g1 (by decide) g0), trivial⟩, ⟨om, by rw [List.length_set]; exact hl3, hd3.set _ om, om, jV he3 om, by rw [cS om]; exact ht3, by rw [dB om]; exact hp3, om⟩, by show vs.length - (i2 + 1) < vs.length - i2; omega⟩
  refine Wn <| aT J <| aU <| aN <| aO J ?_
  have hi' : i2 = vs.length := by omega
  subst hi'
  rw [List.take_of_length_le (Nat.le_refl _)] at he3
  have hu3 : us3.getD (k - 1 + vs.length) default < 4294967296 := bQ hd3 om
  refine Rg 10 J <| Um J J <| Um J J <| Um J J <| aA (cI (((k - 1 + vs.length : Nat) : Int)) (aV J J om) om) J <| aA (cA (j := k - 1 + vs.length) J J J J om om J) J <| aA (eJ (f := d32) (us := us3) (j := k - 1 + vs.length) J J g0 (fun _ => rfl) J (by decide) om J) J <| Um J J <| aA (cI ((((us3.getD (k - 1 + vs.length) default + c2) % 4294967296 : Nat) : Int)) (oAdd32 J J) om) J <| aA (cA (j := k - 1 + vs.length) J J J J om om J) J <| aZ (eC (f := d32) (us := us3) ((us3.getD (k - 1 + vs.length) default + c2) % 4294967296) J J J g0 (fun _ => rfl) J J om J) <| Nk [6,7,8,9,10,11,13] J ?_
  have hlF : (us3.set (k - 1 + vs.length) ((us3.getD (k - 1 + vs.length) default + c2) % 4294967296)).length = us.length := by rw [List.length_set]; exact hl3
  have hdF : Dg 4294967296 (us3.set (k - 1 + vs.length) ((us3.getD (k - 1 + vs.length) default + c2) % 4294967296)) := hd3.set _ om
  have h4 := jU he3 om
  obtain ⟨hs4, hltF⟩ := qY (by decide) hV0 hdF om hlF hRB (by rw [dB om]; exact (fC hp3 om).trans hpT) (by rw [cS om]; exact ht3) hs2 h4 hG2 hq1p hqo hgt om
  have hUF := iG (qs := qs) (j := k - 1) om (by rw [show k - 1 + 1 = k by omega]; exact hU) hs4
  refine aJ (z := 6) J <| Um J J <| Um J J <| Um J J <| aA (cI (((q1 - 1 : Nat) : Int)) (cE J J J) (by rw [IntKind.wrap_u32]; omega)) J <| aA (cA (j := k - 1) J J J J om om J) J <| aZ (eC (f := d32) (us := qs) (q1 - 1) J J J (g1 (by decide) (g1 (by decide) g0)) (fun _ => rfl) J J om J) <| Wn <| aG <| aJ (z := 3) J <| Um J J <| aA (cI (((k - 1 : Nat) : Int) - 1) (dN J J om) om) J <| Ua J J <| Wn <| aF <| ⟨⟨k - 1, (us3.set (k - 1 + vs.length) ((us3.getD (k - 1 + vs.length) default + c2) % 4294967296)), qs.set (k - 1) (q1 - 1)⟩, ⟨rfl, congrArg some (by rw [List.length_set]), rfl, rfl, congrArg some (by rw [List.length_set]), rfl, trivial⟩, ⟨g1 (by decide) g0, g0, trivial⟩, ⟨by rw [hlF]; omega, by rw [hlF]; exact hul, by rw [List.length_set]; exact hql0, hdF, hqd.set _ om, hUF, hltF, om⟩, by show k - 1 < k; omega⟩
 refine aH (cG J J) J <| bJ (aY kR) J <| Ck [6,7,8,9,10,11,13,14,93,94,95,96,97,98,99,100,101,102,103,104,105,106,107,108,109,110,111,112,113] J <| aR J <| aE <| cN ?_
 obtain ⟨hdc1, hdc2⟩ := lq_dec LQh hG1 hG2 (by first | exact .inl om | exact .inr om)
 refine Rg 3 J <| Um J J <| aA (cI (((qh - 1 : Nat) : Int)) (gS J J) om) J <| Ua J J <| Nk [6,7,8,9,10,11,13,14,93,94,95,96,97,98,99,100,101,102,103,104,105,106,107,108,109,110,111,112] J <| Rg 9 J <| Um J J <| Um J J <| Um J J <| aA (dN J J om) J <| aA (bS (j := vs.length - 1) J J J J om om J) J <| aA (dL J J J) J <| aA (cI ((v1 : Int)) (cE J J J) (by rw [IntKind.wrap_u64]; omega)) J <| aA (cI (((rh + v1 : Nat) : Int)) (jK J J) om) J <| Ua J J <| Nk [6,7,8,9,10,11,13,14,93,94,95,96,97,98,99,100,101,102,103,104,105,106,107,108,109,110,111,112] J <| Rg 2 J <| Um J J <| aA (mK J J) J <| bE (fun h125 => ?_) (fun h125 => ?_)
 rotate_left
 ·refine Nk [6,7,8,9,10,11,13,14,93,94,95,96,97,98,99,100,101,102,103,104,105,106,107,108,109,110,111,112,125] J <| cH J <| cM <| dY <| aF <| ⟨⟨qh - 1, rh + v1⟩, ⟨J, J, J, J, J, J, J, J, trivial⟩, ⟨g0, g1 (by decide) g0, trivial⟩, ⟨dec_eq hG1 hdc1, hdc2, om, om, om⟩, by show qh - 1 < qh; omega⟩
 refine Nk [6,7,8,9,10,11,13,14,93,94,95,96,97,98,99,100,101,102,103,104,105,106,107,108,109,110,111,112,125] J <| cL J <| qA <| gZ J <| aN <| aO J <| Ck [6,7,8,9,10,11,13,93,94,95,96,97,98,99,100,101,102,103,104,105,106,107,108,109,110,111,112] J ?_
 obtain ⟨hql, hqo⟩ := lq_break LQh hG1 hdc1 hG4 om hG3
 replace hG2 := hdc2
 obtain ⟨q1, hq1⟩ : ∃ q1, q1 = qh - 1 := ⟨_, rfl⟩
 rw [← hq1] at hqo hql hG2 ⊢
 refine Rg 2 J <| Ua J J <| Ua J J <| Nk [6,7,8,9,10,11,13,15,16,93,94,95,96,97,98,99,100,101,102,103,104,105,106,107,108,109,110,111,112] J <| aB <| Rg 3 J <| Um J J <| aA (bD J J) J <| Um J J <| Nk [6,7,8,9,10,11,13,15,16,93,94,95,96,97,98,99,100,101,102,103,104,105,106,107,108,109,110,111,112,126,127,128] J <| aI ?_
 refine aX (α := Nat × Nat × Nat × (List Nat)) (fun ⟨i, c, b, us1⟩ => [(6, .v (.int .i64 (sh : Int))), (7, .ref (0 + 2 + 8 + 2) 1 0 us1.length), (8, .sl 1 (vs.map d32)), (9, .v (.int .i64 (vs.length : Int))), (10, .ref (0 + 2 + 8 + 9 + 3 + 4) 1 0 qs.length), (11, .v (.int .i64 ((k : Int) - 1))), (13, .v (.int .u64 (q1 : Int))), (15, .v (.int .u64 (b : Int))), (16, .v (.int .u64 (c : Int))), (126, .sl 1 (vs.map d32)), (127, .v (.int .i64 (vs.length : Int))), (128, .v (.int .i64 (i : Int)))]) (fun ⟨i, c, b, us1⟩ => [((0 + 2 + 8 + 2), { cells := (us1.map d32).flatten, sz := 1, elem := 189, st := 0 }), ((0 + 2 + 8 + 9 + 3 + 4), { cells := (qs.map d32).flatten, sz := 1, elem := 189, st := 0 })]) (fun ⟨i, c, b, us1⟩ n => i ≤ vs.length ∧ us1.length = us.length ∧ Dg 4294967296 us1 ∧ c < 4294967296 ∧ b ≤ 1 ∧ val 4294967296 us1 + 4294967296 ^ (k - 1) * (q1 * val 4294967296 (vs.take i)) = val 4294967296 us + 4294967296 ^ (k - 1 + i) * (c + b) ∧ us1.take (k - 1) = us.take (k - 1) ∧ us1.drop (k - 1 + i) = us.drop (k - 1 + i) ∧ 30 ≤ n) (fun ⟨i, c, b, us1⟩ => vs.length - i) (0, 0, 0, us) ⟨J, J, J, J, J, J, J, J, J, J, J, J, trivial⟩ ⟨g0, g1 (by decide) g0, trivial⟩ ⟨Nat.zero_le _, rfl, hud, by decide, by decide, by simp [val], rfl, rfl, om⟩ ?_
 rintro ⟨i, c, b, us1⟩ n hL
 change WC _ _ _ _ _ (_ :: _) (_ :: _) n _
 obtain ⟨hi, hl1, hd1, hc1, hb1, he1, ht1, hp1, hn32⟩ := hL
 refine Rg 1 J <| aA (bU J J) J <| bE (fun h129 => ?_) (fun h129 => ?_)
 ·refine Wn <| aR J <| aE <| aI ?_
  have hvi : vs.getD i default < 4294967296 := bQ hvd om
  have hui : us1.getD (k - 1 + i) default < 4294967296 := bQ hd1 om
  have hqv := iA hql hvi
  obtain ⟨p, hpe⟩ : ∃ p, p = q1 * vs.getD i default + c := ⟨_, rfl⟩
  obtain ⟨u, hue⟩ : ∃ u, u = us1.getD (k - 1 + i) default := ⟨_, rfl⟩
  have hpb : p < 18446744073709551616 := by omega
  obtain ⟨d, hde⟩ : ∃ d, d = (u + 4294967296 - p % 4294967296 - b) % 4294967296 := ⟨_, rfl⟩
  refine Rg 5 J <| Um J J <| aA (bS J J J J J om J) J <| aA (dL J J J) J <| Ua J J <| Ua J J <| Nk [6,7,8,9,10,11,13,15,16,17,18,126,127,128] J <| Rg 7 J <| Um J J <| Um J J <| aA (cI ((vs.getD i default : Int)) (cE J J J) (by rw [IntKind.wrap_u64]; omega)) J <| aA (cI (((q1 * vs.getD i default : Nat) : Int)) (mD J J) (by rw [← Int.natCast_mul]; omega)) J <| Um J J <| aA (cI ((p : Int)) (jK J J) om) J <| Ua J J <| Nk [6,7,8,9,10,11,13,15,17,19,126,127,128] J <| Rg 3 J <| Um J J <| aA (cI (((p / 4294967296 : Nat) : Int)) (eP (s := 32) J J om) om) J <| Ua J J <| Nk [6,7,8,9,10,11,13,15,16,17,19,126,127,128] J ?_
  refine Rg 14 J <| Um J J <| Um J J <| Um J J <| aA (cI (((k - 1 + i : Nat) : Int)) (aV J J om) om) J <| aA (cA (j := k - 1 + i) J J J J om om J) J <| aA (eJ (f := d32) (us := us1) (j := k - 1 + i) J J g0 (fun _ => rfl) J (by decide) om J) J <| aA (cI ((u : Int)) (cE J J J) (by rw [IntKind.wrap_u64]; omega)) J <| Um J J <| aA (cI (((p % 4294967296 : Nat) : Int)) (cE J J J) (by rw [IntKind.wrap_u32]; omega)) J <| aA (cI (((p % 4294967296 : Nat) : Int)) (cE J J J) (by rw [IntKind.wrap_u64]; omega)) J <| aA (gS J J) J <| Um J J <| aA (cI (((((u + 18446744073709551616 - p % 4294967296 - b) % 18446744073709551616) : Nat) : Int)) (gS J J) om) J <| Ua J J <| Nk [6,7,8,9,10,11,13,16,17,20,126,127,128] J <| Rg 8 J <| Um J J <| Um J J <| Um J J <| aA (cI (((k - 1 + i : Nat) : Int)) (aV J J om) om) J <| Um J J <| aA (cI ((d : Int)) (cE J J J) (by rw [IntKind.wrap_u32]; omega)) J ?_
  refine aA (cA (j := k - 1 + i) J J J J om om J) J <| aZ (eC (f := d32) (us := us1) d J J J g0 (fun _ => rfl) J J om J) <| Nk [6,7,8,9,10,11,13,16,20,126,127,128] J <| aJ (z := 3) J <| Um J J <| aA (cI (((if u < p % 4294967296 + b then 1 else 0 : Nat) : Int)) (eP (s := 63) J J om) (by split <;> omega)) J <| Ua J J <| Wn <| aG <| Ck [6,7,8,9,10,11,13,15,16,126,127,128] J <| aJ (z := 2) J <| aA (cI (((i + 1 : Nat) : Int)) (aV J J om) om) J <| Um J J <| Wn <| aF <| ⟨⟨i + 1, p / 4294967296, if u < p % 4294967296 + b then 1 else 0, us1.set (k - 1 + i) d⟩, ⟨rfl, congrArg some (by rw [List.length_set]), rfl, rfl, rfl, rfl, rfl, rfl, rfl, rfl, rfl, rfl, trivial⟩, ⟨g0, g1 (by decide) (g1 (by decide) g0), trivial⟩, ⟨om, by rw [List.length_set]; exact hl1, hd1.set _ om, om, by split <;> omega, ?_, by rw [cS om]; exact ht1, by rw [dB om]; exact fC hp1 om, om⟩, by show vs.length - (i + 1) < vs.length - i; omega⟩
  rw [hpe]
  exact lB he1 om (by rw [← hpe, ← hue, hde]; split <;> omega)
 refine Wn <| aT J <| aU <| aN <| aO J ?_
 have hi' : i = vs.length := by omega
 subst hi'
 rw [List.take_of_length_le (Nat.le_refl _)] at he1
 obtain ⟨u, hue⟩ : ∃ u, u = us1.getD (k - 1 + vs.length) default := ⟨_, rfl⟩
 have hul1 : u < 4294967296 := by rw [hue]; exact bQ hd1 om
 obtain ⟨d, hde⟩ : ∃ d, d = (u + 4294967296 - c - b) % 4294967296 := ⟨_, rfl⟩
 have hd4 : d < 4294967296 := by omega
 refine Rg 12 J <| Um J J <| Um J J <| Um J J <| aA (cI (((k - 1 + vs.length : Nat) : Int)) (aV J J om) om) J <| aA (cA (j := k - 1 + vs.length) J J J J om om J) J <| aA (eJ (f := d32) (us := us1) (j := k - 1 + vs.length) J J g0 (fun _ => rfl) J (by decide) om J) J <| aA (cI ((u : Int)) (cE J J J) (by rw [IntKind.wrap_u64]; omega)) J <| Um J J <| aA (gS J J) J <| Um J J <| aA (cI (((((u + 18446744073709551616 - c - b) % 18446744073709551616) : Nat) : Int)) (gS J J) om) J <| Ua J J <| Nk [6,7,8,9,10,11,13,21] J <| Rg 8 J <| Um J J <| Um J J <| Um J J <| aA (cI (((k - 1 + vs.length : Nat) : Int)) (aV J J om) om) J <| Um J J <| aA (cI ((d : Int)) (cE J J J) (by rw [IntKind.wrap_u32]; omega)) J <| aA (cA (j := k - 1 + vs.length) J J J J om om J) J <| aZ (eC (f := d32) (us := us1) d J J J g0 (fun _ => rfl) J J om J) ?_
 refine Nk [6,7,8,9,10,11,13,21] J <| aB <| Rg 3 J <| Um J J <| aA (cI (((if u < c + b then 1 else 0 : Nat) : Int)) (eP (s := 63) J J om) (by split <;> omega)) J <| aA (gB J J) J <| bE (fun h184 => ?_) (fun h184 => ?_)
 rotate_left
 ·have hneg : c + b ≤ u := by
   rcases Nat.lt_or_ge u (c + b) with h | h
   ·rw [if_pos h] at h184; simp at h184
   ·exact h
  have hs2 := jO (o := 0) (d := d) he1 om (by rw [← hue]; omega)
  rw [Nat.mul_zero, Nat.add_zero] at hs2
  refine Wn <| aT J <| aE ?_
  have hlF : (us1.set (k - 1 + vs.length) d).length = us.length := by rw [List.length_set]; exact hl1
  have hdF : Dg 4294967296 (us1.set (k - 1 + vs.length) d) := hd1.set _ hd4
  have hltF := oR (by decide) hV0 om om (by rw [cS om]; exact ht1) hs2 hG2
  have hUF := iG (qs := qs) (j := k - 1) om (by rw [show k - 1 + 1 = k by omega]; exact hU) hs2
  refine aJ (z := 6) J <| Um J J <| Um J J <| Um J J <| aA (cI ((q1 : Int)) (cE J J J) (by rw [IntKind.wrap_u32]; omega)) J <| aA (cA (j := k - 1) J J J J om om J) J <| aZ (eC (f := d32) (us := qs) q1 J J J (g1 (by decide) (g1 (by decide) g0)) (fun _ => rfl) J J om J) <| Wn <| aG <| Ck [6,7,8,9,10,11] J <| aJ (z := 3) J <| Um J J <| aA (cI (((k - 1 : Nat) : Int) - 1) (dN J J om) om) J <| Ua J J <| Wn <| aF <| ⟨⟨k - 1, (us1.set (k - 1 + vs.length) d), qs.set (k - 1) q1⟩, ⟨rfl, congrArg some (by rw [List.length_set]), rfl, rfl, congrArg some (by rw [List.length_set]), rfl, trivial⟩, ⟨g1 (by decide) g0, g0, trivial⟩, ⟨by rw [hlF]; omega, by rw [hlF]; exact hul, by rw [List.length_set]; exact hql0, hdF, hqd.set _ om, hUF, hltF, om⟩, by show k - 1 < k; omega⟩
 have hneg : u < c + b := by
  rcases Nat.lt_or_ge u (c + b) with h | h
  ·exact h
  ·rw [if_neg om] at h184; simp at h184
 have hs2 := jO (o := 1) (d := d) he1 om (by rw [← hue]; omega)
 have hlT : (us1.set (k - 1 + vs.length) d).length = us.length := by rw [List.length_set]; exact hl1
 have hdT : Dg 4294967296 (us1.set (k - 1 + vs.length) d) := hd1.set _ hd4
 have htT : (us1.set (k - 1 + vs.length) d).take (k - 1) = us.take (k - 1) := by rw [cS om]; exact ht1
 have hpT : (us1.set (k - 1 + vs.length) d).drop (k - 1 + vs.length + 1) = us.drop (k - 1 + vs.length + 1) := by rw [dB om]; exact fC hp1 om
 obtain ⟨hgt, hq1p⟩ := neg_gt (by decide) hdT om hlT hRB hpT htT hs2
 refine Wn <| aR J <| aB <| Rg 3 J <| Um J J <| aA (cI (((q1 - 1 : Nat) : Int)) (gS J J) om) J <| Ua J J <| Wn <| aB <| Rg 1 J <| Ua J J <| Wn <| aB <| aB <| Rg 3 J <| Um J J <| aA (bD J J) J <| Um J J <| Nk [6,7,8,9,10,11,13,22,187,188,189] J <| aI <| aX (α := Nat × Nat × (List Nat)) (fun ⟨i2, c2, us3⟩ => [(6, .v (.int .i64 (sh : Int))), (7, .ref (0 + 2 + 8 + 2) 1 0 us3.length), (8, .sl 1 (vs.map d32)), (9, .v (.int .i64 (vs.length : Int))), (10, .ref (0 + 2 + 8 + 9 + 3 + 4) 1 0 qs.length), (11, .v (.int .i64 ((k : Int) - 1))), (13, .v (.int .u64 ((q1 - 1 : Nat) : Int))), (22, .v (.int .u32 (c2 : Int))), (187, .sl 1 (vs.map d32)), (188, .v (.int .i64 (vs.length : Int))), (189, .v (.int .i64 (i2 : Int)))]) (fun ⟨i2, c2, us3⟩ => [((0 + 2 + 8 + 2), { cells := (us3.map d32).flatten, sz := 1, elem := 189, st := 0 }), ((0 + 2 + 8 + 9 + 3 + 4), { cells := (qs.map d32).flatten, sz := 1, elem := 189, st := 0 })]) (fun ⟨i2, c2, us3⟩ n => i2 ≤ vs.length ∧ us3.length = us.length ∧ Dg 4294967296 us3 ∧ c2 ≤ 1 ∧ val 4294967296 us3 + 4294967296 ^ (k - 1 + i2) * c2 = val 4294967296 (us1.set (k - 1 + vs.length) d) + 4294967296 ^ (k - 1) * val 4294967296 (vs.take i2) ∧ us3.take (k - 1) = us.take (k - 1) ∧ us3.drop (k - 1 + vs.length) = (us1.set (k - 1 + vs.length) d).drop (k - 1 + vs.length) ∧ 30 ≤ n) (fun ⟨i2, c2, us3⟩ => vs.length - i2) (0, 0, (us1.set (k - 1 + vs.length) d)) ⟨rfl, congrArg some (by rw [List.length_set]), rfl, rfl, rfl, rfl, rfl, rfl, rfl, rfl, rfl, trivial⟩ ⟨g0, g1 (by decide) (g1 (by decide) g0), trivial⟩ ⟨Nat.zero_le _, hlT, hdT, by decide, by simp [val], htT, rfl, om⟩ ?_
 rintro ⟨i2, c2, us3⟩ n hM
 change WC _ _ _ _ _ (_ :: _) (_ :: _) n _
 obtain ⟨hi2, hl3, hd3, hc3, he3, ht3, hp3, hn33⟩ := hM
 refine Rg 1 J <| aA (bU J J) J <| bE (fun h190 => ?_) (fun h190 => ?_)
 ·refine Wn <| aR J <| aE <| aI <| Rg 5 J <| Um J J <| aA (bS J J J J J om J) J <| aA (dL J J J) J <| Ua J J <| Ua J J <| Nk [6,7,8,9,10,11,13,22,23,24,187,188,189] J ?_
  have hu3 : us3.getD (k - 1 + i2) default < 4294967296 := bQ hd3 om
  have hv3 : vs.getD i2 default < 4294967296 := bQ hvd om
  refine aJ (z := 19) J <| Um J J <| Um J J <| Um J J <| aA (cI (((k - 1 + i2 : Nat) : Int)) (aV J J om) om) J <| Um J J <| Um J J <| Um J J <| aA (cI (((k - 1 + i2 : Nat) : Int)) (aV J J om) om) J <| aA (cA (j := k - 1 + i2) J J J J om om J) J <| aA (eJ (f := d32) (us := us3) (j := k - 1 + i2) J J g0 (fun _ => rfl) J (by decide) om J) J <| Um J J <| Um J J <| aA (aK J (jD (us3.getD (k - 1 + i2) default) (vs.getD i2 default) c2 hu3 hv3 hc3) (by simp)) J <| Um J J <| aA (cW J J) J <| aA (cW J J) J <| aA (cA (j := k - 1 + i2) J J J J om om J) J <| aZ (eC (f := d32) (us := us3) ((us3.getD (k - 1 + i2) default + vs.getD i2 default + c2) % 4294967296) J J J g0 (fun _ => rfl) J J om J) <| Ua J J <| Wn <| aG <| Ck [6,7,8,9,10,11,13,22,187,188,189] J <| aJ (z := 2) J ?_
  refine aA (cI (((i2 + 1 : Nat) : Int)) (aV J J om) om) J <| Um J J <| Wn <| aF <| ⟨⟨i2 + 1, _, us3.set (k - 1 + i2) ((us3.getD (k - 1 + i2) default + vs.getD i2 default + c2) % 4294967296)⟩, ⟨rfl, congrArg some (by rw [List.length_set]), rfl, rfl, rfl, rfl, rfl, rfl, rfl, rfl, rfl, trivial⟩, ⟨g0, g1 (by decide) (g1 (by decide) g0), trivial⟩, ⟨om, by rw [List.length_set]; exact hl3, hd3.set _ om, om, jV he3 om, by rw [cS om]; exact ht3, by rw [dB om]; exact hp3, om⟩, by show vs.length - (i2 + 1) < vs.length - i2; omega⟩
 refine Wn <| aT J <| aU <| aN <| aO J ?_
 have hi' : i2 = vs.length := by omega
 subst hi'
 rw [List.take_of_length_le (Nat.le_refl _)] at he3
 have hu3 : us3.getD (k - 1 + vs.length) default < 4294967296 := bQ hd3 om
 refine Rg 10 J <| Um J J <| Um J J <| Um J J <| aA (cI (((k - 1 + vs.length : Nat) : Int)) (aV J J om) om) J <| aA (cA (j := k - 1 + vs.length) J J J J om om J) J <| aA (eJ (f := d32) (us := us3) (j := k - 1 + vs.length) J J g0 (fun _ => rfl) J (by decide) om J) J <| Um J J <| aA (cI ((((us3.getD (k - 1 + vs.length) default + c2) % 4294967296 : Nat) : Int)) (oAdd32 J J) om) J <| aA (cA (j := k - 1 + vs.length) J J J J om om J) J <| aZ (eC (f := d32) (us := us3) ((us3.getD (k - 1 + vs.length) default + c2) % 4294967296) J J J g0 (fun _ => rfl) J J om J) <| Nk [6,7,8,9,10,11,13] J ?_
 have hlF : (us3.set (k - 1 + vs.length) ((us3.getD (k - 1 + vs.length) default + c2) % 4294967296)).length = us.length := by rw [List.length_set]; exact hl3
 have hdF : Dg 4294967296 (us3.set (k - 1 + vs.length) ((us3.getD (k - 1 + vs.length) default + c2) % 4294967296)) := hd3.set _ om
 have h4 := jU he3 om
 obtain ⟨hs4, hltF⟩ := qY (by decide) hV0 hdF om hlF hRB (by rw [dB om]; exact (fC hp3 om).trans hpT) (by rw [cS om]; exact ht3) hs2 h4 hG2 hq1p hqo hgt om
 have hUF := iG (qs := qs) (j := k - 1) om (by rw [show k - 1 + 1 = k by omega]; exact hU) hs4
 refine aJ (z := 6) J <| Um J J <| Um J J <| Um J J <| aA (cI (((q1 - 1 : Nat) : Int)) (cE J J J) (by rw [IntKind.wrap_u32]; omega)) J <| aA (cA (j := k - 1) J J J J om om J) J <| aZ (eC (f := d32) (us := qs) (q1 - 1) J J J (g1 (by decide) (g1 (by decide) g0)) (fun _ => rfl) J J om J) <| Wn <| aG <| aJ (z := 3) J <| Um J J <| aA (cI (((k - 1 : Nat) : Int) - 1) (dN J J om) om) J <| Ua J J <| Wn <| aF <| ⟨⟨k - 1, (us3.set (k - 1 + vs.length) ((us3.getD (k - 1 + vs.length) default + c2) % 4294967296)), qs.set (k - 1) (q1 - 1)⟩, ⟨rfl, congrArg some (by rw [List.length_set]), rfl, rfl, congrArg some (by rw [List.length_set]), rfl, trivial⟩, ⟨g1 (by decide) g0, g0, trivial⟩, ⟨by rw [hlF]; omega, by rw [hlF]; exact hul, by rw [List.length_set]; exact hql0, hdF, hqd.set _ om, hUF, hltF, om⟩, by show k - 1 < k; omega⟩
end Go.Proofs.Ytcblgjaomljikaa
set_option maxHeartbeats 1000000
namespace Go.Proofs.Ytcblgjaomljikaa
open Go.Ab Go.RowKit
theorem nQ (v w : Int) (hw0 : w ≠ 0) (hv : len32 v < 549755813888) (hw : len32 w < 549755813888) : Run Try.prog T E0 (.call 204 [lvI v, lvI w] (.tup [lvI (v.tdiv w), lvI (v.tmod w)])) := by
 obtain ⟨xs, hxs, dv, qv, tv, lxv⟩ := xs_of v
 obtain ⟨ys, hys, dw, qw, tw, lyw⟩ := xs_of w
 have bv := pJ v
 have bw := pJ w
 have hwa : 0 < w.natAbs := by omega
 have hyl : 0 < ys.length := by
  rcases Nat.eq_zero_or_pos ys.length with h | h
  ·rw [List.length_eq_zero_iff.1 h] at dw; simp [val] at dw; omega
  ·exact h
 refine bK Try.func204 J J (dM J) ?_
 have J3 : ∀  (n : Nat) , WC Try.prog T E0 Try.f204.ntmps (codeR (codeR (codeOf Try.f204))) [(2, .ptr 0 0), (3, .ptr 1 0), (4, .ptr 2 0), (5, .ptr 3 0)] [(3, { cells := [.v (.int .i64 0), .sl 0 []], sz := 2, elem := 112, st := 0 }), (2, { cells := [.v (.int .i64 0), .sl 0 []], sz := 2, elem := 112, st := 0 }), (1, { cells := (lvI w).cells, sz := 2, elem := 112, st := 0 }), (0, { cells := (lvI v).cells, sz := 2, elem := 112, st := 0 })] n (Post T Try.f204.results.toList (.tup [lvI (v.tdiv w), lvI (v.tmod w)])) := by
  intro  n
  refine Rg 7 J <| aA (aL (l := .agg [_, _]) J J J J J) J <| aA (aK J ((hxs ▸ eV v)) (by simp)) J <| Um J J <| aA (cW J J) J <| aA (cW J J) J <| Ua J J <| Ua J J <| Wn <| Rg 7 J <| aA (aL (l := .agg [_, _]) J J J J J) J <| aA (aK J ((hys ▸ eV w)) (by simp)) J <| Um J J <| aA (cW J J) J <| aA (cW J J) J <| Ua J J <| Ua J J <| Nk [2,4,5,6,7,8,9] J <| aB <| Rg 4 J <| Um J J <| Um J J <| aA (aK J (kL 1 1 xs ys qv qw tv tw om om) (by simp)) J ?_
  refine aA (bU J J) J <| bE (fun h47 => ?_) (fun h47 => ?_)
  ·refine Wn <| aR J <| aB <| bN (z := 4) J kR <| aH (kH (cs := [_, _]) J J J J J) J <| aH (aL (l := .agg [_, _]) J J J J J) J <| cR (cO (cs' := [_, _]) J J J J J J J J) <| cR (cO (cs' := [_, _]) J J J J J J J J) <| bJ (aY kR) J <| bC <| post (n := 0) (.inr J) J ?_ (by simp)
   obtain ⟨e1, e2⟩ := quo_small (v := v) (w := w) (by have := Int.sign_neg_iff.1 (show ((val 4294967296 xs : Int) - val 4294967296 ys).sign < 0 from h47); omega)
   rw [e1, e2]; rfl
  refine Wn <| aT J <| aE <| aB ?_
  have hge : val 4294967296 ys ≤ val 4294967296 xs := by
   rcases Nat.lt_or_ge (val 4294967296 xs) (val 4294967296 ys) with h | h
   ·exact absurd (Int.sign_neg_iff.2 (show (val 4294967296 xs : Int) - val 4294967296 ys < 0 by omega)) h47
   ·exact h
  have hv0 : v ≠ 0 := by omega
  have hpm := sign_pm hv0 hw0
  have hp1 := sign_1 hv0
  have hll : ys.length ≤ xs.length := by
   rcases Nat.lt_or_ge xs.length ys.length with h | h
   ·have := fL (by decide) qv tw h; omega
   ·exact h
  obtain ⟨σ, hσ⟩ : ∃ σ, σ = v.sign * w.sign := ⟨_, rfl⟩
  rw [← hσ] at hpm
  refine Rg 3 J <| Um J J <| aA (bD J J) J <| aA (gB J J) J <| bE (fun h52 => ?_) (fun h52 => ?_)
  rotate_left
  ·refine Wn <| aT J <| aE ?_
   have hy2 : 2 ≤ ys.length := by omega
   obtain ⟨r, hr, qs, rs, rfl, hqd, hrd, hval, hrest, hql, hrl⟩ := long_run 1 1 xs ys qv qw tw hy2 hll om
   obtain ⟨hq1, hq2⟩ := quo_law (v := v) (w := w) (q := val 4294967296 qs) (r := val 4294967296 rs) (by rw [← dw, ← dv]; exact hval) (by rw [← dw]; exact hrest)
   refine Rg 8 J <| Um J J <| Um J J <| aA (aK J (hr) (by simp)) J <| Um J J <| aA (cW J J) J <| aA (cW J J) J <| Ua J J <| Ua J J <| Nk [4,5,6,8,12,13] J <| Rg 10 J <| Um J J <| Um J J <| aA (cI σ (mL J J (by rw [← hσ]; omega)) hσ.symm) J <| Um J J <| aA (aK J (eY σ 1 qs om (.inl J) hqd om) (by simp)) J <| Um J J <| Um J J <| aA (aK J (eY v.sign 1 rs om (.inl J) hrd om) (by simp)) J <| aZ (cO (cs' := [_, _]) J J J J J J J J) <| aZ (cO (cs' := [_, _]) J J J J J J J J) <| Wn <| aP ?_
   refine post (n := 0) (.inr J) J ?_ (by simp)
   rw [hq1, hq2, ← hσ]; rfl
  refine Wn <| aR J <| aB ?_
  have hy1 : ys.length = 1 := by omega
  have hyv : val 4294967296 ys = ys.getD 0 default := by
   obtain ⟨y, rfl⟩ := List.length_eq_one_iff.1 hy1
   simp [val]
  have hyb : ys.getD 0 default < 4294967296 := bQ qw om
  obtain ⟨r, hr, ds, rest, rfl, hdd, hrest, hval, hlen⟩ := short_run 1 xs (ys.getD 0 default) qv om hyb om
  obtain ⟨hq1, hq2⟩ := quo_law (v := v) (w := w) (q := val 4294967296 ds) (r := rest) (by rw [← dw, ← dv, hyv]; exact hval) (by rw [← dw, hyv]; exact hrest)
  have hrd : Dg 4294967296 [rest] := by intro d hd; simp at hd; omega
  refine Rg 10 J <| Um J J <| Um J J <| aA (bS (j := 0) J J J J om om J) J <| aA (dL J J J) J <| aA (aK J (hr) (by simp)) J <| Um J J <| aA (cW J J) J <| aA (cW J J) J <| Ua J J <| Ua J J <| Nk [4,5,6,8,10,11] J <| aB <| Rg 11 J <| Um J J <| Um J J <| aA (cI σ (mL J J (by rw [← hσ]; omega)) hσ.symm) J <| Um J J <| aA (aK J (eY σ 1 ds om (.inl J) hdd om) (by simp)) J <| Um J J <| Um J J <| aA (dJ (cs := [_]) (rows := [[_]]) J J (by decide) J J J) J <| aA (aK J (eY v.sign 2 [rest] om (.inr J) hrd (by simp)) (by simp)) J ?_
  refine aZ (cO (cs' := [_, _]) J J J J J J J J) <| aZ (cO (cs' := [_, _]) J J J J J J J J) <| Nk [4,5] J <| bC <| post (n := 0) (.inr J) J ?_ (by simp)
  rw [hq1, hq2, ← hσ]; exact congrArg (fun z => LV.tup [lvI (σ * (val 4294967296 ds : Int)), lvI (v.sign * z)]) (by simp [val])
 refine Rg 4 J <| bB (eG J J) J <| bB (eG J J) J <| bB (dS J) J <| bB (dS J) J <| Wn <| aB <| Rg 8 J <| aA (bH J J J J J) J <| aA (aL J J J J J) J <| aA (mE J J) J <| fT (fun h16 => ?_) (fun h16 => ?_)
 rotate_left
 ·refine Um J J <| K1 J J <| K1 J J <| K1 J J <| aA (cG J J) J <| Wn <| aT J <| aE <| Ck [2,3,4,5] J ?_
  exact J3 _
 refine Um J J <| aM J (bH J J J J J) J <| aM J (aL J J J J J) J <| aM J (mE J J) J <| fT (fun h20 => ?_) (fun h20 => ?_)
 rotate_left
 ·refine aA (bW J J) J <| Wn <| aT J <| aE <| Ck [2,3,4,5] J ?_
  exact J3 _
 refine aA (bW J J) J <| Wn <| aR J <| aB ?_
 have hia := dH (pK.1 h16)
 have hiw := dH (pK.1 h20)
 have sv := pK.1 h16
 have b1 : (v.tdiv w).natAbs ≤ v.natAbs := by rw [Int.natAbs_tdiv]; exact Nat.div_le_self _ _
 have b2 : (v.tmod w).natAbs ≤ v.natAbs := by rw [Int.natAbs_tmod]; exact Nat.mod_le _ _
 unfold small at sv
 refine bN (z := 14) J kR <| aH (bH J J J J J) J <| aH (cI v (aL J J J J J) hia) J <| aH (bH J J J J J) J <| aH (cI w (aL J J J J J) hiw) J <| aH (oQuo64 J J hw0 om) J <| aH (kH (cs := [_, _]) J J J J J) J <| aH (bH J J J J J) J <| aH (cI v (aL J J J J J) hia) J <| aH (bH J J J J J) J <| aH (cI w (aL J J J J J) hiw) J <| aH (oRem J J hw0) J <| aH (kH (cs := [_, _]) J J J J J) J <| cR (cO (cs' := [_, _]) J J J J J J J J) <| cR (cO (cs' := [_, _]) J J J J J J J J) <| bJ (aY kR) J <| Ck [4,5] J <| bC <| post (n := 0) (.inr J) J ?_ (by simp)
 rw [jJ (v := v.tdiv w) (by unfold small; omega), jJ (v := v.tmod w) (by unfold small; omega)]; rfl
theorem gcd_run (v w : Int) (hv : len32 v < 549755813888) (hw : len32 w < 549755813888) : Run Try.prog T E0 (.call 180 [lvI v, lvI w] (lvI (v.gcd w : Nat))) := by
 refine bK Try.func180 J J (dM J) <| Rg 3 J <| bB (eG J J) J <| bB (eG J J) J <| bB (dS J) J <| Wn <| bN (z := 6) J kR <| aH (aL (l := .agg [_, _]) J J J J J) J <| aH (aK J (abs_run _) (by simp)) J <| aH (aL (l := .agg [_, _]) J J J J J) J <| aH (aK J (abs_run _) (by simp)) J <| cR (cO (cs' := [_, _]) J J J J J J J J) <| cR (cO (cs' := [_, _]) J J J J J J J J) <| bJ (aY kR) J <| aI <| aX (α := Nat × Nat) (fun ⟨a, b⟩ => [(2, .ptr 0 0), (3, .ptr 1 0), (4, .ptr 2 0)]) (fun ⟨a, b⟩ => [(0, { cells := (lvI (a : Int)).cells, sz := 2, elem := 112, st := 0 }), (1, { cells := (lvI (b : Int)).cells, sz := 2, elem := 112, st := 0 }), (2, { cells := [.v (.int .i64 0), .sl 0 []], sz := 2, elem := 112, st := 0 })]) (fun ⟨a, b⟩ n => Nat.gcd a b = v.gcd w ∧ len32 (a : Int) < 549755813888 ∧ len32 (b : Int) < 549755813888 ∧ 3 ≤ n) (fun ⟨a, b⟩ => b) (v.natAbs, w.natAbs) ⟨J, J, J, trivial⟩ ⟨J, J, J, trivial⟩ ⟨rfl, by rw [len32_nat]; exact hv, by rw [len32_nat]; exact hw, om⟩ ?_
 rintro ⟨a, b⟩ n hF
 change WC _ _ _ _ _ (_ :: _) (_ :: _) n _
 obtain ⟨hg, hla, hlb, hn3⟩ := hF
 refine aB <| Rg 3 J <| aA (aL (l := .agg [_, _]) J J J J J) J <| aA (aK J (jN _) (by simp)) J <| aA (dV J J) J <| bE (fun h13 => ?_) (fun h13 => ?_)
 rotate_left
 ·refine Wn <| aT J <| aU <| aN <| aO J <| Rg 2 J <| aA (aL (l := .agg [_, _]) J J J J J) J <| aZ (cO (cs' := [_, _]) J J J J J J J J) <| Wn <| aP <| post (n := 0) (.inr J) J ?_ (by simp)
  have hb0 : b = 0 := by
   have := Int.sign_eq_zero_iff_zero (a := (b : Int)); omega
  subst hb0
  rw [Nat.gcd_zero_right] at hg
  rw [← hg]; rfl
 refine Wn <| aR J <| aE <| cN ?_
 have hb0 : 0 < b := by
  rcases Nat.eq_zero_or_pos b with h | h
  ·subst h; simp at h13
  ·exact h
 have hm : (a : Int).tmod b = ((a % b : Nat) : Int) := by rw [Int.tmod_eq_emod_of_nonneg om]; simp
 have hlm : len32 ((a % b : Nat) : Int) < 549755813888 := by rw [← hm]; have := len32_tmod (a : Int) (b : Int); omega
 refine Rg 10 J <| aA (aL (l := .agg [_, _]) J J J J J) J <| aA (aL (l := .agg [_, _]) J J J J J) J <| aA (aK J (nQ (a : Int) (b : Int) om hla hlb) (by simp)) J <| Um J J <| aA (cW J J) J <| aA (bG (b := lvI ((a % b : Nat) : Int)) (cW J J) (by rw [hm])) J <| bB (dS J) J <| bB (dS J) J <| aZ (cO (cs' := [_, _]) J J J (g1 om g0) J J J J) <| aZ (cO (cs' := [_, _]) J J J (g1 om g0) J J J J) <| Wn <| dW (z := 4) J kR <| aH (aL (l := .agg [_, _]) J J (g1 om (g1 om (g1 om (g1 om (g1 (by decide) g0))))) J J) J <| aH (aL (l := .agg [_, _]) J J g0 J J) J <| cR (cO (cs' := [_, _]) J J J (g1 om (g1 om (g1 om (g1 om g0)))) J J J J) <| cR (cO (cs' := [_, _]) J J J (g1 (by decide) (g1 om (g1 om (g1 om (g1 om (g1 (by decide) g0)))))) J J J J) <| bJ (aY kR) J <| dY <| aF <| ⟨⟨b, a % b⟩, ⟨J, J, J, trivial⟩, ⟨g1 (by decide) g0, g0, g1 (by decide) (g1 (by decide) (g1 om (g1 om (g1 om (g1 om (g1 (by decide) (g1 (by decide) g0))))))), trivial⟩, ⟨by rw [← hg, Nat.gcd_comm b, ← Nat.gcd_rec b a, Nat.gcd_comm], hlb, hlm, om⟩, Nat.mod_lt _ hb0⟩
theorem iJ (v w : Int) (hw0 : w ≠ 0) (hv : len32 v < 549755813888) (hw : len32 w < 549755813888) : Run Try.prog T E0 (.call 173 [lvI v, lvI w] (lvX (Rat.divInt v w, false))) := by
 have hgp : 0 < v.gcd w := Int.gcd_pos_of_ne_zero_right _ hw0
 obtain ⟨hL1, hL2⟩ := oV (a := v) hw0
 have hlg : len32 ((v.gcd w : Nat) : Int) < 549755813888 := by
  have h1 : v.gcd w ≤ w.natAbs := Nat.le_of_dvd om (Nat.gcd_dvd_right _ _)
  have := mI (v := ((v.gcd w : Nat) : Int)) (w := w) (by simpa using h1)
  omega
 obtain ⟨g, hg⟩ : ∃ g : Int, g = (v.gcd w : Nat) := ⟨_, rfl⟩
 rw [← hg] at hL1 hL2 hlg
 refine bK Try.func173 J J (dM J) ?_
 have J5 : ∀ (a b : Int) (ha : a = v.tdiv g) (hb : b = w.tdiv g) (n : Nat) , WC Try.prog T E0 Try.f173.ntmps (codeR (codeR (codeOf Try.f173))) [(2, .ptr 0 0), (3, .ptr 1 0), (4, .ptr 2 0)] [(0, { cells := (lvI a).cells, sz := 2, elem := 112, st := 0 }), (1, { cells := (lvI b).cells, sz := 2, elem := 112, st := 0 }), (2, { cells := [.v (.int .i64 0), .sl 0 [], .v (.int .i64 0), .sl 0 []], sz := 4, elem := 114, st := 0 })] n (Post T Try.f173.results.toList (lvX (Rat.divInt v w, false))) := by
  intro a b ha hb n
  subst ha hb
  refine aB <| Rg 3 J <| aA (aL (l := .agg [_, _]) J J J J J) J <| aA (aK J (jN _) (by simp)) J <| aA (bU J J) J <| bE (fun h31 => ?_) (fun h31 => ?_)
  rotate_left
  ·refine Wn <| aT J <| aE <| Rg 4 J <| aA (aL (l := .agg [_, _]) J J J J J) J <| aA (aL (l := .agg [_, _]) J J J J J) J <| aA (kH (cs := [_, _, _, _]) J J J J J) J <| aZ (cO (cs' := [_, _, _, _]) J J J J J J J J) <| Wn <| aP <| post (n := 0) (.inr J) J ?_ (by simp)
   obtain ⟨h1, h2⟩ := hL2 (by have := @Int.sign_neg_iff (w.tdiv g); omega)
   rw [lvX_f, ← h1, ← h2]; rfl
  refine Wn <| aR J <| bN (z := 6) J kR <| aH (aL (l := .agg [_, _]) J J J J J) J <| aH (aK J (qN _) (by simp)) J <| aH (aL (l := .agg [_, _]) J J J J J) J <| aH (aK J (qN _) (by simp)) J <| cR (cO (cs' := [_, _]) J J J J J J J J) <| cR (cO (cs' := [_, _]) J J J J J J J J) <| bJ (aY kR) J <| Rg 4 J <| aA (aL (l := .agg [_, _]) J J J J J) J <| aA (aL (l := .agg [_, _]) J J J J J) J <| aA (kH (cs := [_, _, _, _]) J J J J J) J <| aZ (cO (cs' := [_, _, _, _]) J J J J J J J J) <| Wn <| aP <| post (n := 0) (.inr J) J ?_ (by simp)
  obtain ⟨h1, h2⟩ := hL1 (Int.sign_neg_iff.1 h31)
  rw [lvX_f, ← h1, ← h2]; rfl
 refine Rg 3 J <| bB (eG J J) J <| bB (eG J J) J <| bB (dS J) J <| Wn <| aB <| Rg 5 J <| aA (aL (l := .agg [_, _]) J J J J J) J <| aA (aL (l := .agg [_, _]) J J J J J) J <| aA (aK J (hg ▸ gcd_run v w hv hw) (by simp)) J <| bB (dS J) J <| aZ (cO (cs' := [_, _]) J J J J J J J J) <| Wn <| aB <| Rg 8 J <| aA (bH J J J J J) J <| aA (aL J J J J J) J <| aA (dV J J) J <| bE (fun h11 => ?_) (fun h11 => ?_)
 ·refine Um J J <| K1 J J <| K1 J J <| K1 J J <| aA (bW J J) J <| Nk [2,3,4,5,16] J <| aR J <| aB <| Rg 7 J <| aA (aL (l := .agg [_, _]) J J J J J) J <| aA (aL (l := .agg [_, _]) J J J J J) J <| aA (aK J (nQ v g om hv hlg) (by simp)) J <| Um J J <| aA (cW J J) J <| aA (cW J J) J <| aZ (cO (cs' := [_, _]) J J J J J J J J) <| Wn <| Rg 7 J <| aA (aL (l := .agg [_, _]) J J J J J) J <| aA (aL (l := .agg [_, _]) J J J J J) J <| aA (aK J (nQ w g om hw hlg) (by simp)) J <| Um J J <| aA (cW J J) J ?_
  refine aA (cW J J) J <| aZ (cO (cs' := [_, _]) J J J J J J J J) <| Nk [2,3,4] J <| Ck [2,3,4] J <| eU _ ?_ (J5 _ _ J J _)
  exact ⟨J, J, J, trivial⟩
 refine Um J J <| aM J (bH J J J J J) J <| aM J (aL J J J J J) J <| aM J (oNilN J J) J <| fT (fun h15 => ?_) (fun h15 => ?_)
 rotate_left
 ·refine aA (cG J J) J <| Nk [2,3,4,5,16] J <| aT J <| aE <| Ck [2,3,4] J ?_
  have h1 : g = 1 := by
   have := dH (rJ.1 h15); omega
  have e1 : v = v.tdiv g := by rw [h1]; simp
  have e2 : w = w.tdiv g := by rw [h1]; simp
  refine eU _ ?_ (J5 _ _ e1 e2 _)
  exact ⟨J, J, J, trivial⟩
 refine aA (cG J J) J <| Nk [2,3,4,5,16] J <| aR J <| aB <| Rg 7 J <| aA (aL (l := .agg [_, _]) J J J J J) J <| aA (aL (l := .agg [_, _]) J J J J J) J <| aA (aK J (nQ v g om hv hlg) (by simp)) J <| Um J J <| aA (cW J J) J <| aA (cW J J) J <| aZ (cO (cs' := [_, _]) J J J J J J J J) <| Wn <| Rg 7 J <| aA (aL (l := .agg [_, _]) J J J J J) J <| aA (aL (l := .agg [_, _]) J J J J J) J <| aA (aK J (nQ w g om hw hlg) (by simp)) J <| Um J J <| aA (cW J J) J <| aA (cW J J) J <| aZ (cO (cs' := [_, _]) J J J J J J J J) <| Nk [2,3,4] J ?_
 refine Ck [2,3,4] J <| eU _ ?_ (J5 _ _ J J _)
 exact ⟨J, J, J, trivial⟩
theorem qJ (x : X) : Run Try.prog T E0 (.call 174 [lvX x] (.v (.bool (xw x)))) := by
 refine bK Try.func174 J J (dM J) <| Rg 2 J <| bB (eG J J) J <| Ua J J <| Wn <| Rg 11 J <| aA (bH J J J J J) J <| aA (bH J J J J J) J <| aA (aL J J J J J) J <| aA (mE J J) J <| fT (fun h6 => ?_) (fun h6 => ?_)
 ·refine Um J J <| aM J (bH J J J J J) J <| aM J (bH J J J J J) J <| aM J (aL J J J J J) J <| aM J (oLeq J J) J <| aA (bW J J) J <| Ua J J <| Wn <| aP <| post (n := 0) (.inr J) J ?_ (by simp)
  have h1 : decide (ia (xlow x) ≤ 1) = xw x := by
   rw [dH (pK.1 h6)]; exact decide_eq_decide.2 (xlow_one x)
  exact congrArg (fun z => LV.v (.bool z)) h1
 refine Um J J <| K1 J J <| K1 J J <| K1 J J <| K1 J J <| aA (cG J J) J <| Ua J J <| Wn <| aP <| post (n := 0) (.inr J) J ?_ (by simp)
 have h1 : false = xw x := by
  have h2 := ik_ne.1 h6
  have h3 := xlow_one x
  have h4 : ¬ x.1.den = 1 := fun k => h2 (by have := h3.2 k; have := xlow_nonneg x; unfold small; omega)
  unfold xw; rw [decide_eq_false h4]
 exact congrArg (fun z => LV.v (.bool z)) h1
theorem eF (x : X) : Run Try.prog T E0 (.call 171 [lvX x] (lvI (x.1.den : Int))) := by
 refine bK Try.func171 J J (dM J) <| Rg 2 J <| bB (eG J J) J <| bB (dS J) J <| Wn <| aB <| Rg 4 J <| aA (bH J J J J J) J <| aA (aL (l := .agg [_, _]) J J J J J) J <| aA (aK J (jN _) (by simp)) J <| aA (gB J J) J <| bE (fun h6 => ?_) (fun h6 => ?_)
 ·refine Wn <| aR J <| aB <| Rg 2 J <| aA (aK J (one_run) (by simp)) J <| aZ (cO (cs' := [_, _]) J J J J J J J J) <| Wn <| bC <| post (n := 0) (.inr J) J ?_ (by simp)
  rw [xlow_zero (Int.sign_eq_zero_iff_zero.1 h6)]; rfl
 refine Wn <| aT J <| aE <| Rg 3 J <| aA (bH J J J J J) J <| aA (aL (l := .agg [_, _]) J J J J J) J <| aZ (cO (cs' := [_, _]) J J J J J J J J) <| Wn <| aP <| post (n := 0) (.inr J) J ?_ (by simp)
 rw [← xlow_ne (fun k => h6 (by rw [k]; rfl))]; rfl
theorem top_run (x : X) : Run Try.prog T E0 (.call 170 [lvX x] (lvI x.1.num)) := by
 refine bK Try.func170 J J (dM J) <| Rg 2 J <| bB (eG J J) J <| bB (dS J) J <| Wn <| Rg 3 J <| aA (bH J J J J J) J <| aA (aL (l := .agg [_, _]) J J J J J) J <| aZ (cO (cs' := [_, _]) J J J J J J J J) <| Wn <| aP <| post (n := 0) (.inr J) J ?_ (by simp)
 rfl
theorem gF (x : X) : Run Try.prog T E0 (.call 122 [lvX x] (.v (.int .i64 x.1.num.sign))) := by
 refine bK Try.func122 J J (dM J) <| Rg 2 J <| bB (eG J J) J <| Ua J J <| Wn <| Rg 4 J <| aA (bH J J J J J) J <| aA (aL (l := .agg [_, _]) J J J J J) J <| aA (aK J (jN x.1.num) (by simp)) J <| Ua J J <| Wn <| aP ?_
 exact post (n := 0) (.inr J) J J (by simp)
theorem iS (x : X) : Run Try.prog T E0 (.call 123 [lvX x] (lvX (xneg x))) := by
 refine bK Try.func123 J J (dM J) <| Rg 2 J <| bB (eG J J) J <| bB (dS J) J <| Wn <| bN (z := 7) J kR <| aH (bH J J J J J) J <| aH (aL (l := .agg [_, _]) J J J J J) J <| aH (aK J (qN x.1.num) (by simp)) J <| aH (bH J J J J J) J <| aH (aL (l := .agg [_, _]) J J J J J) J <| aH (kH (cs := [_, _, _, _]) J J J J J) J <| cR (cO (cs' := [_, _, _, _]) J J J J J J J J) <| bJ (aY kR) J <| aP <| post (n := 0) (.inr J) J ?_ (by simp)
 rw [lvX_neg]; rfl
theorem gI (v : Int) (hv : I64 v) : Run Try.prog T E0 (.call 125 [.v (.int .i64 v)] (lvX (xint v))) := by
 unfold I64 at hv
 refine bK Try.func125 J J (dM J) <| Rg 1 J <| bB (dS J) J <| Wn <| Rg 4 J <| Um J J <| aA (aK J (oU _ om) (by simp)) J <| aA (kH (cs := [_, _, _, _]) J J J J J) J <| aZ (cO (cs' := [_, _, _, _]) J J J J J J J J) <| Wn <| aP <| post (n := 0) (.inr J) J ?_ (by simp)
 rw [lvX_int]; rfl
theorem iQ (x y : X) (hx : Bd 68719476736 x.1) (hy : Bd 68719476736 y.1) : Run Try.prog T E0 (.call 108 [lvX x, lvX y] (lvX (xadd x y))) := by
 obtain ⟨hx1, hx2⟩ := hx
 obtain ⟨hy1, hy2⟩ := hy
 have m1 := dK x.1.num y.1.den
 have m2 := dK y.1.num x.1.den
 have m3 := len32_add (x.1.num * y.1.den) (y.1.num * x.1.den)
 have m4 := dK x.1.den y.1.den
 refine bK Try.func108 J J (dM J) <| Rg 3 J <| bB (eG J J) J <| bB (eG J J) J <| bB (dS J) J <| Wn <| aB <| Rg 6 J <| aA (aL (l := .agg [_, _, _, _]) J J J J J) J <| aA (aK J (qJ x) (by simp)) J <| fT (fun h6 => ?_) (fun h6 => ?_)
 rotate_left
 ·refine Um J J <| K1 J J <| K1 J J <| aA (cG J J) J <| Wn <| aT J <| aE <| bN (z := 18) J kR <| aH (bH J J J J J) J <| aH (aL (l := .agg [_, _]) J J J J J) J <| aH (aL (l := .agg [_, _, _, _]) J J J J J) J <| aH (aK J (eF y) (by simp)) J <| aH (aK J (fD x.1.num y.1.den om om) (by simp)) J <| aH (bH J J J J J) J <| aH (aL (l := .agg [_, _]) J J J J J) J <| aH (aL (l := .agg [_, _, _, _]) J J J J J) J <| aH (aK J (eF x) (by simp)) J <| aH (aK J (fD y.1.num x.1.den om om) (by simp)) J <| aH (aK J (add_run (x.1.num * y.1.den) (y.1.num * x.1.den) om om) (by simp)) J <| aH (aL (l := .agg [_, _, _, _]) J J J J J) J <| aH (aK J (eF x) (by simp)) J <| aH (aL (l := .agg [_, _, _, _]) J J J J J) J <| aH (aK J (eF y) (by simp)) J <| aH (aK J (fD x.1.den y.1.den om om) (by simp)) J ?_
  refine aH (aK J (iJ (x.1.num * y.1.den + y.1.num * x.1.den) (x.1.den * y.1.den) (Int.mul_ne_zero (fU _) (fU _)) om om) (by simp)) J <| cR (cO (cs' := [_, _, _, _]) J J J J J J J J) <| bJ (aY kR) J <| Ck [4] J <| aP <| post (n := 0) (.inr J) J ?_ (by simp)
  rw [xadd_f (by rw [h6]; rfl)]; rfl
 refine Um J J <| aM J (aL (l := .agg [_, _, _, _]) J J J J J) J <| aM J (aK J (qJ y) (by simp)) J <| fT (fun h9 => ?_) (fun h9 => ?_)
 ·refine aA (bW J J) J <| Wn <| aR J <| aB <| Rg 7 J <| aA (bH J J J J J) J <| aA (aL (l := .agg [_, _]) J J J J J) J <| aA (bH J J J J J) J <| aA (aL (l := .agg [_, _]) J J J J J) J <| aA (aK J (add_run x.1.num y.1.num om om) (by simp)) J <| aA (kH (cs := [_, _, _, _]) J J J J J) J <| aZ (cO (cs' := [_, _, _, _]) J J J J J J J J) <| Nk [4] J <| bC <| post (n := 0) (.inr J) J ?_ (by simp)
  rw [xadd_w h6 h9]; rfl
 refine aA (bW J J) J <| Wn <| aT J <| aE <| bN (z := 18) J kR <| aH (bH J J J J J) J <| aH (aL (l := .agg [_, _]) J J J J J) J <| aH (aL (l := .agg [_, _, _, _]) J J J J J) J <| aH (aK J (eF y) (by simp)) J <| aH (aK J (fD x.1.num y.1.den om om) (by simp)) J <| aH (bH J J J J J) J <| aH (aL (l := .agg [_, _]) J J J J J) J <| aH (aL (l := .agg [_, _, _, _]) J J J J J) J <| aH (aK J (eF x) (by simp)) J <| aH (aK J (fD y.1.num x.1.den om om) (by simp)) J <| aH (aK J (add_run (x.1.num * y.1.den) (y.1.num * x.1.den) om om) (by simp)) J <| aH (aL (l := .agg [_, _, _, _]) J J J J J) J <| aH (aK J (eF x) (by simp)) J <| aH (aL (l := .agg [_, _, _, _]) J J J J J) J <| aH (aK J (eF y) (by simp)) J <| aH (aK J (fD x.1.den y.1.den om om) (by simp)) J <| aH (aK J (iJ (x.1.num * y.1.den + y.1.num * x.1.den) (x.1.den * y.1.den) (Int.mul_ne_zero (fU _) (fU _)) om om) (by simp)) J <| cR (cO (cs' := [_, _, _, _]) J J J J J J J J) <| bJ (aY kR) J ?_
 refine Ck [4] J <| aP <| post (n := 0) (.inr J) J ?_ (by simp)
 rw [xadd_f (by rw [h6, h9]; rfl)]; rfl
theorem iR (x y : X) (hx : Bd 68719476736 x.1) (hy : Bd 68719476736 y.1) : Run Try.prog T E0 (.call 110 [lvX x, lvX y] (lvX (xmul x y))) := by
 obtain ⟨hx1, hx2⟩ := hx
 obtain ⟨hy1, hy2⟩ := hy
 have m1 := dK x.1.num y.1.num
 have m4 := dK x.1.den y.1.den
 refine bK Try.func110 J J (dM J) <| Rg 3 J <| bB (eG J J) J <| bB (eG J J) J <| bB (dS J) J <| Wn <| aB <| Rg 6 J <| aA (aL (l := .agg [_, _, _, _]) J J J J J) J <| aA (aK J (qJ x) (by simp)) J <| fT (fun h6 => ?_) (fun h6 => ?_)
 rotate_left
 ·refine Um J J <| K1 J J <| K1 J J <| aA (cG J J) J <| Wn <| aT J <| aE <| bN (z := 12) J kR <| aH (bH J J J J J) J <| aH (aL (l := .agg [_, _]) J J J J J) J <| aH (bH J J J J J) J <| aH (aL (l := .agg [_, _]) J J J J J) J <| aH (aK J (fD x.1.num y.1.num om om) (by simp)) J <| aH (aL (l := .agg [_, _, _, _]) J J J J J) J <| aH (aK J (eF x) (by simp)) J <| aH (aL (l := .agg [_, _, _, _]) J J J J J) J <| aH (aK J (eF y) (by simp)) J <| aH (aK J (fD x.1.den y.1.den om om) (by simp)) J <| aH (aK J (iJ (x.1.num * y.1.num) (x.1.den * y.1.den) (Int.mul_ne_zero (fU _) (fU _)) om om) (by simp)) J <| cR (cO (cs' := [_, _, _, _]) J J J J J J J J) <| bJ (aY kR) J <| Ck [4] J <| aP <| post (n := 0) (.inr J) J ?_ (by simp)
  rw [xmul_f (by rw [h6]; rfl)]; rfl
 refine Um J J <| aM J (aL (l := .agg [_, _, _, _]) J J J J J) J <| aM J (aK J (qJ y) (by simp)) J <| fT (fun h9 => ?_) (fun h9 => ?_)
 ·refine aA (bW J J) J <| Wn <| aR J <| aB <| Rg 7 J <| aA (bH J J J J J) J <| aA (aL (l := .agg [_, _]) J J J J J) J <| aA (bH J J J J J) J <| aA (aL (l := .agg [_, _]) J J J J J) J <| aA (aK J (fD x.1.num y.1.num om om) (by simp)) J <| aA (kH (cs := [_, _, _, _]) J J J J J) J <| aZ (cO (cs' := [_, _, _, _]) J J J J J J J J) <| Nk [4] J <| bC <| post (n := 0) (.inr J) J ?_ (by simp)
  rw [xmul_w h6 h9]; rfl
 refine aA (bW J J) J <| Wn <| aT J <| aE <| bN (z := 12) J kR <| aH (bH J J J J J) J <| aH (aL (l := .agg [_, _]) J J J J J) J <| aH (bH J J J J J) J <| aH (aL (l := .agg [_, _]) J J J J J) J <| aH (aK J (fD x.1.num y.1.num om om) (by simp)) J <| aH (aL (l := .agg [_, _, _, _]) J J J J J) J <| aH (aK J (eF x) (by simp)) J <| aH (aL (l := .agg [_, _, _, _]) J J J J J) J <| aH (aK J (eF y) (by simp)) J <| aH (aK J (fD x.1.den y.1.den om om) (by simp)) J <| aH (aK J (iJ (x.1.num * y.1.num) (x.1.den * y.1.den) (Int.mul_ne_zero (fU _) (fU _)) om om) (by simp)) J <| cR (cO (cs' := [_, _, _, _]) J J J J J J J J) <| bJ (aY kR) J <| Ck [4] J <| aP <| post (n := 0) (.inr J) J ?_ (by simp)
 rw [xmul_f (by rw [h6, h9]; rfl)]; rfl
theorem rT (x y : X) (h0 : y.1 ≠ 0) (hx : Bd 68719476736 x.1) (hy : Bd 68719476736 y.1) : Run Try.prog T E0 (.call 124 [lvX x, lvX y] (lvX (xdiv x y))) := by
 obtain ⟨hx1, hx2⟩ := hx
 obtain ⟨hy1, hy2⟩ := hy
 have m1 := dK x.1.num y.1.den
 have m4 := dK x.1.den y.1.num
 refine bK Try.func124 J J (dM J) <| Rg 3 J <| bB (eG J J) J <| bB (eG J J) J <| bB (dS J) J <| Wn <| bN (z := 12) J kR <| aH (bH J J J J J) J <| aH (aL (l := .agg [_, _]) J J J J J) J <| aH (aL (l := .agg [_, _, _, _]) J J J J J) J <| aH (aK J (eF y) (by simp)) J <| aH (aK J (fD x.1.num y.1.den om om) (by simp)) J <| aH (aL (l := .agg [_, _, _, _]) J J J J J) J <| aH (aK J (eF x) (by simp)) J <| aH (bH J J J J J) J <| aH (aL (l := .agg [_, _]) J J J J J) J <| aH (aK J (fD x.1.den y.1.num om om) (by simp)) J <| aH (aK J (iJ (x.1.num * y.1.den) (x.1.den * y.1.num) (Int.mul_ne_zero (fU _) (num_ne h0)) om om) (by simp)) J <| cR (cO (cs' := [_, _, _, _]) J J J J J J J J) <| bJ (aY kR) J <| Ck [4] J <| aP <| post (n := 0) (.inr J) J ?_ (by simp)
 rw [xdiv_f h0]; rfl
theorem dC (a : NM) (h1 : I64 a.1) (h2 : I64 a.2) (h0 : a.2 ≠ 0) : Run Try.prog T E0 (.call 105 [lvM a] (lvX (Rat.divInt a.1 a.2, false))) := by
 unfold I64 at h1 h2
 have m1 := eX (v := a.1) om
 have m2 := eX (v := a.2) om
 refine bK Try.func105 J J (dM J) <| Rg 2 J <| bB (eG J J) J <| bB (dS J) J <| Wn <| bN (z := 8) J kR <| aH (bH J J J J J) J <| aH (aL J J J J J) J <| aH (aK J (oU _ om) (by simp)) J <| aH (bH J J J J J) J <| aH (aL J J J J J) J <| aH (aK J (oU _ om) (by simp)) J <| aH (aK J (iJ a.1 a.2 h0 om om) (by simp)) J <| cR (cO (cs' := [_, _, _, _]) J J J J J J J J) <| bJ (aY kR) J <| aP <| post (n := 0) (.inr J) J ?_ (by simp)
 rfl
theorem iP (a : NM) (h1 : I64 a.1) (h2 : I64 a.2) : Run Try.prog T E0 (.call 118 [lvM a] (.v (.bool (decide (VN a))))) := by
 unfold I64 at h1 h2
 have m1 := eX (v := a.1) om
 have m2 := eX (v := a.2) om
 refine bK Try.func118 J J (dM J) <| Rg 2 J <| bB (eG J J) J <| Ua J J <| Wn <| aB <| Rg 18 J <| aA (bH J J J J J) J <| aA (aL J J J J J) J <| aA (bU J J) J <| bE (fun h7 => ?_) (fun h7 => ?_)
 ·refine Um J J <| K1 J J <| K1 J J <| K1 J J <| aA (bW J J) J <| Um J J <| K1 J J <| K1 J J <| K1 J J <| aA (bW J J) J <| Um J J <| K1 J J <| K1 J J <| K1 J J <| aA (bW J J) J <| Nk [1,22] J <| aR J <| aB ?_
  have hV : ¬ VN a := by unfold VN; omega
  refine Rg 1 J <| Ua J J <| Wn <| bC <| post (n := 0) (.inr J) J ?_ (by simp)
  exact congrArg (fun z => LV.v (.bool z)) (decide_eq_false hV).symm
 refine Um J J <| aM J (bH J J J J J) J <| aM J (aL J J J J J) J <| aM J (gW J J) J <| bE (fun h11 => ?_) (fun h11 => ?_)
 ·refine aA (cG J J) J <| Um J J <| K1 J J <| K1 J J <| K1 J J <| aA (bW J J) J <| Um J J <| K1 J J <| K1 J J <| K1 J J <| aA (bW J J) J <| Nk [1,22] J <| aR J <| aB ?_
  have hV : ¬ VN a := by unfold VN; omega
  refine Rg 1 J <| Ua J J <| Wn <| bC <| post (n := 0) (.inr J) J ?_ (by simp)
  exact congrArg (fun z => LV.v (.bool z)) (decide_eq_false hV).symm
 refine aA (cG J J) J <| Um J J <| aM J (bH J J J J J) J <| aM J (aL J J J J J) J <| aM J (gW J J) J <| bE (fun h16 => ?_) (fun h16 => ?_)
 ·refine aA (cG J J) J <| Um J J <| K1 J J <| K1 J J <| K1 J J <| aA (bW J J) J <| Nk [1,22] J <| aR J <| aB ?_
  have hV : ¬ VN a := by unfold VN; omega
  refine Rg 1 J <| Ua J J <| Wn <| bC <| post (n := 0) (.inr J) J ?_ (by simp)
  exact congrArg (fun z => LV.v (.bool z)) (decide_eq_false hV).symm
 refine aA (cG J J) J <| Um J J <| aM J (bH J J J J J) J <| aM J (aL J J J J J) J <| aM J (bU J J) J <| bE (fun h21 => ?_) (fun h21 => ?_)
 ·refine aA (cG J J) J <| Nk [1,22] J <| aR J <| aB ?_
  have hV : ¬ VN a := by unfold VN; omega
  refine Rg 1 J <| Ua J J <| Wn <| bC <| post (n := 0) (.inr J) J ?_ (by simp)
  exact congrArg (fun z => LV.v (.bool z)) (decide_eq_false hV).symm
 refine aA (cG J J) J <| Nk [1,22] J <| aT J <| aE ?_
 have hg1 : a.1.gcd a.2 ≤ a.2.natAbs := Nat.le_of_dvd om (Nat.gcd_dvd_right _ _)
 refine bN (z := 13) J kR <| aH (bH J J J J J) J <| aH (aL J J J J J) J <| aH (aK J (oU _ om) (by simp)) J <| aH (bH J J J J J) J <| aH (aL J J J J J) J <| aH (aK J (oU _ om) (by simp)) J <| aH (aK J (gcd_run a.1 a.2 om om) (by simp)) J <| aH (aK J (qI (a.1.gcd a.2 : Nat) 1152921504606846976 om) (by simp)) J <| Dm J J <| aH (cW J J) J <| aH (cW J J) J <| aH (fR J) J <| aH (fR J) J <| bJ (aY kR) J <| Ck [3] J <| Rg 3 J <| Um J J <| aA (gB J J) J <| Ua J J <| Wn <| aP <| post (n := 0) (.inr J) J ?_ (by simp)
 have hV : (decide ((if -1152921504606846976 ≤ ((a.1.gcd a.2 : Nat) : Int) ∧ ((a.1.gcd a.2 : Nat) : Int) ≤ 1152921504606846976 then ((a.1.gcd a.2 : Nat) : Int) else 0) = 1)) = decide (VN a) := by
  rw [if_pos om]; apply decide_eq_decide.2; unfold VN; omega
 exact congrArg (fun z => LV.v (.bool z)) hV
theorem rQ (x : X) : Run Try.prog T E0 (.call 100 [lvX x] (lvO (outN x.1))) := by
 refine bK Try.func100 J J (dM J) <| Rg 3 J <| bB (eG J J) J <| bB (dS J) J <| Ua J J <| Wn <| Rg 8 J <| aA (aL (l := .agg [_, _, _, _]) J J J J J) J <| aA (aK J (top_run x) (by simp)) J <| aA (aK J (qI x.1.num 1152921504606846976 om) (by simp)) J <| Um J J <| aA (cW J J) J <| aA (cW J J) J <| fT (fun h13 => ?_) (fun h13 => ?_)
 rotate_left
 ·refine Ua J J <| Ua J J <| Wn <| Rg 8 J <| aA (aL (l := .agg [_, _, _, _]) J J J J J) J <| aA (aK J (eF x) (by simp)) J <| aA (aK J (qI x.1.den 1152921504606846976 om) (by simp)) J <| Um J J <| aA (cW J J) J <| aA (cW J J) J <| fT (fun h19 => ?_) (fun h19 => ?_)
  ·refine Ua J J <| Ua J J <| Nk [2,4,5,6,7] J <| aB <| Rg 6 J <| Um J J <| aA (fG J) J <| Um J J <| K1 J J <| K1 J J <| aA (bW J J) J <| Wn <| aR J <| aB ?_
   have hV : outN x.1 = none := by
    unfold outN; rw [if_neg]; simp at *; omega
   refine Rg 3 J <| aA (kH (cs := [_, _]) J J J J J) J <| aZ (cO (cs' := [_, _]) J J J J J J J J) <| Ua J J <| Wn <| bC <| post (n := 0) (.inr J) J ?_ (by simp)
   first | (rw [hV]; rfl) | (rw [hV, if_pos k1, if_pos k2]; rfl)
  refine Ua J J <| Ua J J <| Nk [2,4,5,6,7] J <| aB <| Rg 6 J <| Um J J <| aA (fG J) J <| Um J J <| K1 J J <| K1 J J <| aA (bW J J) J <| Wn <| aR J <| aB ?_
  have hV : outN x.1 = none := by
   unfold outN; rw [if_neg]; simp at *; omega
  refine Rg 3 J <| aA (kH (cs := [_, _]) J J J J J) J <| aZ (cO (cs' := [_, _]) J J J J J J J J) <| Ua J J <| Wn <| bC <| post (n := 0) (.inr J) J ?_ (by simp)
  first | (rw [hV]; rfl) | (rw [hV, if_pos k1, if_pos k2]; rfl)
 refine Ua J J <| Ua J J <| Wn <| Rg 8 J <| aA (aL (l := .agg [_, _, _, _]) J J J J J) J <| aA (aK J (eF x) (by simp)) J <| aA (aK J (qI x.1.den 1152921504606846976 om) (by simp)) J <| Um J J <| aA (cW J J) J <| aA (cW J J) J <| fT (fun h19 => ?_) (fun h19 => ?_)
 rotate_left
 ·refine Ua J J <| Ua J J <| Nk [2,4,5,6,7] J <| aB <| Rg 6 J <| Um J J <| aA (fG J) J <| Um J J <| aM J (dU J) J <| aM J (fG J) J <| aA (cG J J) J <| Wn <| aR J <| aB ?_
  have hV : outN x.1 = none := by
   unfold outN; rw [if_neg]; simp at *; omega
  refine Rg 3 J <| aA (kH (cs := [_, _]) J J J J J) J <| aZ (cO (cs' := [_, _]) J J J J J J J J) <| Ua J J <| Wn <| bC <| post (n := 0) (.inr J) J ?_ (by simp)
  first | (rw [hV]; rfl) | (rw [hV, if_pos k1, if_pos k2]; rfl)
 refine Ua J J <| Ua J J <| Nk [2,4,5,6,7] J <| aB <| Rg 6 J <| Um J J <| aA (fG J) J <| Um J J <| aM J (dU J) J <| aM J (fG J) J <| aA (cG J J) J <| Wn <| aT J <| aE ?_
 have k1 := of_decide_eq_true h13
 have k2 := of_decide_eq_true h19
 have hV : outN x.1 = some (x.1.num, (x.1.den : Int)) := by
  unfold outN; rw [if_pos ⟨k1, k2.2⟩]
 refine Rg 5 J <| Um J J <| Um J J <| aA (kH (cs := [_, _]) J J J J J) J <| aZ (cO (cs' := [_, _]) J J J J J J J J) <| Ua J J <| Nk [2,3] J <| aP <| post (n := 0) (.inr J) J ?_ (by simp)
 first | (rw [hV]; rfl) | (rw [hV, if_pos k1, if_pos k2]; rfl)
end Go.Proofs.Ytcblgjaomljikaa
set_option maxHeartbeats 4000000
namespace Go.Proofs.Ytcblgjaomljikaa
open Go.Ab Go.RowKit
theorem idx1_run (k : Nat) (ns : List NM) (g : FuncId) (cap : List LV) (p : NM → Bool) (hcap : ∀ c, c ∈ cap → Go.Ab.Data c) (ln : ns.length < 4611686018427387904) (hp : ∀ a, a ∈ ns → Run Try.prog T E0 (.call g ([lvM a] ++ cap) (.v (.bool (p a))))) : Run Try.prog T E0 (.call 179 [.sl k (ns.map mc), .fn (.func g) [] cap] (.v (.int .i64 (fidx p ns)))) := by
 refine bK Try.func179 J J (dM J) <| Rg 1 J <| Ua J J <| Wn <| aB <| Rg 3 J <| Um J J <| aA (bD J J) J <| Um J J <| Wn <| aI <| aX (α := Nat) (fun i => [(0, .sl k (ns.map mc)), (1, .fn (.func g) [] cap), (7, .v (.int .i64 (ns.length : Int))), (8, .v (.int .i64 (i : Int)))]) (fun i => []) (fun i n => i ≤ ns.length ∧ (ns.take i).any p = false) (fun i => ns.length - i) (0) ⟨J, J, J, J, trivial⟩ trivial ⟨Nat.zero_le _, by simp⟩ ?_
 rintro i n hF
 change WC _ _ _ _ _ (_ :: _) ([]) n _
 obtain ⟨hi, ha⟩ := hF
 refine Rg 1 J <| aA (bU J J) J <| bE (fun h9 => ?_) (fun h9 => ?_)
 rotate_left
 ·refine Wn <| aT J <| aU <| aN <| aO J <| Rg 1 J <| Ua J J <| Wn <| aP <| post (n := 0) (.inr J) J ?_ (by first | (simp [-bY]; done) | simp)
  exact congrArg (fun z => LV.v (.int .i64 z)) (fidx_none ha om).symm
 refine Wn <| aR J <| aE <| aI <| Rg 2 J <| Um J J <| Ua J J <| Wn <| Rg 6 J <| Um J J <| Um J J <| Um J J <| aA (bS J J J J J om J) J <| aA (dL (l := .agg [_, _]) J J J) J <| aA (oCallV J J (hp _ (bA om)) (aQ (by simpa [-bY] using hcap))) J <| fT (fun h16 => ?_) (fun h16 => ?_)
 rotate_left
 ·refine Wn <| cH J <| cM <| aG <| aJ (z := 2) J <| aA (cI (((i + 1 : Nat) : Int)) (aV J J om) om) J <| Um J J <| Wn <| aF <| ⟨i + 1, ⟨J, J, J, J, trivial⟩, trivial, ⟨om, take_any ha om h16⟩, by show ns.length - (i + 1) < ns.length - i; omega⟩
 refine Wn <| cL J <| Rg 2 J <| Um J J <| Ua J J <| Nk [4] J <| aP <| aS <| bO <| aS <| post (n := 0) (.inr J) J ?_ (by first | (simp [-bY]; done) | simp)
 exact congrArg (fun z => LV.v (.int .i64 z)) (fidx_hit ha om h16).symm
theorem con1_run (k : Nat) (ns : List NM) (g : FuncId) (cap : List LV) (p : NM → Bool) (hcap : ∀ c, c ∈ cap → Go.Ab.Data c) (ln : ns.length < 4611686018427387904) (hp : ∀ a, a ∈ ns → Run Try.prog T E0 (.call g ([lvM a] ++ cap) (.v (.bool (p a))))) : Run Try.prog T E0 (.call 116 [.sl k (ns.map mc), .fn (.func g) [] cap] (.v (.bool (ns.any p)))) := by
 refine bK Try.func116 J J (dM J) <| Rg 1 J <| Ua J J <| Wn <| Rg 5 J <| Um J J <| Um J J <| aA (aK J (idx1_run k ns g cap p hcap ln hp) (by simpa [-bY] using hcap)) J <| aA (mK J J) J <| Ua J J <| Wn <| aP <| post (n := 0) (.inr J) J ?_ (by first | (simp [-bY]; done) | simp)
 exact congrArg (fun z => LV.v (.bool z)) (fidx_nonneg p ns)
theorem lQ (k : Nat) (ns : List NM) (ln : ns.length < 1099511627776) (hI : IV ns) (h0 : ∀ a, a ∈ ns → a.2 ≠ 0) : Run Try.prog T E0 (.call 62 [.sl k (ns.map mc)] (.sl (kd (ns.map nx).length) ((ns.map nx).map xc))) := by
 refine bK Try.func62 J J (dM J) <| Rg 1 J <| Ua J J <| Wn <| Rg 1 J <| Ua J J <| Wn <| aB <| Rg 3 J <| Um J J <| aA (bD J J) J <| Um J J <| Wn <| aI <| aX (α := Nat × Nat × (List X)) (fun ⟨i, q, ds⟩ => [(3, outV q 4 (ds.map xc)), (6, .sl k (ns.map mc)), (7, .v (.int .i64 (ns.length : Int))), (8, .v (.int .i64 (i : Int)))]) (fun ⟨i, q, ds⟩ => outH q 4 114 (ds.map xc) []) (fun ⟨i, q, ds⟩ n => i ≤ ns.length ∧ ds = (ns.take i).map nx ∧ ds.length = i ∧ q < n) (fun ⟨i, q, ds⟩ => ns.length - i) (0, 0, []) ⟨J, J, J, J, trivial⟩ trivial ⟨Nat.zero_le _, by simp, rfl, om⟩ ?_
 rintro ⟨i, q, ds⟩ n hF
 change WC _ _ _ _ _ (_ :: _) (outH _ _ _ _ _) n _
 obtain ⟨hi, hds, hdl, hq⟩ := hF
 refine Rg 1 J <| aA (bU J J) J <| bE (fun h9 => ?_) (fun h9 => ?_)
 rotate_left
 ·refine Wn <| aT J <| aU <| aN <| aO J <| Rg 2 J <| Um J J <| Ua J J <| Wn <| aP ?_
  rw [List.take_of_length_le om] at hds
  rw [← hds, ← iC]
  exact postOut (n := 0) (.inr J) J (by decide) (bL (n := 4) (fun _ => rfl)) (aW jI)
 refine Wn <| aR J <| aE <| aI <| Rg 4 J <| aA (bS J J J J J om J) J <| aA (dL (l := .agg [_, _]) J J J) J <| bB (dS J) J <| aZ (cO (cs' := [_, _]) J J J g0 J J J J) <| dA ?_
 have hm := bA (us := ns) (i := i) om
 refine aJ (z := 6) J <| Um J J <| aA (aL (l := .agg [_, _]) J J g0 J J) J <| aA (aK J (dC (ns.getD i default) (hI _ hm).1 (hI _ hm).2 (h0 _ hm)) (by first | (simp [-bY]; done) | simp)) J <| aA (dJ (cs := [_, _, _, _]) (rows := [[_, _, _, _]]) J J (by decide) J J J) J <| fF (outH q 4 114 ((ds).map xc) []) (Hp.le_skip (cC om J) (Hp.le_skip (cC om J) (Hp.le_refl _))) <| gD (te := ti114) (f := xc) (q := q) (us := ds) (u := (nx (ns.getD i default))) J J J J J (fun _ => rfl) (by decide) (by show (2 * (ds.length + 1) + 256) * 64 ≤ _; omega) om J J J <| Ua J J <| Wn <| aG <| aJ (z := 2) J <| aA (cI (((i + 1 : Nat) : Int)) (aV J J om) om) J <| Um J J <| Wn <| aF <| ⟨⟨i + 1, _, ds ++ [nx (ns.getD i default)]⟩, ⟨J, J, J, J, trivial⟩, jP, ⟨om, by rw [take_map_succ om, hds], by simp; omega, om⟩, by show ns.length - (i + 1) < ns.length - i; omega⟩
theorem lP (k : Nat) (ns : List X) (ln : ns.length < 1099511627776)  : Run Try.prog T E0 (.call 93 [.sl k (ns.map xc)] (lvOV (ns.mapM (fun x => outN x.1)))) := by
 refine bK Try.func93 J J (dM J) <| Rg 2 J <| Ua J J <| Ua J J <| Wn <| Rg 1 J <| Ua J J <| Wn <| aB <| Rg 3 J <| Um J J <| aA (bD J J) J <| Um J J <| Wn <| aI <| aX (α := Nat × Nat × (List NM)) (fun ⟨i, q, ds⟩ => [(4, outV q 2 (ds.map mc)), (9, .sl k (ns.map xc)), (10, .v (.int .i64 (ns.length : Int))), (11, .v (.int .i64 (i : Int)))]) (fun ⟨i, q, ds⟩ => outH q 2 28 (ds.map mc) []) (fun ⟨i, q, ds⟩ n => i ≤ ns.length ∧ (ns.take i).mapM (fun x => outN x.1) = some ds ∧ ds.length = i ∧ q < n) (fun ⟨i, q, ds⟩ => ns.length - i) (0, 0, []) ⟨J, J, J, J, trivial⟩ trivial ⟨Nat.zero_le _, by simp, rfl, om⟩ ?_
 rintro ⟨i, q, ds⟩ n hF
 change WC _ _ _ _ _ (_ :: _) (outH _ _ _ _ _) n _
 obtain ⟨hi, hds, hdl, hq⟩ := hF
 refine Rg 1 J <| aA (bU J J) J <| bE (fun h12 => ?_) (fun h12 => ?_)
 rotate_left
 ·refine Wn <| aT J <| aU <| aN <| aO J <| Rg 3 J <| Um J J <| Ua J J <| Ua J J <| Wn <| aP ?_
  rw [List.take_of_length_le om] at hds
  rw [hds]
  exact postOutT (n := 0) (.inr J) J (by decide) (bL (n := 2) (fun _ => rfl)) (aW nB) (by simp [lvOV, iC])
 refine Wn <| aR J <| aE <| aI <| Rg 4 J <| aA (bS J J J J J om J) J <| aA (dL (l := .agg [_, _, _, _]) J J J) J <| bB (dS J) J <| aZ (cO (cs' := [_, _, _, _]) J J J g0 J J J J) <| Wn <| Rg 8 J <| aA (aL (l := .agg [_, _, _, _]) J J g0 J J) J <| aA (bG (b := .tup [lvM ((outN (ns.getD i default).1).getD (0, 0)), .v (.int .i64 (if (outN (ns.getD i default).1).isSome = true then 0 else 3))]) (aK J (rQ (ns.getD i default)) (by first | (simp [-bY]; done) | simp)) (by rw [lvO_eq])) J <| Um J J <| aA (cW J J) J <| aA (cW J J) J <| bB (dS J) J <| aZ (cO (cs' := [_, _]) J J J g0 J J J J) <| Ua J J <| Nk [4,7,8,9,10,11] J <| aB <| Rg 2 J <| Um J J ?_
 refine aA (dV J J) J <| bE (fun h21 => ?_) (fun h21 => ?_)
 ·refine Wn <| aR J <| aB ?_
  have hno2 : outN (ns.getD i default).1 = none := by
   cases ho : outN (ns.getD i default).1 with
   | none => rfl
   | some _ => rw [ho] at h21; exact absurd rfl h21
  have hno : ns.mapM (fun x => outN x.1) = none := qM (i := i) om hno2
  refine Rg 3 J <| Um J J <| Ua J J <| Ua J J <| Wn <| bC <| aS <| bO <| aS <| post (n := 0) (.inr J) J ?_ (by first | (simp [-bY]; done) | simp)
  first | (rw [hno]; rfl) | (rw [hno, hno2]; rfl)
 refine Wn <| aT J <| aE ?_
 obtain ⟨o, ho⟩ : ∃ o, outN (ns.getD i default).1 = some o := by
  cases ho : outN (ns.getD i default).1 with
  | none => rw [ho] at h21; exact absurd (by decide) h21
  | some o => exact ⟨o, rfl⟩
 refine aJ (z := 5) J <| Um J J <| aA (bG (b := lvM o) (aL (l := .agg [_, _]) J J g0 J J) (by simp only [ho, Option.getD_some]; rfl)) J <| aA (dJ (cs := [_, _]) (rows := [[_, _]]) J J (by decide) J J J) J <| fF (outH q 2 28 ((ds).map mc) []) (Hp.le_skip (cC om J) (Hp.le_skip (cC om J) (Hp.le_skip (cC om J) (Hp.le_skip (cC om J) (Hp.le_refl _))))) <| gD (te := ti28) (f := mc) (q := q) (us := ds) (u := o) J J J J J (fun _ => rfl) (by decide) (by show (2 * (ds.length + 1) + 256) * 16 ≤ _; omega) om J J J <| Ua J J <| Wn <| aG <| aJ (z := 2) J <| aA (cI (((i + 1 : Nat) : Int)) (aV J J om) om) J <| Um J J <| Wn <| aF <| ⟨⟨i + 1, _, ds ++ [o]⟩, ⟨J, J, J, J, trivial⟩, jP, ⟨om, lN hds om ho, by simp; omega, om⟩, by show ns.length - (i + 1) < ns.length - i; omega⟩
theorem mouts_run (k : Nat) (ns : List X1) (ln : ns.length < 1099511627776) (lr : ∀ r, r ∈ ns → r.2.length < 1099511627776) : Run Try.prog T E0 (.call 88 [.sl k (ns.map fX)] (lvOM (ns.mapM (fun r => r.2.mapM fun x => outN x.1)))) := by
 refine bK Try.func88 J J (dM J) <| Rg 2 J <| Ua J J <| Ua J J <| Wn <| Rg 1 J <| Ua J J <| Wn <| aB <| Rg 3 J <| Um J J <| aA (bD J J) J <| Um J J <| Wn <| aI <| aX (α := Nat × Nat × (List M1) × (List (List NM))) (fun ⟨i, q, ds, es⟩ => [(4, outV q 1 (ds.map fM)), (9, .sl k (ns.map fX)), (10, .v (.int .i64 (ns.length : Int))), (11, .v (.int .i64 (i : Int)))]) (fun ⟨i, q, ds, es⟩ => outH q 1 41 (ds.map fM) []) (fun ⟨i, q, ds, es⟩ n => i ≤ ns.length ∧ (ns.take i).mapM (fun r => r.2.mapM fun x => outN x.1) = some es ∧ ds.length = i ∧ q < n ∧ ds = es.map kM) (fun ⟨i, q, ds, es⟩ => ns.length - i) (0, 0, [], []) ⟨J, J, J, J, trivial⟩ trivial ⟨Nat.zero_le _, by simp, rfl, om, rfl⟩ ?_
 rintro ⟨i, q, ds, es⟩ n hF
 change WC _ _ _ _ _ (_ :: _) (outH _ _ _ _ _) n _
 obtain ⟨hi, hds, hdl, hq, hek⟩ := hF
 refine Rg 1 J <| aA (bU J J) J <| bE (fun h12 => ?_) (fun h12 => ?_)
 rotate_left
 ·refine Wn <| aT J <| aU <| aN <| aO J <| Rg 3 J <| Um J J <| Ua J J <| Ua J J <| Wn <| aP ?_
  rw [List.take_of_length_le om] at hds
  rw [hds]
  exact postOutT (n := 0) (.inr J) J (by decide) (bL (n := 1) (fun _ => rfl)) (aW dfM) (by subst hek; simp [lvOM, iC])
 refine Wn <| aR J <| aE <| aI <| Rg 3 J <| aA (bS J J J J J om J) J <| aA (dL J J J) J <| Ua J J <| dA ?_
 have hm := bA (us := ns) (i := i) om
 refine Rg 7 J <| Um J J <| aA (aK J (lP (ns.getD i default).1 (ns.getD i default).2 (lr _ hm)) (by first | (simp [-bY]; done) | simp)) J <| Um J J <| aA (cW J J) J <| aA (cW J J) J <| Ua J J <| Ua J J <| Nk [4,7,8,9,10,11] J <| aB <| Rg 2 J <| Um J J <| aA (dV J J) J <| bE (fun h21 => ?_) (fun h21 => ?_)
 ·refine Wn <| aR J <| aB ?_
  have hno2 : ((ns.getD i default).2.mapM fun x => outN x.1) = none := by
   cases ho : ((ns.getD i default).2.mapM fun x => outN x.1) with
   | none => rfl
   | some _ => rw [ho] at h21; exact absurd rfl h21
  have hno : ns.mapM (fun r => r.2.mapM fun x => outN x.1) = none := qM (i := i) om hno2
  refine Rg 3 J <| Um J J <| Ua J J <| Ua J J <| Wn <| bC <| aS <| bO <| aS <| post (n := 0) (.inr J) J ?_ (by first | (simp [-bY]; done) | simp)
  first | (rw [hno]; rfl) | (rw [hno, hno2]; rfl)
 refine Wn <| aT J <| aE ?_
 obtain ⟨o, ho⟩ : ∃ o, ((ns.getD i default).2.mapM fun x => outN x.1) = some o := by
  cases ho : ((ns.getD i default).2.mapM fun x => outN x.1) with
  | none => rw [ho] at h21; exact absurd (by decide) h21
  | some o => exact ⟨o, rfl⟩
 refine aJ (z := 5) J <| Um J J <| aA (bG (b := .sl (kd o.length) (o.map mc)) (dU J) (by simp only [ho, Option.getD_some])) J <| aA (dJ (cs := [_]) (rows := [[_]]) J J (by decide) J J J) J <| gD (te := ti41) (f := fM) (q := q) (us := ds) (u := (kM o)) J J J J J (fun _ => rfl) (by decide) (by show (2 * (ds.length + 1) + 256) * 24 ≤ _; omega) om J J J <| Ua J J <| Wn <| aG <| aJ (z := 2) J <| aA (cI (((i + 1 : Nat) : Int)) (aV J J om) om) J <| Um J J <| Wn <| aF <| ⟨⟨i + 1, _, ds ++ [kM o], es ++ [o]⟩, ⟨J, J, J, J, trivial⟩, jP, ⟨om, lN hds om ho, by simp; omega, om, by rw [hek, List.map_append]; rfl⟩, by show ns.length - (i + 1) < ns.length - i; omega⟩
end Go.Proofs.Ytcblgjaomljikaa
set_option maxHeartbeats 8000000
namespace Go.Proofs.Ytcblgjaomljikaa
open Go.Ab Go.RowKit
theorem mJ (ka kb : Nat) (al bl : List X) (c : X) (ln : al.length < 1099511627776) (hl : al.length ≤ bl.length) (ha : ∀ x, x ∈ al → Bd 34359738368 x.1) (hb : ∀ x, x ∈ bl → Bd 34359738368 x.1) (hc : Bd 34359738368 c.1) : ∃ r, Run Try.prog T E0 (.call 169 [.sl ka (al.map xc), lvX c, .sl kb (bl.map xc)] r) ∧ ∃ ds : List X, r = .sl 1 (ds.map xc) ∧ ds.map (·.1) = rad (al.map (·.1)) (rsc c.1 (bl.map (·.1))) := by
 refine gJ Try.func169 J J (dM J) <| Rg 2 J <| bB (eG J J) J <| Ua J J <| Wn <| Rg 4 J <| Um J J <| aA (bD J J) J <| bB (oMk (a := al.length) (b := al.length) J J J J om om (by decide) om (by show 64 * al.length ≤ _; omega) om) J <| Ua J J <| Wn <| aB <| Rg 3 J <| Um J J <| aA (bD J J) J <| Um J J <| Wn <| aI <| aX (α := Nat × (List X)) (fun ⟨i, us⟩ => [(0, .sl ka (al.map xc)), (2, .sl kb (bl.map xc)), (4, .ptr (0 + 0) 0), (7, .ref (0 + 2 + 2) 4 0 us.length), (13, .v (.int .i64 (al.length : Int))), (14, .v (.int .i64 (i : Int)))]) (fun ⟨i, us⟩ => [(0 + 2 + 2, { cells := (us.map xc).flatten, sz := 4, elem := 114, st := 0 }), (0, { cells := xc c, sz := 4, elem := 114, st := 0 })]) (fun ⟨i, us⟩ n => i ≤ al.length ∧ us.length = al.length ∧ (∀ j, j < i → (us.getD j default).1 = (al.getD j default).1 + c.1 * (bl.getD j default).1)) (fun ⟨i, us⟩ => al.length - i) (0, List.replicate al.length x0) ⟨rfl, rfl, rfl, congrArg some (by rw [List.length_replicate]; rfl), rfl, rfl, trivial⟩ ⟨g0.trans (by rw [List.map_replicate]; rfl), g1 (by decide) g0, trivial⟩ ⟨Nat.zero_le _, by simp, by intro j hj; omega⟩ ?_
 rintro ⟨i, us⟩ n hF
 change WC _ _ _ _ _ (_ :: _) (_ :: _) n _
 obtain ⟨hi, hul, hus⟩ := hF
 refine Rg 1 J <| aA (bU J J) J <| bE (fun h15 => ?_) (fun h15 => ?_)
 rotate_left
 ·refine Wn <| aT J <| aU <| aN <| aO J <| Rg 2 J <| Um J J <| Ua J J <| Wn <| aP <| ⟨.sl 1 (us.map xc), ⟨us, rfl, ?_⟩, qP (n := 0) _ (.inr J) J (by simp) g0 (by show (0 : Nat) ≠ 2; decide) J (by decide) J (bL (n := 4) (fun _ => rfl)) (aW jI)⟩
  refine list_eq (by rw [lU]; simp; omega) fun j hj => ?_
  simp only [List.length_map] at hj
  rw [gE rfl, nR (by simp; omega), nT, gE rfl, gE rfl]
  exact hus j om
 refine Wn <| aR J <| aE <| aI <| Rg 2 J <| Um J J <| Ua J J <| dA ?_
 have hma := bA (us := al) (i := i) om
 have hmb := bA (us := bl) (i := i) om
 refine Rg 8 J <| Um J J <| Um J J <| Um J J <| Um J J <| aA (bS J J J J J om J) J <| aA (dL (l := .agg [_, _, _, _]) J J J) J <| aA (cA J J J J J om J) J <| aZ (eC (f := xc) (us := us) (al.getD i default) J J J g0 (fun _ => rfl) J J om J) <| Nk [0,2,4,7,8,13,14] J <| Rg 6 J <| Um J J <| Um J J <| aA (bS J J J J J om J) J <| aA (dL (l := .agg [_, _, _, _]) J J J) J <| aA (aK J (gF (bl.getD i default)) (by first | (simp [-bY]; done) | simp)) J <| aA (dV J J) J <| bE (fun h29 => ?_) (fun h29 => ?_)
 rotate_left
 ·refine Wn <| cH J <| cM <| aG <| aJ (z := 2) J <| aA (cI (((i + 1 : Nat) : Int)) (aV J J om) om) J <| Um J J <| Wn <| aF <| ⟨⟨i + 1, us.set i (al.getD i default)⟩, ⟨rfl, rfl, rfl, congrArg some (by rw [List.length_set]), rfl, rfl, trivial⟩, ⟨g0, g1 (by decide) (g1 (by decide) g0), trivial⟩, ⟨om, by rw [List.length_set]; exact hul, ?_⟩, by show al.length - (i + 1) < al.length - i; omega⟩
  intro j hj
  rw [bT om]
  by_cases e : i = j
  ·subst e; rw [if_pos rfl, eZ.1 (show (bl.getD i default).1.num.sign = 0 by omega), Rat.mul_zero, Rat.add_zero]
  ·rw [if_neg e]; exact hus j om
 refine Wn <| cL J <| dW (z := 15) J kR <| Dm J J <| Dm J J <| Dm J J <| Dm J J <| aH (bS J J J J J om J) J <| aH (dL (l := .agg [_, _, _, _]) J J J) J <| aH (aL (l := .agg [_, _, _, _]) J J (g1 (by decide) (g1 (by decide) g0)) J J) J <| Dm J J <| Dm J J <| aH (bS J J J J J om J) J <| aH (dL (l := .agg [_, _, _, _]) J J J) J <| aH (aK J (iR c (bl.getD i default) (hc.mono om) ((hb _ hmb).mono om)) (by first | (simp [-bY]; done) | simp)) J <| aH (aK J (iQ (al.getD i default) (xmul c (bl.getD i default)) ((ha _ hma).mono om) ((hc.mul (hb _ hmb)).mono om)) (by first | (simp [-bY]; done) | simp)) J <| aH (cA J J J J J om J) J <| cR (eC (f := xc) (us := us.set i (al.getD i default)) (xadd (al.getD i default) (xmul c (bl.getD i default))) J J J g0 (fun _ => rfl) J J (by rw [List.length_set]; omega) J) <| bJ (aY kR) J <| aG <| Ck [0,2,4,7,13,14] J <| aJ (z := 2) J <| aA (cI (((i + 1 : Nat) : Int)) (aV J J om) om) J <| Um J J ?_
 refine Wn <| aF <| ⟨⟨i + 1, ((us.set i (al.getD i default)).set i (xadd (al.getD i default) (xmul c (bl.getD i default))))⟩, ⟨rfl, rfl, rfl, congrArg some (by rw [List.length_set, List.length_set]), rfl, rfl, trivial⟩, ⟨g0, g1 (by decide) (g1 (by decide) (g1 (by decide) g0)), trivial⟩, ⟨om, by rw [List.length_set, List.length_set]; exact hul, ?_⟩, by show al.length - (i + 1) < al.length - i; omega⟩
 intro j hj
 rw [set_set', bT om]
 by_cases e : i = j
 ·subst e; rw [if_pos rfl]; rfl
 ·rw [if_neg e]; exact hus j om
theorem pL (ka : Nat) (al : List X) (c : X) (ln : al.length < 1099511627776) (ha : ∀ x, x ∈ al → Bd 34359738368 x.1) (hc : Bd 34359738368 c.1) : ∃ r, Run Try.prog T E0 (.call 168 [.sl ka (al.map xc), lvX c] r) ∧ ∃ ds : List X, r = .sl 1 (ds.map xc) ∧ ds.map (·.1) = rsc c.1 (al.map (·.1)) := by
 obtain ⟨r, hr, ds, rfl, hds⟩ := mJ 1 ka (List.replicate al.length x0) al c (by simp; omega) (by simp) (by intro x hx; rw [(List.mem_replicate.1 hx).2]; exact Bd0 (by decide)) ha hc
 have hv : ds.map (·.1) = rsc c.1 (al.map (·.1)) := by
  rw [hds]
  refine list_eq (by rw [lU, rsc_len]; simp) fun j hj => ?_
  rw [lU] at hj
  rw [nR hj]
  have : ((List.replicate al.length x0).map (·.1)).getD j default = 0 := by
   rw [gE rfl]
   simp only [List.getD_eq_getElem?_getD, List.getElem?_replicate]
   split <;> rfl
  rw [this, Rat.zero_add]
 refine gJ Try.func168 J J (dM J) <| Rg 2 J <| bB (eG J J) J <| Ua J J <| Wn <| bN (z := 7) J kR <| Dm J J <| aH (bD J J) J <| mF (oMk (a := al.length) (b := al.length) J J J J om om (by decide) om (by show 64 * al.length ≤ _; omega) om) J <| aH (aL (l := .agg [_, _, _, _]) J J (g1 (by decide) g0) J J) J <| Dm J J <| mF (kZ [.sl 1 ((List.replicate al.length x0).map xc), lvX c, .sl ka (al.map xc)] [(0 + 2 + 2, { cells := ((List.replicate al.length x0).map xc).flatten, sz := 4, elem := 114, st := 1 })] J hr (.own (ob := { cells := ((List.replicate al.length x0).map xc).flatten, sz := 4, elem := 114, st := 0 }) _ (by simp) (g0.trans (by rw [List.map_replicate]; rfl)) (by show (0 : Nat) ≠ 2; decide) J (by decide) (by simp [keys]) J (bL (n := 4) (fun _ => rfl)) (aW jI) (.data (by simp) (.data (by simp [-bY]) .nil))) (by intro p hp; rw [List.mem_singleton] at hp; subst hp; exact ⟨{ cells := ((List.replicate al.length x0).map xc).flatten, sz := 4, elem := 114, st := 0 }, g0.trans (by rw [List.map_replicate]; rfl), by show (0 : Nat) ≠ 2; decide, rfl⟩)) J <| aH (fR J) J <| bJ (aY kR) J <| aP ?_
 exact ⟨_, ⟨ds, rfl, hv⟩, post (n := 0) (.inr J) J J (by first | (simp [-bY]; done) | simp)⟩
theorem clone_own (rows : List X1) (hne : 0 < rows.length) (ln : rows.length < 1099511627776) : ∃ sz len ob, Run Try.prog T E0 (.callO 167 [.sl 1 (rows.map fX)] (.ref 0 sz 0 len) ob) ∧ sz = 1 ∧ len = rows.length ∧ ob = { cells := (rows.map fX).flatten, sz := 1, elem := 108, st := 0 } := by
 refine mkcallO Try.func167 J J (dM J) <| Rg 1 J <| Ua J J <| Wn <| aB <| Rg 2 J <| Um J J <| aA (bG (b := .v (.bool false)) (mE J J) J) J <| Wn <| aT J <| aE <| Rg 4 J <| aA (dJ (cs := []) (rows := []) J J (by decide) J J J) J <| Um J J <| bB (oApS (xs := []) (rows := rows.map fX) J J J J J (by decide) (by simp) (bL (f := fX) (n := 1) (fun _ => rfl)) (by simpa using hne) (by rw [List.length_map]; show (2 * (0 + rows.length) + 256) * 24 ≤ _; omega) (by rw [List.length_map]; show 0 + rows.length < _; omega)) J <| Ua J J <| Wn <| aP <| ⟨1, rows.length, { cells := (rows.map fX).flatten, sz := 1, elem := 108, st := 0 }, ⟨rfl, rfl, rfl⟩, .inr J, _, congrArg some (congrArg (fun z => [LV.ref _ 1 0 z]) (show ([] : List (List LV)).length + (rows.map fX).length = rows.length by simp)), g0, rfl, rfl, ?_⟩
 intro c hc; obtain ⟨row, hr, hc⟩ := List.mem_flatten.1 hc; exact aW dfX row hr c hc
end Go.Proofs.Ytcblgjaomljikaa
namespace Go.Proofs.Ytcblgjaomljikaa
open Go.Ab Go.RowKit
theorem lS (k1 k2 : Nat) (ns : List NM) (ln : ns.length < 1099511627776) : Run Try.prog T E0 (.call 39 [.sl k1 (ns.map mc), .sl k2 (ns.map mc)] (.v (.bool true))) := by
 refine bK Try.func39 J J (dM J) <| Rg 1 J <| Ua J J <| Wn <| aB <| Rg 5 J <| Um J J <| aA (bD J J) J <| Um J J <| aA (bD J J) J <| aA (dV J J) J <| bE (fun h10 => ?_) (fun h10 => ?_)
 ·exact absurd J h10
 refine Wn <| aT J <| aE <| aB <| Rg 3 J <| Um J J <| aA (bD J J) J <| Um J J <| Wn <| aI <| aX (α := Nat) (fun i => [(0, .sl k1 (ns.map mc)), (1, .sl k2 (ns.map mc)), (12, .v (.int .i64 (ns.length : Int))), (13, .v (.int .i64 (i : Int)))]) (fun i => []) (fun i n => i ≤ ns.length) (fun i => ns.length - i) (0) ⟨J, J, J, J, trivial⟩ trivial (Nat.zero_le _) ?_
 rintro i n hF
 change WC _ _ _ _ _ (_ :: _) ([]) n _
 refine Rg 1 J <| aA (bU J J) J <| bE (fun h14 => ?_) (fun h14 => ?_)
 rotate_left
 ·refine Wn <| aT J <| aU <| aN <| aO J <| Rg 1 J <| Ua J J <| Wn <| aP ?_
  exact post (n := 0) (.inr J) J J (by simp)
 refine Wn <| aR J <| aE <| aI <| Rg 2 J <| Um J J <| Ua J J <| Wn <| bN (z := 9) J kR <| Dm J J <| Dm J J <| aH (bS J J J J J om J) J <| aH (dL (l := .agg [_, _]) J J J) J <| Dm J J <| Dm J J <| aH (bS J J J J J om J) J <| aH (dL (l := .agg [_, _]) J J J) J <| aH (bG (b := .v (.bool false)) (oNeS J J J J J) (by simp)) J <| bJ (aY kR) J <| Ck [0,1,12,13,24] J <| cH J <| cM <| aG <| aJ (z := 2) J ?_
 refine aA (cI (((i + 1 : Nat) : Int)) (aV J J om) om) J <| Um J J <| Wn <| aF <| ⟨i + 1, ⟨J, J, J, J, trivial⟩, trivial, by show i + 1 ≤ _; omega, by show ns.length - (i + 1) < ns.length - i; omega⟩
end Go.Proofs.Ytcblgjaomljikaa
namespace Go.Proofs.Ytcblgjaomljikaa
open Go.Ab Go.RowKit
theorem clone1_own (k : Nat) (row : List X) (hk : k ≠ 0) (hne : 0 < row.length) (ln : row.length < 1099511627776) : ∃ sz len ob, Run Try.prog T E0 (.callO 99 [.sl k (row.map xc)] (.ref 0 sz 0 len) ob) ∧ sz = 4 ∧ len = row.length ∧ ob = { cells := (row.map xc).flatten, sz := 4, elem := 114, st := 0 } := by
 refine mkcallO Try.func99 J J (dM J) <| Rg 1 J <| Ua J J <| Wn <| aB <| Rg 2 J <| Um J J <| aA (bG (b := .v (.bool false)) (mE J J) (by rw [beq_eq_false_iff_ne.2 hk])) J <| Wn <| aT J <| aE <| Rg 4 J <| aA (dJ (cs := []) (rows := []) J J (by decide) J J J) J <| Um J J <| bB (oApS (xs := []) (rows := row.map xc) J J J J J (by decide) (by simp) (bL (f := xc) (n := 4) (fun _ => rfl)) (by simpa using hne) (by rw [List.length_map]; show (2 * (0 + row.length) + 256) * 64 ≤ _; omega) (by rw [List.length_map]; show 0 + row.length < _; omega)) J <| Ua J J <| Wn <| aP <| ⟨4, row.length, { cells := (row.map xc).flatten, sz := 4, elem := 114, st := 0 }, ⟨rfl, rfl, rfl⟩, .inr J, _, congrArg some (congrArg (fun z => [LV.ref _ 4 0 z]) (show ([] : List (List LV)).length + (row.map xc).length = row.length by simp)), g0, rfl, rfl, ?_⟩
 intro c hc; obtain ⟨row, hr, hc⟩ := List.mem_flatten.1 hc; exact aW jI row hr c hc
theorem rows1 {α : Type} {f : α → List Rat} {rows : List α} {r : List Rat} (h : rows.map f = [r]) : ∃ a, rows = [a] ∧ f a = r := by
 match rows, h with
 | [a], h => exact ⟨a, rfl, by simpa using h⟩
end Go.Proofs.Ytcblgjaomljikaa
namespace Go.Proofs.Ytcblgjaomljikaa
open Go.Ab Go.RowKit
theorem clone1_nil  : Run Try.prog T E0 (.call 99 [.sl 0 []] (.sl 0 [])) := by
 refine bK Try.func99 J J (dM J) <| Rg 1 J <| Ua J J <| Wn <| aB <| Rg 2 J <| Um J J <| aA (mE J J) J <| Wn <| aR J <| aB <| Rg 1 J <| Ua J J <| Wn <| bC ?_
 exact post (n := 0) (.inr J) J J (by simp)
end Go.Proofs.Ytcblgjaomljikaa
namespace Go.Proofs.Ytcblgjaomljikaa
open Go.Ab Go.RowKit
theorem rV (x y : X) (hx : Bd 34359738368 x.1) (hy : Bd 34359738368 y.1) : Run Try.prog T E0 (.call 121 [lvX x, lvX y] (lvX (xadd x (xneg y)))) := by
 refine bK Try.func121 J J (dM J) <| Rg 3 J <| bB (eG J J) J <| bB (eG J J) J <| bB (dS J) J <| Wn <| bN (z := 5) J kR <| aH (aL (l := lvX x) J J (by repeat (first | exact g0 | refine g1 (by decide) ?_)) J J) J ?_
 refine aH (aL (l := lvX y) J J (by repeat (first | exact g0 | refine g1 (by decide) ?_)) J J) J ?_
 refine aH (aK J (iS y) dD) J <| aH (aK J (iQ x (xneg y) (hx.mono (by decide)) (hy.neg.mono (by decide))) dD) J <| cR (cO (cs' := xc (xadd x (xneg y))) J J J (by repeat (first | exact g0 | refine g1 (by decide) ?_)) J J J J) ?_
 refine bJ (aY kR) J <| aP <| post (n := 0) (.inr J) J ?_ dD
 rfl
theorem jM (x y : X) (hx : Bd 34359738368 x.1) (hy : Bd 34359738368 y.1) : Run Try.prog T E0 (.call 119 [lvX x, lvX y] (.v (.int .i64 (x.1 - y.1).num.sign))) := by
 refine bK Try.func119 J J (dM J) <| Rg 3 J <| bB (eG J J) J <| bB (eG J J) J <| Ua J J <| Wn <| Rg 5 J <| aA (aL (l := lvX x) J J (by repeat (first | exact g0 | refine g1 (by decide) ?_)) J J) J ?_
 refine aA (aL (l := lvX y) J J (by repeat (first | exact g0 | refine g1 (by decide) ?_)) J J) J ?_
 refine aA (aK J (rV x y hx hy) dD) J <| aA (bG (b := .v (.int .i64 (x.1 - y.1).num.sign)) (aK J (gF (xadd x (xneg y))) dD) (by rw [show (xadd x (xneg y)).1 = x.1 - y.1 from (Rat.sub_eq_add_neg _ _).symm])) J <| Ua J J <| Wn <| aP <| post (n := 0) (.inr J) J ?_ dD
 rfl
theorem mchoice_run (m : Nat) (c : CH) (hI : IC c) (hm : m < 1000000) : Run Try.prog T E0 (.call 157 [.v (.int .i64 (m : Int)), lvC c] (.v (.bool (VC m c)))) := by
 refine bK Try.func157 J J (dM J) <| Rg 2 J <| bB (eG J J) J <| Ua J J <| Wn <| aB <| Rg 16 J <| aA (bH J J J J J) J <| aA (aL (l := lvM c.1) J J (by repeat (first | exact g0 | refine g1 (by decide) ?_)) J J) J ?_
 refine aA (aK J (iP c.1 hI.1 hI.2.1) dD) J <| fT (fun h11 => ?_) (fun h11 => ?_)
 rotate_left
 ·refine aA (fG J) J <| Um J J <| K1 J J <| K1 J J <| K1 J J <| K1 J J <| aA (bW J J) J <| Um J J <| K1 J J <| K1 J J <| K1 J J <| K1 J J <| aA (bW J J) J <| Nk [0,3,24] J <| aR J <| aB <| Rg 1 J <| Ua J J <| Wn <| bC <| post (n := 0) (.inr J) J ?_ dD
  exact congrArg (fun z => LV.v (.bool z)) (show false = VC m c from (VC_no1 h11).symm)
 refine aA (fG J) J <| Um J J <| aM J (bH J J J J J) J <| aM J (aL J J (by repeat (first | exact g0 | refine g1 (by decide) ?_)) J J) J ?_
 refine aM J (bD J J) J <| aM J (bU J J) J <| bE (fun h17 => ?_) (fun h17 => ?_)
 ·refine aA (cG J J) J <| Um J J <| K1 J J <| K1 J J <| K1 J J <| K1 J J <| aA (bW J J) J <| Nk [0,3,24] J <| aR J <| aB <| Rg 1 J <| Ua J J <| Wn <| bC <| post (n := 0) (.inr J) J ?_ dD
  exact congrArg (fun z => LV.v (.bool z)) (show false = VC m c from (VC_no2 om).symm)
 refine aA (cG J J) J <| Um J J <| aM J (bH J J J J J) J <| aM J (aL J J (by repeat (first | exact g0 | refine g1 (by decide) ?_)) J J) J ?_
 refine aM J (bD J J) J <| aM J (gW J J) J <| bE (fun h23 => ?_) (fun h23 => ?_)
 ·refine aA (cG J J) J <| Nk [0,3,24] J <| aR J <| aB <| Rg 1 J <| Ua J J <| Wn <| bC <| post (n := 0) (.inr J) J ?_ dD
  exact congrArg (fun z => LV.v (.bool z)) (show false = VC m c from (VC_no2 om).symm)
 refine aA (cG J J) J <| Nk [0,3,24] J <| aT J <| aE <| Rg 1 J <| bB (dS J) J <| Wn <| Rg 1 J <| Ua J J <| Wn <| aB <| Rg 4 J <| aA (bH J J J J J) J <| aA (aL J J (by repeat (first | exact g0 | refine g1 (by decide) ?_)) J J) J ?_
 refine aA (bD J J) J <| Um J J <| Wn <| aI <| aX (α := Nat × X) (fun ⟨i, s⟩ => [(0, .v (.int .i64 (m : Int))), (5, .ptr 18 0), (6, .v (.int .i64 (lastB c.2.2 i))), (26, .sl c.2.1 (c.2.2.map brc)), (27, .v (.int .i64 (c.2.2.length : Int))), (28, .v (.int .i64 (i : Int)))]) (fun ⟨i, s⟩ => [(18, { cells := xc (s), sz := 4, elem := 114, st := 0 })]) (fun ⟨i, s⟩ n => i ≤ c.2.2.length ∧ s.1 = psum c.2.2 i ∧ (∀ j, j < i → okB m c.2.2 j = true) ∧ 18 < n) (fun ⟨i, s⟩ => c.2.2.length - i) (0, x0) ⟨J, J, J, J, J, J, trivial⟩ ⟨(by repeat (first | exact g0 | refine g1 (by decide) ?_)), trivial⟩ ⟨Nat.zero_le _, rfl, fun j hj => absurd hj om, om⟩ ?_
 rintro ⟨i, s⟩ n hF
 change WC _ _ _ _ _ (_ :: _) (_ :: _) n _
 obtain ⟨hi, hs, hok, hn⟩ := hF
 refine Rg 1 J <| aA (bU J J) J <| bE (fun h29 => ?_) (fun h29 => ?_)
 rotate_left
 ·refine Wn <| aT J <| aU <| aN <| aO J ?_
  have hok' : ∀ j, j < c.2.2.length → okB m c.2.2 j = true := fun j hj => hok j om
  have hsb := psum_bd (bs := c.2.2) i om (fun j hj => (okB_vn (hok j hj)).1)
  have hil : i = c.2.2.length := by omega
  refine bN (z := 5) J kR <| aH (aL (l := lvX s) J J gG J J) J ?_
  refine aH (aK J (gI 1 (by unfold I64; omega)) dD) J <| aH (aK J (jM s (xint 1) (by rw [hs]; exact hsb.mono om) (Bd1.mono (by decide))) dD) J <| aH (bG (b := .v (.bool (decide (psum c.2.2 c.2.2.length = 1)))) (gB J J) (congrArg (fun z => LV.v (.bool z)) (decide_eq_decide.2 (by rw [show (s.1 - (xint 1).1) = psum c.2.2 c.2.2.length - 1 by rw [hs, hil]; rfl]; exact sign_one)))) J <| aH (fR J) J <| bJ (aY kR) J <| aP <| post (n := 0) (.inr J) J ?_ dD
  exact congrArg (fun z => LV.v (.bool z)) (show decide (psum c.2.2 c.2.2.length = 1) = VC m c from (VC_yes h11 om om hok').symm)
 refine Wn <| aR J <| aE <| aI ?_
 have hIb := hI.2.2 _ (bA (us := c.2.2) (i := i) om)
 refine Rg 4 J <| aA (bS J J J J J om J) J <| aA (dL (l := .agg [_, _, _]) J J J) J <| bB (dS J) J <| aZ (cO (cs' := [_, _, _]) J J J gG J J J J) ?_
 refine Wn <| aB <| Rg 22 J <| aA (bH J J J J J) J <| aA (aL J J gG J J) J ?_
 refine Um J J <| aA (oLeq J J) J <| bE (fun h35 => ?_) (fun h35 => ?_)
 ·refine Um J J <| K1 J J <| K1 J J <| K1 J J <| K1 J J <| aA (bW J J) J <| Um J J <| K1 J J <| K1 J J <| K1 J J <| K1 J J <| aA (bW J J) J <| Um J J <| K1 J J <| K1 J J <| K1 J J <| K1 J J <| aA (bW J J) J <| Nk [0,5,8,26,27,28,37,38,39,40,43,44,45,46,49,50,51,52,53] J <| aR J <| aB <| Rg 1 J <| Ua J J ?_
  refine Nk [4] J <| bC <| aS <| bO <| aS <| post (n := 0) (.inr J) J ?_ dD
  exact congrArg (fun z => LV.v (.bool z)) (show false = VC m c from (VC_no3 (i := i) om (okB_no (.inl om))).symm)
 refine Um J J <| aM J (bH J J J J J) J <| aM J (aL J J gG J J) J ?_
 refine aM J (dU J) J <| aM J (mK J J) J <| bE (fun h40 => ?_) (fun h40 => ?_)
 ·refine aA (cG J J) J <| Um J J <| K1 J J <| K1 J J <| K1 J J <| K1 J J <| aA (bW J J) J <| Um J J <| K1 J J <| K1 J J <| K1 J J <| K1 J J <| aA (bW J J) J <| Nk [0,5,8,26,27,28,37,38,39,40,43,44,45,46,49,50,51,52,53] J <| aR J <| aB <| Rg 1 J <| Ua J J <| Nk [4] J <| bC <| aS <| bO ?_
  refine aS <| post (n := 0) (.inr J) J ?_ dD
  exact congrArg (fun z => LV.v (.bool z)) (show false = VC m c from (VC_no3 (i := i) om (okB_no (.inr (.inl om)))).symm)
 refine aA (cG J J) J <| Um J J <| aM J (bH J J J J J) J <| aM J (aL (l := lvM (c.2.2.getD i default).2) J J gG J J) J ?_
 refine aM J (aK J (iP (c.2.2.getD i default).2 hIb.2.1 hIb.2.2) dD) J <| fT (fun h45 => ?_) (fun h45 => ?_)
 rotate_left
 ·refine aM J (fG J) J <| aA (cG J J) J <| Um J J <| K1 J J <| K1 J J <| K1 J J <| K1 J J <| aA (bW J J) J <| Nk [0,5,8,26,27,28,37,38,39,40,43,44,45,46,49,50,51,52,53] J <| aR J <| aB <| Rg 1 J <| Ua J J <| Nk [4] J <| bC <| aS <| bO <| aS <| post (n := 0) (.inr J) J ?_ dD
  exact congrArg (fun z => LV.v (.bool z)) (show false = VC m c from (VC_no3 (i := i) om (okB_no (.inr (.inr (.inl h45))))).symm)
 refine aM J (fG J) J <| aA (cG J J) J <| Um J J <| aM J (bH J J J J J) J <| aM J (bH J J J J J) J <| aM J (aL J J gG J J) J ?_
 refine aM J (oLeq J J) J <| bE (fun h52 => ?_) (fun h52 => ?_)
 ·refine aA (cG J J) J <| Nk [0,5,8,26,27,28,37,38,39,40,43,44,45,46,49,50,51,52,53] J <| aR J <| aB <| Rg 1 J <| Ua J J <| Nk [4] J <| bC <| aS <| bO <| aS <| post (n := 0) (.inr J) J ?_ dD
  exact congrArg (fun z => LV.v (.bool z)) (show false = VC m c from (VC_no3 (i := i) om (okB_no (.inr (.inr (.inr om))))).symm)
 refine aA (cG J J) J <| Nk [0,5,8,26,27,28,37,38,39,40,43,44,45,46,49,50,51,52,53] J <| aT J <| aE ?_
 have hvb : VN (c.2.2.getD i default).2 := of_decide_eq_true h45
 have hokI : okB m c.2.2 i = true := okB_yes om om h45 om
 have hsb := psum_bd (bs := c.2.2) i om (fun j hj => (okB_vn (hok j hj)).1)
 refine Rg 3 J <| aA (bH J J J J J) J <| aA (aL J J gG J J) J ?_
 refine Ua J J <| Nk [0,5,6,8,26,27,28,37,38,39,40,43,44,45,46,49,50,51,52] J <| dW (z := 6) J kR <| aH (aL (l := lvX s) J J gG J J) J ?_
 refine aH (bH J J J J J) J <| aH (aL (l := lvM (c.2.2.getD i default).2) J J gG J J) J ?_
 refine aH (bG (b := lvX (nx (c.2.2.getD i default).2)) (aK J (dC (c.2.2.getD i default).2 hIb.2.1 hIb.2.2 (by have := hvb.1; omega)) dD) J) J <| aH (aK J (iQ s (nx (c.2.2.getD i default).2) (by rw [hs]; exact hsb.mono om) (hvb.bd.mono (by decide))) dD) J <| cR (cO (cs' := xc (xadd s (nx (c.2.2.getD i default).2))) J J J gG J J J J) ?_
 refine bJ (aY kR) J <| aG <| Ck [0,5,6,26,27,28,37,38,39,40,43,44,45,46,49,50,51,52] J <| aJ (z := 2) J <| aA (cI (((i + 1 : Nat) : Int)) (aV J J om) om) J <| Um J J <| Wn <| aF <| ⟨⟨i + 1, xadd s (nx (c.2.2.getD i default).2)⟩, ⟨J, J, J, J, J, J, trivial⟩, ⟨gG, trivial⟩, ⟨om, by rw [psum, ← hs]; rfl, fun j hj => ?_, om⟩, by show c.2.2.length - (i + 1) < c.2.2.length - i; omega⟩
 by_cases e : j = i
 ·rw [e]; exact hokI
 ·exact hok j om
end Go.Proofs.Ytcblgjaomljikaa
namespace Go.Proofs.Ytcblgjaomljikaa
open Go.Ab Go.RowKit
theorem mvmodel_run (k : Nat) (ss : List ST) (hI : ∀ s, s ∈ ss → IS s) : Run Try.prog T E0 (.call 76 [lvMo k ss] (.v (.bool (VMo ss)))) := by
 refine bK Try.func76 J J (dM J) <| Rg 2 J <| bB (eG J J) J <| Ua J J <| Wn <| Rg 4 J <| aA (bH J J J J J) J <| aA (aL J J (by repeat (first | exact g0 | refine g1 (by decide) ?_)) J J) J ?_
 refine aA (bD J J) J <| Ua J J <| Wn <| aB <| Rg 6 J <| Um J J <| aA (bU J J) J <| bE (fun h12 => ?_) (fun h12 => ?_)
 ·refine Um J J <| K1 J J <| K1 J J <| aA (bW J J) J <| Wn <| aR J <| aB <| Rg 1 J <| Ua J J <| Wn <| bC <| post (n := 0) (.inr J) J ?_ dD
  exact congrArg (fun z => LV.v (.bool z)) (show false = VMo ss from (VMo_no om).symm)
 refine Um J J <| aM J (dU J) J <| aM J (gW J J) J <| bE (fun h15 => ?_) (fun h15 => ?_)
 ·refine aA (cG J J) J <| Wn <| aR J <| aB <| Rg 1 J <| Ua J J <| Wn <| bC <| post (n := 0) (.inr J) J ?_ dD
  exact congrArg (fun z => LV.v (.bool z)) (show false = VMo ss from (VMo_no om).symm)
 refine aA (cG J J) J <| Wn <| aT J <| aE <| aB <| Rg 4 J <| aA (bH J J J J J) J <| aA (aL J J (by repeat (first | exact g0 | refine g1 (by decide) ?_)) J J) J ?_
 refine aA (bD J J) J <| Um J J <| Nk [3,18,19,20] J <| aI <| aX (α := Nat) (fun i => [(3, .v (.int .i64 (ss.length : Int))), (18, .sl k (ss.map stc)), (19, .v (.int .i64 (ss.length : Int))), (20, .v (.int .i64 (i : Int)))]) (fun i => []) (fun i n => i ≤ ss.length ∧ (ss.take i).all (VS ss.length) = true ∧ 0 < n) (fun i => ss.length - i) (0) ⟨J, J, J, J, trivial⟩ trivial ⟨Nat.zero_le _, by simp, om⟩ ?_
 rintro i n hF
 change WC _ _ _ _ _ (_ :: _) ([]) n _
 obtain ⟨hi, ha, hn0⟩ := hF
 refine Rg 1 J <| aA (bU J J) J <| bE (fun h21 => ?_) (fun h21 => ?_)
 rotate_left
 ·refine Wn <| aT J <| aU <| aN <| aO J <| Rg 1 J <| Ua J J <| Wn <| aP <| post (n := 0) (.inr J) J ?_ dD
  exact congrArg (fun z => LV.v (.bool z)) (show true = VMo ss from (VMo_yes om om (lF ha om)).symm)
 refine Wn <| aR J <| aE <| aI ?_
 have hIs := hI _ (bA (us := ss) (i := i) om)
 refine Rg 4 J <| aA (bS J J J J J om J) J <| aA (dL (l := .agg [_, _, _]) J J J) J <| bB (dS J) J <| aZ (cO (cs' := [_, _, _]) J J J gG J J J J) ?_
 refine Wn <| aB <| Rg 30 J <| aA (bH J J J J J) J <| aA (aL J J gG J J) J ?_
 refine aA (bU J J) J <| bE (fun h26 => ?_) (fun h26 => ?_)
 ·refine Um J J <| K1 J J <| K1 J J <| K1 J J <| aA (bW J J) J <| Um J J <| K1 J J <| K1 J J <| K1 J J <| aA (bW J J) J <| Um J J <| K1 J J <| K1 J J <| K1 J J <| aA (bW J J) J <| Um J J <| K1 J J <| K1 J J <| K1 J J <| K1 J J <| aA (bW J J) J <| Um J J <| K1 J J <| K1 J J ?_
  refine K1 J J <| K1 J J <| aA (bW J J) J <| Nk [3,5,18,19,20,28,29,30,33,34,35,38,39,40,43,44,45,46,49,50,51,52,53] J <| aR J <| aB <| Rg 1 J <| Ua J J <| Nk [2] J <| bC <| aS <| bO <| aS <| post (n := 0) (.inr J) J ?_ dD
  exact congrArg (fun z => LV.v (.bool z)) (show false = VMo ss from (jS (i := i) om (VS_no (.inl om))).symm)
 refine Um J J <| aM J (bH J J J J J) J <| aM J (aL J J gG J J) J ?_
 refine aM J (gW J J) J <| bE (fun h30 => ?_) (fun h30 => ?_)
 ·refine aA (cG J J) J <| Um J J <| K1 J J <| K1 J J <| K1 J J <| aA (bW J J) J <| Um J J <| K1 J J <| K1 J J <| K1 J J <| aA (bW J J) J <| Um J J <| K1 J J <| K1 J J <| K1 J J <| K1 J J <| aA (bW J J) J <| Um J J <| K1 J J <| K1 J J <| K1 J J <| K1 J J <| aA (bW J J) J <| dA ?_
  refine Ck [3,5,18,19,20,28,29,30,33,34,35,38,39,40,43,44,45,46,49,50,51,52,53] J <| aR J <| aB <| Rg 1 J <| Ua J J <| Nk [2] J <| bC <| aS <| bO <| aS <| post (n := 0) (.inr J) J ?_ dD
  exact congrArg (fun z => LV.v (.bool z)) (show false = VMo ss from (jS (i := i) om (VS_no (.inr (.inl om)))).symm)
 refine aA (cG J J) J <| Um J J <| aM J (bH J J J J J) J <| aM J (aL J J gG J J) J ?_
 refine aM J (bU J J) J <| bE (fun h35 => ?_) (fun h35 => ?_)
 ·refine aA (cG J J) J <| Um J J <| K1 J J <| K1 J J <| K1 J J <| aA (bW J J) J <| Um J J <| K1 J J <| K1 J J <| K1 J J <| K1 J J <| aA (bW J J) J <| Um J J <| K1 J J <| K1 J J <| K1 J J <| K1 J J <| aA (bW J J) J <| Nk [3,5,18,19,20,28,29,30,33,34,35,38,39,40,43,44,45,46,49,50,51,52,53] J <| aR J <| aB <| Rg 1 J <| Ua J J ?_
  refine Nk [2] J <| bC <| aS <| bO <| aS <| post (n := 0) (.inr J) J ?_ dD
  exact congrArg (fun z => LV.v (.bool z)) (show false = VMo ss from (jS (i := i) om (VS_no (.inr (.inr (.inl om))))).symm)
 refine aA (cG J J) J <| Um J J <| aM J (bH J J J J J) J <| aM J (aL J J gG J J) J ?_
 refine aM J (gW J J) J <| bE (fun h40 => ?_) (fun h40 => ?_)
 ·refine aA (cG J J) J <| Um J J <| K1 J J <| K1 J J <| K1 J J <| K1 J J <| aA (bW J J) J <| Um J J <| K1 J J <| K1 J J <| K1 J J <| K1 J J <| aA (bW J J) J <| Nk [3,5,18,19,20,28,29,30,33,34,35,38,39,40,43,44,45,46,49,50,51,52,53] J <| aR J <| aB <| Rg 1 J <| Ua J J <| Nk [2] J <| bC <| aS <| bO ?_
  refine aS <| post (n := 0) (.inr J) J ?_ dD
  exact congrArg (fun z => LV.v (.bool z)) (show false = VMo ss from (jS (i := i) om (VS_no (.inr (.inr (.inr (.inl om)))))).symm)
 refine aA (cG J J) J <| Um J J <| aM J (bH J J J J J) J <| aM J (aL J J gG J J) J ?_
 refine aM J (bD J J) J <| aM J (bU J J) J <| bE (fun h46 => ?_) (fun h46 => ?_)
 ·refine aA (cG J J) J <| Um J J <| K1 J J <| K1 J J <| K1 J J <| K1 J J <| aA (bW J J) J <| Nk [3,5,18,19,20,28,29,30,33,34,35,38,39,40,43,44,45,46,49,50,51,52,53] J <| aR J <| aB <| Rg 1 J <| Ua J J <| Nk [2] J <| bC <| aS <| bO <| aS <| post (n := 0) (.inr J) J ?_ dD
  exact congrArg (fun z => LV.v (.bool z)) (show false = VMo ss from (jS (i := i) om (VS_no (.inr (.inr (.inr (.inr (.inl om))))))).symm)
 refine aA (cG J J) J <| Um J J <| aM J (bH J J J J J) J <| aM J (aL J J gG J J) J ?_
 refine aM J (bD J J) J <| aM J (gW J J) J <| bE (fun h52 => ?_) (fun h52 => ?_)
 ·refine aA (cG J J) J <| Nk [3,5,18,19,20,28,29,30,33,34,35,38,39,40,43,44,45,46,49,50,51,52,53] J <| aR J <| aB <| Rg 1 J <| Ua J J <| Nk [2] J <| bC <| aS <| bO <| aS <| post (n := 0) (.inr J) J ?_ dD
  exact congrArg (fun z => LV.v (.bool z)) (show false = VMo ss from (jS (i := i) om (VS_no (.inr (.inr (.inr (.inr (.inr om))))))).symm)
 refine aA (cG J J) J <| Nk [3,5,18,19,20,28,29,30,33,34,35,38,39,40,43,44,45,46,49,50,51,52,53] J <| aT J <| aE <| Rg 4 J <| aA (bH J J J J J) J <| aA (aL J J gG J J) J ?_
 refine aA (bD J J) J <| Um J J <| Nk [3,18,19,20,28,29,30,33,34,35,38,39,40,43,44,45,46,49,50,51,52,55,56,57] J <| cN <| aX (α := Nat) (fun j => [(3, .v (.int .i64 (ss.length : Int))), (18, .sl k (ss.map stc)), (19, .v (.int .i64 (ss.length : Int))), (20, .v (.int .i64 (i : Int))), (55, .sl (ss.getD i default).2.1 ((ss.getD i default).2.2.map chc)), (56, .v (.int .i64 ((ss.getD i default).2.2.length : Int))), (57, .v (.int .i64 (j : Int)))]) (fun j => []) (fun j n => j ≤ (ss.getD i default).2.2.length ∧ ((ss.getD i default).2.2.take j).all (VC ss.length) = true ∧ 0 < n) (fun j => (ss.getD i default).2.2.length - j) (0) ⟨J, J, J, J, J, J, J, trivial⟩ trivial ⟨Nat.zero_le _, by simp, om⟩ ?_
 rintro j n hF
 change WC _ _ _ _ _ (_ :: _) ([]) n _
 obtain ⟨hj, hb, hn2⟩ := hF
 refine Rg 1 J <| aA (bU J J) J <| bE (fun h58 => ?_) (fun h58 => ?_)
 rotate_left
 ·refine Wn <| aT J <| aU <| aN <| dO J <| aG <| aJ (z := 2) J <| aA (cI (((i + 1 : Nat) : Int)) (aV J J om) om) J <| Um J J <| Wn <| aF <| ⟨i + 1, ⟨J, J, J, J, trivial⟩, trivial, ⟨om, jQ ha om (VS_yes om om om om om om (lF hb om)), om⟩, by show ss.length - (i + 1) < ss.length - i; omega⟩
 refine Wn <| aR J <| aE <| aI ?_
 have hIc := hIs.2.2 _ (bA (us := (ss.getD i default).2.2) (i := j) om)
 refine Rg 4 J <| aA (bS J J J J J om J) J <| aA (dL (l := .agg [_, _, _]) J J J) J <| bB (dS J) J <| aZ (cO (cs' := [_, _, _]) J J J gG J J J J) ?_
 refine Wn <| Rg 4 J <| Um J J <| aA (aL (l := lvC ((ss.getD i default).2.2.getD j default)) J J gG J J) J ?_
 refine aA (aK J (mchoice_run ss.length ((ss.getD i default).2.2.getD j default) hIc om) dD) J <| fT (fun h63 => ?_) (fun h63 => ?_)
 ·refine aA (fG J) J <| Nk [3,18,19,20,55,56,57,64] J <| cH J <| cM <| aG <| aJ (z := 2) J <| aA (cI (((j + 1 : Nat) : Int)) (aV J J om) om) J <| Um J J <| Wn <| aF <| ⟨j + 1, ⟨J, J, J, J, J, J, J, trivial⟩, trivial, ⟨om, jQ hb om h63, om⟩, by show (ss.getD i default).2.2.length - (j + 1) < (ss.getD i default).2.2.length - j; omega⟩
 refine aA (fG J) J <| Nk [3,18,19,20,55,56,57,64] J <| cL J <| Rg 1 J <| Ua J J <| Wn <| aP <| aS <| bO <| dZ <| aS <| bO <| aS <| post (n := 0) (.inr J) J ?_ dD
 exact congrArg (fun z => LV.v (.bool z)) (show false = VMo ss from (jS (i := i) om (VS_no2 (j := j) om h63)).symm)
end Go.Proofs.Ytcblgjaomljikaa
set_option maxHeartbeats 16000000
namespace Go.Proofs.Ytcblgjaomljikaa
open Go.Ab Go.RowKit
theorem mreduced_wcB (rows0 : List X1) (cols w : Nat) (hne : 0 < rows0.length) (ln : rows0.length < 1000000) (hw : Wid w (vX rows0)) (hcw : cols ≤ w) (lw : w < 1000000) (β : Nat) (hβ : β ≤ 268435456) (hgb : GB (vX rows0) cols β) : WC Try.prog T E0 Try.f97.ntmps (codeOf Try.f97) (argsEnv 0 [.sl 1 (rows0.map fX), .v (.int .i64 (cols : Int))]) [] 0 (fun x e h n => (x = .normal ∨ x = .ret) ∧ ∃ (q : Nat) (rows : List X1) (d : X), vX rows = (gjn (vX rows0) cols).1 ∧ d.1 = gjd (vX rows0) cols ∧ resE e T h Try.f97.results.toList = some [.ref 4 1 0 rows.length, outV q 1 ((gjn (vX rows0) cols).2.map d64), lvX d] ∧ getH h 4 = some { cells := (rows.map fX).flatten, sz := 1, elem := 108, st := 0 } ∧ ((gjn (vX rows0) cols).2.map d64 ≠ [] → getH h q = some { cells := ((gjn (vX rows0) cols).2.map d64).flatten, sz := 1, elem := 3, st := 0 })) := by
 obtain ⟨_, _, _, hr1, rfl, rfl, rfl⟩ := clone_own rows0 hne om
 refine Rg 3 J <| Ua J J <| Ua J J <| bB (dS J) J <| Wn <| Rg 3 J <| Um J J <| bB (oCallO J hr1 (by first | (simp [-bY]; done) | simp)) J <| Ua J J <| Wn <| Rg 3 J <| aA (aK J (gI 1 (by unfold I64; omega)) (by first | (simp [-bY]; done) | simp)) J <| bB (dS J) J <| aZ (cO (cs' := [_, _, _, _]) J J J J J J J J) <| Wn <| Rg 1 J <| Ua J J <| Wn <| aB <| Rg 2 J <| Um J J <| Um J J <| Wn <| aI ?_
 refine aX (α := Nat × Nat × (List X1) × (List Nat) × X) (fun ⟨c, q, rows, leads, d⟩ => [(6, .ptr (0 + (0 + 1 + 1)) 0), (7, .ref (0 + 3 + 1) 1 0 rows.length), (8, .ptr (0 + 3 + 3 + 1) 0), (9, outV q 1 (leads.map d64)), (18, .v (.int .i64 (cols : Int))), (19, .v (.int .i64 (c : Int)))]) (fun ⟨c, q, rows, leads, d⟩ => outH q 1 3 (leads.map d64) [((0 + 3 + 1), { cells := (rows.map fX).flatten, sz := 1, elem := 108, st := 0 }), ((0 + 3 + 3 + 1), { cells := xc d, sz := 4, elem := 114, st := 0 }), (2, { cells := [.v (.int .i64 0), .sl 0 [], .v (.int .i64 0), .sl 0 []], sz := 4, elem := 114, st := 0 })]) (fun ⟨c, q, rows, leads, d⟩ n => c ≤ cols ∧ vX rows = (gjn (vX rows0) c).1 ∧ leads = (gjn (vX rows0) c).2 ∧ 8 ≤ q ∧ q < n ∧ d.1 = gjd (vX rows0) c) (fun ⟨c, q, rows, leads, d⟩ => cols - c) (0, 8, rows0, [], xint 1) ⟨J, J, J, J, J, J, trivial⟩ ⟨J, J, J, trivial⟩ ⟨Nat.zero_le _, rfl, rfl, om, om, rfl⟩ ?_
 rintro ⟨c, q, rows, leads, d⟩ n hF
 change WC _ _ _ _ _ (_ :: _) (outH _ _ _ _ _) n _
 obtain ⟨hc, hv, hld, hq5, hqn, hdv⟩ := hF
 have GI := hgb.all hw hcw c hc
 have hrl0 : rows.length = rows0.length := by rw [← cU rows, hv, cQ, cU]
 have hll : leads.length ≤ rows.length := by have := GI.led; rw [cU] at this; rw [hld]; omega
 have hwid : ∀ i, i < rows.length → (rows.getD i default).2.length = w := by
  intro i hi
  have := GI.wid.row (i := i) (by rw [← hv, cU]; exact hi)
  rw [← hv, cZ] at this
  simpa using this
 refine Rg 1 J <| aA (bU J J) J <| bE (fun h20 => ?_) (fun h20 => ?_)
 rotate_left
 ·refine Wn <| aT J <| aU <| aN <| aO J <| bN (z := 6) J kR <| Dm J J <| Dm J J <| aH (aL (l := .agg [_, _, _, _]) J J (aD om (g1 (by decide) g0)) J J) J <| aH (fR J) J <| aH (fR J) J <| cR (cO (cs' := [_, _, _, _]) J J J (aD om (g1 (by decide) (g1 (by decide) g0))) J J J J) <| bJ (aY kR) J <| aP ?_
  have hcc : c = cols := by omega
  subst hcc
  refine ⟨.inr J, q, rows, d, hv, hdv, ?_, g1 (by decide) (aD om g0), ?_⟩
  ·rw [← hld]; rfl
  ·rw [← hld]; exact fun hu => g1 om (cY hu)
 refine Wn <| aR J <| aE <| aI <| Rg 2 J <| Um J J <| Ua J J <| Wn <| Rg 3 J <| Um J J <| aA (oLenO J J) J <| Ua J J <| Wn <| Rg 2 J <| Um J J <| Ua J J <| Wn <| aI <| aX (α := Nat) (fun a => [(6, .ptr (0 + (0 + 1 + 1)) 0), (7, .ref (0 + 3 + 1) 1 0 rows.length), (8, .ptr (0 + 3 + 3 + 1) 0), (9, outV q 1 (leads.map d64)), (10, .v (.int .i64 (c : Int))), (11, .v (.int .i64 (leads.length : Int))), (12, .v (.int .i64 (a : Int))), (18, .v (.int .i64 (cols : Int))), (19, .v (.int .i64 (c : Int)))]) (fun a => outH q 1 3 (leads.map d64) [((0 + 3 + 1), { cells := (rows.map fX).flatten, sz := 1, elem := 108, st := 0 }), ((0 + 3 + 3 + 1), { cells := xc d, sz := 4, elem := 114, st := 0 }), (2, { cells := [.v (.int .i64 0), .sl 0 [], .v (.int .i64 0), .sl 0 []], sz := 4, elem := 114, st := 0 })]) (fun a n => leads.length ≤ a ∧ a ≤ rows.length ∧ (∀ k, leads.length ≤ k → k < a → ent (vX rows) k c = 0) ∧ q < n) (fun a => rows.length - a) (leads.length) ⟨J, J, J, J, J, J, J, J, J, trivial⟩ (dF cY (aD om g0) (aD om (g1 (by decide) g0)) (aD om (g1 (by decide) (g1 (by decide) g0)))) ⟨Nat.le_refl _, hll, by intro k h1 h2; omega, om⟩ ?_
 rintro a n hG
 change WC _ _ _ _ _ (_ :: _) (outH _ _ _ _ _) n _
 obtain ⟨hle1, hle2, hz, hqn2⟩ := hG
 refine aB <| Rg 15 J <| Um J J <| Um J J <| aA (pM J J) J <| aA (bU J J) J <| bE (fun h28 => ?_) (fun h28 => ?_)
 rotate_left
 ·refine Um J J <| K1 J J <| K1 J J <| K1 J J <| K1 J J <| K1 J J <| K1 J J <| K1 J J <| K1 J J <| K1 J J <| aA (cG J J) J <| Nk [6,7,8,9,10,11,12,18,19,30,31,32,33,34,35,36,37,38,39] J <| aT J <| aU <| aN <| aO J <| Ck [6,7,8,9,10,11,12,18,19,30,31,32,33,34,35,36,37,38] J <| aB <| Rg 4 J <| Um J J <| Um J J <| aA (pM J J) J <| aA (gB J J) J ?_
  refine bE (fun h45 => ?_) (fun h45 => ?_)
  rotate_left
  ·omega
  refine Nk [6,7,8,9,10,11,12,18,19,30,31,32,33,34,35,36,37,38,45] J <| aR J <| aU <| aO J <| Ck [6,7,8,9,18,19,30,31,32,33,34,35,36,37,38] J <| aJ (z := 2) J <| aA (cI (((c + 1 : Nat) : Int)) (aV J J om) om) J <| Um J J <| Wn <| aF ?_
  have hpv : pivot (vX rows) leads.length c = a := jL hle1 (by rw [cU]; exact hle2) hz (.inl (by rw [cU]; omega))
  have hpn : pivot (gjn (vX rows0) c).1 (gjn (vX rows0) c).2.length c = (gjn (vX rows0) c).1.length := by rw [← hv, ← hld, hpv, cU]; omega
  refine ⟨⟨c + 1, q, rows, leads, d⟩, ⟨J, J, J, J, J, J, trivial⟩, (dF cY (aD om g0) (aD om (g1 (by decide) g0)) (aD om (g1 (by decide) (g1 (by decide) g0)))), ⟨om, by rw [kW hpn]; exact hv, by rw [kW hpn]; exact hld, om, om, by rw [gjd_no hpn]; exact hdv⟩, by show cols - (c + 1) < cols - c; omega⟩
 refine Um J J <| aM J (dU J) J <| aM J (dU J) J <| aM J (cA (j := a) J J J J om om J) J <| aM J (eJ (f := fX) (us := rows) (j := a) J J (aD om g0) (fun _ => rfl) J (by decide) om J) J <| aM J (dU J) J <| aM J (bS J J J J J (by have := hwid a om; omega) J) J <| aM J (dL (l := .agg [_, _, _, _]) J J J) J <| aM J (aK J (gF ((rows.getD a default).2.getD c default)) (by first | (simp [-bY]; done) | simp)) J <| aM J (gB J J) J <| bE (fun h38 => ?_) (fun h38 => ?_)
 ·have hez : ent (vX rows) a c = 0 := by rw [← gX]; exact eZ.1 h38
  refine aA (bW J J) J <| Nk [6,7,8,9,10,11,12,18,19,30,31,32,33,34,35,36,37,38,39] J <| aR J <| aE <| cN <| aJ (z := 3) J <| Um J J <| aA (cI (((a + 1 : Nat) : Int)) (aV J J om) om) J <| Ua J J <| Wn <| dY <| aF <| ⟨a + 1, ⟨J, J, J, J, J, J, J, J, J, trivial⟩, (dF cY (aD om g0) (aD om (g1 (by decide) g0)) (aD om (g1 (by decide) (g1 (by decide) g0)))), ⟨om, om, ?_, om⟩, by show rows.length - (a + 1) < rows.length - a; omega⟩
  intro k h1 h2
  by_cases e : k = a
  ·subst e; exact hez
  ·exact hz k h1 om
 have hen : ent (vX rows) a c ≠ 0 := by rw [← gX]; exact fun k => h38 (eZ.2 k)
 refine aA (bW J J) J <| Nk [6,7,8,9,10,11,12,18,19,30,31,32,33,34,35,36,37,38,39] J <| aT J <| aU <| aN <| aO J <| Ck [6,7,8,9,10,11,12,18,19,30,31,32,33,34,35,36,37,38] J <| aB <| Rg 4 J <| Um J J <| Um J J <| aA (pM J J) J <| aA (gB J J) J <| bE (fun h45 => ?_) (fun h45 => ?_)
 ·omega
 refine Nk [6,7,8,9,10,11,12,18,19,30,31,32,33,34,35,36,37,38,45] J <| aT J <| aE <| aB ?_
 have hrl : leads.length < rows.length := by omega
 have hpv : pivot (vX rows) leads.length c = a := jL hle1 (by rw [cU]; exact hle2) hz (.inr hen)
 rw [hv, hld] at hpv
 have hal : a < (gjn (vX rows0) c).1.length := by rw [← hv, cU]; omega
 have hgy := lL hpv hal
 have hsp : ent (sw (vX rows) a leads.length) leads.length c ≠ 0 := by rw [kS (by rw [cU]; omega) (by rw [cU]; omega)]; exact hen
 have hbv : BdL (β) (vX rows) := by rw [hv]; exact GI.bds om
 have hbc : β ≤ 268435456 := hβ
 have hbp := hgb.pos
 have hdb : Bd β d.1 := by rw [hdv]; exact hgb.dts c om
 obtain ⟨M, hM⟩ : ∃ M, M = mid (vX rows) a leads.length c := ⟨_, rfl⟩
 have hMl : M.length = rows.length := by rw [hM, nJ, cU]
 have hMb : BdL (2 * β + 1) M := by rw [hM]; exact hbv.mid om hsp
 have hMw : Wid w M := by rw [hM]; exact (show Wid w (vX rows) by rw [hv]; exact GI.wid).mid (by rw [cU]; omega) (by rw [cU]; omega) c
 refine Rg 3 J <| Um J J <| Um J J <| aA (dV J J) J <| bE (fun h48 => ?_) (fun h48 => ?_)
 rotate_left
 ·refine Nk [6,7,8,9,10,11,12,18,19,30,31,32,33,34,35,36,37,38,48] J <| aT J <| aE ?_
  obtain ⟨rows1, hr1⟩ : ∃ z, z = rows := ⟨_, rfl⟩
  obtain ⟨d1, hd1e⟩ : ∃ z, z = d := ⟨_, rfl⟩
  have hae : a = leads.length := by omega
  have hd1 : d1.1 = d.1 := by rw [hd1e]
  have hv1 : vX rows1 = sw (vX rows) a leads.length := by rw [hr1, hae, sw_same (by rw [cU]; omega)]
  have hl1 : rows1.length = rows.length := by simp [hr1]
  have hp1 : ((rows1.getD leads.length default).2.getD c default).1 ≠ 0 := by rw [gX, hv1]; exact hsp
  have hb1 : BdL (β) (vX rows1) := by rw [hv1]; exact hbv.sw _ _
  have hbr : ∀ x, x ∈ (rows1.getD leads.length default).2 → Bd (β) x.1 := by
   intro x hx
   have := hb1.row leads.length
   rw [cZ] at this
   exact this _ (List.mem_map.2 ⟨x, hx, rfl⟩)
  have hwr : (rows1.getD leads.length default).2.length = w := by
   have := ((show Wid w (vX rows) by rw [hv]; exact GI.wid).sw (i := a) (r := leads.length) (by rw [cU]; omega) (by rw [cU]; omega)).row (i := leads.length) (by rw [iY, cU]; omega)
   rw [← hv1, cZ, List.length_map] at this; exact this
  have hbpp := hbr _ (bA (show c < (rows1.getD leads.length default).2.length by omega))
  have hb1p := Bd1.div hbpp hp1
  obtain ⟨p, hpe⟩ : ∃ p, p = (rows1.getD leads.length default).2.getD c default := ⟨_, rfl⟩
  have hpv1 : p.1 = ent (vX rows) a c := by rw [hpe, gX, hv1, kS (by rw [cU]; omega) (by rw [cU]; omega)]
  have hd1b : Bd (β) d1.1 := by rw [hd1]; exact hdb
  have hd2v : (xmul d1 p).1 = gjd (vX rows0) (c + 1) := by
   rw [nI hpv hal, ← hv, ← hld]
   show d1.1 * p.1 = _
   rw [hpv1, hd1, if_neg om, hdv]
  refine eU (outH q 1 3 (leads.map d64) [((0 + 3 + 1), { cells := (rows1.map fX).flatten, sz := 1, elem := 108, st := 0 }), ((0 + 3 + 3 + 1), { cells := xc d1, sz := 4, elem := 114, st := 0 }), (2, { cells := [.v (.int .i64 0), .sl 0 [], .v (.int .i64 0), .sl 0 []], sz := 4, elem := 114, st := 0 })]) (dF cY (aD om (g0.trans (by rw [hr1]))) (aD om (g1 (by decide) (g0.trans (by rw [hd1e])))) (aD om (g1 (by decide) (g1 (by decide) g0)))) <| Rg 9 J <| Um J J <| Um J J <| aA (cA (j := leads.length) J J J J om om J) J <| aA (eJ (f := fX) (us := rows1) (j := leads.length) J J (aD om g0) (fun _ => rfl) J (by decide) om J) J <| Um J J <| aA (bS J J J J J om J) J <| aA (bG (b := lvX p) (dL (l := .agg [_, _, _, _]) J J J) (by rw [hpe]; rfl)) J <| bB (dS J) J <| aZ (cO (cs' := xc p) J J J g0 J J J J) <| Nk [6,7,8,9,10,11,13,18,19,30,31,32,33,34,35,36,37,38] J <| Rg 4 J <| aA (aL (l := .agg [_, _, _, _]) J J (g1 om (g1 om (aD om (g1 (by decide) g0)))) J J) J <| aA (aL (l := lvX p) J J g0 J J) J <| aA (aK J (iR d1 p (hd1b.mono om) (by rw [hpe]; exact hbpp.mono om)) (by first | (simp [-bY]; done) | simp)) J <| aZ (cO (cs' := [_, _, _, _]) J J J (g1 om (g1 om (aD om (g1 (by decide) g0)))) J J J J) <| Nk [6,7,8,9,10,11,13,18,19,30,31,32,33,34,35,36,37,38] J ?_
  obtain ⟨r, hr, np, rfl, hnp⟩ := pL (rows1.getD leads.length default).1 (rows1.getD leads.length default).2 (xdiv (xint 1) p) om (fun x hx => (hbr x hx).mono om) (by rw [hpe]; exact hb1p.mono om)
  refine bN (z := 12) J kR <| Dm J J <| Dm J J <| Dm J J <| Dm J J <| aH (cA (j := leads.length) J J J J om om J) J <| aH (eJ (f := fX) (us := rows1) (j := leads.length) J J (g1 om (g1 om (g1 om (aD om g0)))) (fun _ => rfl) J (by decide) om J) J <| aH (aK J (gI 1 (by unfold I64; omega)) (by first | (simp [-bY]; done) | simp)) J <| aH (aL (l := lvX p) J J (g1 om g0) J J) J <| aH (aK J (rT (xint 1) p (by rw [hpe]; exact hp1) (Bd1.mono om) (by rw [hpe]; exact hbpp.mono om)) (by first | (simp [-bY]; done) | simp)) J <| aH (aK J (hr) (by first | (simp [-bY]; done) | simp)) J <| aH (cA (j := leads.length) J J J J om om J) J <| cR (eC (f := fX) (us := rows1) (1, np) J J J (g1 om (g1 om (g1 om (aD om g0)))) (fun _ => rfl) J J om J) <| bJ (aY kR) J <| Ck [6,7,8,9,10,11,18,19,30,31,32,33,34,35,36,37,38] J <| aB ?_
  obtain ⟨rowsM, hr2⟩ : ∃ z, z = rows1.set leads.length (1, np) := ⟨_, rfl⟩
  rw [← hr2]
  have hl2 : rowsM.length = rows.length := by rw [hr2, List.length_set]; exact hl1
  have hv2 : vX rowsM = M := by
   rw [hr2, oY, hv1, hM]; unfold mid
   rw [hnp, ← cZ, hv1]
   have : (xdiv (xint 1) p).1 = 1 / ent (sw (vX rows) a leads.length) leads.length c := by show (1 : Rat) / p.1 = _; rw [hpv1, kS (by rw [cU]; omega) (by rw [cU]; omega)]
   rw [this]
  refine Rg 3 J <| Um J J <| aA (pM J J) J <| Um J J <| Nk [6,7,8,9,10,11,18,19,30,31,32,33,34,35,36,37,38,87,88] J <| aI <| aX (α := Nat × (List X1)) (fun ⟨j, rows2⟩ => [(6, .ptr (0 + (0 + 1 + 1)) 0), (7, .ref (0 + 3 + 1) 1 0 rows2.length), (8, .ptr (0 + 3 + 3 + 1) 0), (9, outV q 1 (leads.map d64)), (10, .v (.int .i64 (c : Int))), (11, .v (.int .i64 (leads.length : Int))), (18, .v (.int .i64 (cols : Int))), (19, .v (.int .i64 (c : Int))), (87, .v (.int .i64 (rows.length : Int))), (88, .v (.int .i64 (j : Int)))]) (fun ⟨j, rows2⟩ => outH q 1 3 (leads.map d64) [((0 + 3 + 1), { cells := (rows2.map fX).flatten, sz := 1, elem := 108, st := 0 }), ((0 + 3 + 3 + 1), { cells := xc (xmul d1 p), sz := 4, elem := 114, st := 0 }), (2, { cells := [.v (.int .i64 0), .sl 0 [], .v (.int .i64 0), .sl 0 []], sz := 4, elem := 114, st := 0 })]) (fun ⟨j, rows2⟩ n => j ≤ rows.length ∧ rows2.length = rows.length ∧ (∀ k, k < rows.length → (vX rows2).getD k default = if k < j then elr M leads.length c k else M.getD k default) ∧ q < n) (fun ⟨j, rows2⟩ => rows.length - j) (0, rowsM) ⟨rfl, congrArg some (by rw [hl2]), rfl, rfl, rfl, rfl, rfl, rfl, rfl, rfl, trivial⟩ (dF (fun hu => (g1 om (g1 om (g1 om (g1 om (cY hu)))))) g0 (g1 om g0) (g1 om (g1 om (g1 om (g1 om (aD om (g1 (by decide) (g1 (by decide) g0)))))))) ⟨Nat.zero_le _, hl2, by intro k hk; rw [if_neg om, hv2], om⟩ ?_
  rintro ⟨j, rows2⟩ n hJ
  change WC _ _ _ _ _ (_ :: _) (outH _ _ _ _ _) n _
  obtain ⟨hjl, hl4, hst, hqn4⟩ := hJ
  refine Rg 1 J <| aA (bU J J) J <| bE (fun h89 => ?_) (fun h89 => ?_)
  rotate_left
  ·refine Wn <| aT J <| aU <| aN <| aO J ?_
   have hfin : vX rows2 = elim M leads.length c := elim_eq (j := j) (by rw [cU]; omega) om (by rw [hMl]; exact hst)
   refine aJ (z := 5) J <| Um J J <| Um J J <| aA (dJ (cs := [_]) (rows := [[_]]) J J (by decide) J J J) J <| gD (te := ti3) (f := d64) (q := q) (us := leads) (u := c) J J J J J (fun _ => rfl) (by decide) (by show (2 * (leads.length + 1) + 256) * 8 ≤ _; omega) om (gN om (gN om (gN om J))) (gN om (gN om (gN om J))) J <| Ua J J <| Wn <| aG <| Ck [6,7,8,9,18,19] J <| aJ (z := 2) J <| aA (cI (((c + 1 : Nat) : Int)) (aV J J om) om) J <| Um J J <| Wn <| aF <| ⟨⟨c + 1, _, rows2, leads ++ [c], xmul d1 p⟩, ⟨J, J, J, J, J, J, trivial⟩, (dF cY (aD om g0) (aD om (g1 (by decide) g0)) (aD om (g1 (by decide) (g1 (by decide) g0)))), ⟨om, by rw [hgy, hfin, hM, hv, hld], by rw [hgy, hld], om, om, hd2v⟩, by show cols - (c + 1) < cols - c; omega⟩
  refine Wn <| aR J <| aE <| aI <| Rg 2 J <| Um J J <| Ua J J <| dA ?_
  have hrj : vX rows2 = vX rows2 := rfl
  have hj1 : (vX rows2).getD j default = M.getD j default := by rw [hst j om, if_neg om]
  have hj2 : (vX rows2).getD leads.length default = M.getD leads.length default := elim_row om (by rw [hMl]; exact hst)
  have hej : ent (vX rows2) j c = ent M j c := by unfold ent; rw [hj1]
  have hwj : (rows2.getD j default).2.length = w := by have := hMw.row (i := j) om; rw [← hj1, cZ] at this; simpa using this
  have hwl : (rows2.getD leads.length default).2.length = w := by have := hMw.row (i := leads.length) om; rw [← hj2, cZ] at this; simpa using this
  refine Rg 14 J <| Um J J <| Um J J <| aA (dV J J) J <| bE (fun h93 => ?_) (fun h93 => ?_)
  rotate_left
  ·refine Um J J <| K1 J J <| K1 J J <| K1 J J <| K1 J J <| K1 J J <| K1 J J <| K1 J J <| K1 J J <| K1 J J <| aA (cG J J) J <| Nk [6,7,8,9,10,11,14,18,19,87,88,95,96,97,98,99,100,101,102,103,104] J <| cH J <| cM <| aG <| Ck [6,7,8,9,10,11,18,19,87,88,95,96,97,98,99,100,101,102,103] J <| aJ (z := 2) J <| aA (cI (((j + 1 : Nat) : Int)) (aV J J om) om) J <| Um J J <| Wn <| aF <| ⟨⟨j + 1, rows2⟩, ⟨J, J, J, J, J, J, J, J, J, J, trivial⟩, (dF cY (aD om g0) (aD om (g1 (by decide) g0)) (aD om (g1 (by decide) (g1 (by decide) g0)))), ⟨om, hl4, (by have := lI (A := vX rows2) (M := M) (j := j) om (by rw [hMl]; exact hst) (nE (.inl om)).symm; rwa [hMl] at this), om⟩, by show rows.length - (j + 1) < rows.length - j; omega⟩
  refine Um J J <| aM J (dU J) J <| aM J (dU J) J <| aM J (cA (j := j) J J J J om om J) J <| aM J (eJ (f := fX) (us := rows2) (j := j) J J (aD om g0) (fun _ => rfl) J (by decide) om J) J <| aM J (dU J) J <| aM J (bS J J J J J om J) J <| aM J (dL (l := .agg [_, _, _, _]) J J J) J <| aM J (aK J (gF ((rows2.getD j default).2.getD c default)) (by first | (simp [-bY]; done) | simp)) J <| aM J (dV J J) J <| bE (fun h103 => ?_) (fun h103 => ?_)
  rotate_left
  ·refine aA (bW J J) J <| Nk [6,7,8,9,10,11,14,18,19,87,88,95,96,97,98,99,100,101,102,103,104] J <| cH J <| cM <| aG <| Ck [6,7,8,9,10,11,18,19,87,88,95,96,97,98,99,100,101,102,103] J <| aJ (z := 2) J <| aA (cI (((j + 1 : Nat) : Int)) (aV J J om) om) J <| Um J J <| Wn <| aF <| ⟨⟨j + 1, rows2⟩, ⟨J, J, J, J, J, J, J, J, J, J, trivial⟩, (dF cY (aD om g0) (aD om (g1 (by decide) g0)) (aD om (g1 (by decide) (g1 (by decide) g0)))), ⟨om, hl4, (by have := lI (A := vX rows2) (M := M) (j := j) om (by rw [hMl]; exact hst) (nE (.inr (by rw [← hej, ← gX]; exact eZ.1 om))).symm; rwa [hMl] at this), om⟩, by show rows.length - (j + 1) < rows.length - j; omega⟩
  refine aA (bW J J) J <| Nk [6,7,8,9,10,11,14,18,19,87,88,95,96,97,98,99,100,101,102,103,104] J <| cL J ?_
  have hen2 : ent M j c ≠ 0 := by rw [← hej, ← gX]; exact fun k => h103 (eZ.2 k)
  have hbj : ∀ x, x ∈ (rows2.getD j default).2 → Bd (2 * β + 1) x.1 := by
   intro x hx
   have := hMb.row j
   rw [← hj1, cZ] at this
   exact this _ (List.mem_map.2 ⟨x, hx, rfl⟩)
  have hbl : ∀ x, x ∈ (rows2.getD leads.length default).2 → Bd (2 * β + 1) x.1 := by
   intro x hx
   have := hMb.row leads.length
   rw [← hj2, cZ] at this
   exact this _ (List.mem_map.2 ⟨x, hx, rfl⟩)
  have hbe := hbj _ (bA (show c < (rows2.getD j default).2.length by omega))
  obtain ⟨r, hr, nw, rfl, hnw⟩ := mJ (rows2.getD j default).1 (rows2.getD leads.length default).1 (rows2.getD j default).2 (rows2.getD leads.length default).2 (xneg ((rows2.getD j default).2.getD c default)) om om (fun x hx => (hbj x hx).mono om) (fun x hx => (hbl x hx).mono om) (hbe.neg.mono om)
  refine dW (z := 21) J kR <| Dm J J <| Dm J J <| Dm J J <| Dm J J <| aH (cA (j := j) J J J J om om J) J <| aH (eJ (f := fX) (us := rows2) (j := j) J J (aD om g0) (fun _ => rfl) J (by decide) om J) J <| Dm J J <| Dm J J <| aH (cA (j := j) J J J J om om J) J <| aH (eJ (f := fX) (us := rows2) (j := j) J J (aD om g0) (fun _ => rfl) J (by decide) om J) J <| Dm J J <| aH (bS J J J J J om J) J <| aH (dL (l := .agg [_, _, _, _]) J J J) J <| aH (aK J (iS ((rows2.getD j default).2.getD c default)) (by first | (simp [-bY]; done) | simp)) J <| Dm J J <| Dm J J <| aH (cA (j := leads.length) J J J J om om J) J <| aH (eJ (f := fX) (us := rows2) (j := leads.length) J J (aD om g0) (fun _ => rfl) J (by decide) om J) J <| aH (aK J (hr) (by first | (simp [-bY]; done) | simp)) J <| aH (cA (j := j) J J J J om om J) J <| cR (eC (f := fX) (us := rows2) (1, nw) J J J (aD om g0) (fun _ => rfl) J J om J) <| bJ (aY kR) J <| aG ?_
  refine Ck [6,7,8,9,10,11,18,19,87,88,95,96,97,98,99,100,101,102,103] J <| aJ (z := 2) J <| aA (cI (((j + 1 : Nat) : Int)) (aV J J om) om) J <| Um J J <| Wn <| aF <| ⟨⟨j + 1, rows2.set j (1, nw)⟩, ⟨rfl, congrArg some (by rw [List.length_set]), rfl, rfl, rfl, rfl, rfl, rfl, rfl, rfl, trivial⟩, dF (fun hu => g1 om (cY hu)) g0 (g1 (by decide) (aD om (g1 (by decide) g0))) (g1 (by decide) (aD om (g1 (by decide) (g1 (by decide) g0)))), ⟨om, by rw [List.length_set]; exact hl4, by rw [oY]; exact (by have := elim_next (A := vX rows2) (M := M) (j := j) (by rw [cU]; omega) om (by rw [hMl]; exact hst) (x := nw.map (·.1)) (by rw [elr_pos om hen2, ← hej, ← hj1, ← hj2, cZ, cZ, ← gX, hnw]; rfl); rwa [hMl] at this), om⟩, by show rows.length - (j + 1) < rows.length - j; omega⟩
 refine Nk [6,7,8,9,10,11,12,18,19,30,31,32,33,34,35,36,37,38,48] J <| aR J <| aB <| bN (z := 16) J kR <| Dm J J <| Dm J J <| Dm J J <| Dm J J <| Dm J J <| Dm J J <| aH (cA (j := leads.length) J J J J om om J) J <| aH (eJ (f := fX) (us := rows) (j := leads.length) J J (aD om g0) (fun _ => rfl) J (by decide) om J) J <| Dm J J <| Dm J J <| aH (cA (j := a) J J J J om om J) J <| aH (eJ (f := fX) (us := rows) (j := a) J J (aD om g0) (fun _ => rfl) J (by decide) om J) J <| aH (cA (j := a) J J J J om om J) J <| cR (eC (f := fX) (us := rows) (rows.getD leads.length default) J J J (aD om g0) (fun _ => rfl) J J om J) <| aH (cA (j := leads.length) J J J J om om J) J <| cR (eC (f := fX) (us := (rows.set a (rows.getD leads.length default))) (rows.getD a default) J J J g0 (fun _ => rfl) J J (by rw [List.length_set]; omega) J) <| bJ (aY kR) J <| Ck [6,7,8,9,10,11,18,19,30,31,32,33,34,35,36,37,38] J <| Rg 3 J ?_
 refine aA (aL (l := .agg [_, _, _, _]) J J (g1 om (g1 om (aD om (g1 (by decide) g0)))) J J) J <| aA (aK J (iS d) (by first | (simp [-bY]; done) | simp)) J <| aZ (cO (cs' := [_, _, _, _]) J J J (g1 om (g1 om (aD om (g1 (by decide) g0)))) J J J J) <| Nk [6,7,8,9,10,11,18,19,30,31,32,33,34,35,36,37,38] J ?_
 obtain ⟨rows1, hr1⟩ : ∃ z, z = ((rows.set a (rows.getD leads.length default)).set leads.length (rows.getD a default)) := ⟨_, rfl⟩
 obtain ⟨d1, hd1e⟩ : ∃ z, z = xneg d := ⟨_, rfl⟩
 rw [← hr1]
 have hd1 : d1.1 = -d.1 := by rw [hd1e]; rfl
 have hv1 : vX rows1 = sw (vX rows) a leads.length := by rw [hr1, oY, oY, ← cZ, ← cZ]; exact sw_comm om
 have hl1 : rows1.length = rows.length := by simp [hr1]
 have hp1 : ((rows1.getD leads.length default).2.getD c default).1 ≠ 0 := by rw [gX, hv1]; exact hsp
 have hb1 : BdL (β) (vX rows1) := by rw [hv1]; exact hbv.sw _ _
 have hbr : ∀ x, x ∈ (rows1.getD leads.length default).2 → Bd (β) x.1 := by
  intro x hx
  have := hb1.row leads.length
  rw [cZ] at this
  exact this _ (List.mem_map.2 ⟨x, hx, rfl⟩)
 have hwr : (rows1.getD leads.length default).2.length = w := by
  have := ((show Wid w (vX rows) by rw [hv]; exact GI.wid).sw (i := a) (r := leads.length) (by rw [cU]; omega) (by rw [cU]; omega)).row (i := leads.length) (by rw [iY, cU]; omega)
  rw [← hv1, cZ, List.length_map] at this; exact this
 have hbpp := hbr _ (bA (show c < (rows1.getD leads.length default).2.length by omega))
 have hb1p := Bd1.div hbpp hp1
 obtain ⟨p, hpe⟩ : ∃ p, p = (rows1.getD leads.length default).2.getD c default := ⟨_, rfl⟩
 have hpv1 : p.1 = ent (vX rows) a c := by rw [hpe, gX, hv1, kS (by rw [cU]; omega) (by rw [cU]; omega)]
 have hd1b : Bd (β) d1.1 := by rw [hd1]; exact hdb.neg
 have hd2v : (xmul d1 p).1 = gjd (vX rows0) (c + 1) := by
  rw [nI hpv hal, ← hv, ← hld]
  show d1.1 * p.1 = _
  rw [hpv1, hd1, if_pos om, hdv]
 refine eU (outH q 1 3 (leads.map d64) [((0 + 3 + 1), { cells := (rows1.map fX).flatten, sz := 1, elem := 108, st := 0 }), ((0 + 3 + 3 + 1), { cells := xc d1, sz := 4, elem := 114, st := 0 }), (2, { cells := [.v (.int .i64 0), .sl 0 [], .v (.int .i64 0), .sl 0 []], sz := 4, elem := 114, st := 0 })]) (dF (fun hu => (g1 om (g1 om (g1 om (cY hu))))) (g1 (by decide) g0) (g0.trans (by rw [hd1e]; rfl)) (g1 om (g1 om (g1 om (aD om (g1 (by decide) (g1 (by decide) g0))))))) <| Rg 9 J <| Um J J <| Um J J <| aA (cA (j := leads.length) J J J J om om J) J <| aA (eJ (f := fX) (us := rows1) (j := leads.length) J J (aD om g0) (fun _ => rfl) J (by decide) om J) J <| Um J J <| aA (bS J J J J J om J) J <| aA (bG (b := lvX p) (dL (l := .agg [_, _, _, _]) J J J) (by rw [hpe]; rfl)) J <| bB (dS J) J <| aZ (cO (cs' := xc p) J J J g0 J J J J) <| Nk [6,7,8,9,10,11,13,18,19,30,31,32,33,34,35,36,37,38] J <| Rg 4 J <| aA (aL (l := .agg [_, _, _, _]) J J (g1 om (g1 om (aD om (g1 (by decide) g0)))) J J) J <| aA (aL (l := lvX p) J J g0 J J) J <| aA (aK J (iR d1 p (hd1b.mono om) (by rw [hpe]; exact hbpp.mono om)) (by first | (simp [-bY]; done) | simp)) J <| aZ (cO (cs' := [_, _, _, _]) J J J (g1 om (g1 om (aD om (g1 (by decide) g0)))) J J J J) <| Nk [6,7,8,9,10,11,13,18,19,30,31,32,33,34,35,36,37,38] J ?_
 obtain ⟨r, hr, np, rfl, hnp⟩ := pL (rows1.getD leads.length default).1 (rows1.getD leads.length default).2 (xdiv (xint 1) p) om (fun x hx => (hbr x hx).mono om) (by rw [hpe]; exact hb1p.mono om)
 refine bN (z := 12) J kR <| Dm J J <| Dm J J <| Dm J J <| Dm J J <| aH (cA (j := leads.length) J J J J om om J) J <| aH (eJ (f := fX) (us := rows1) (j := leads.length) J J (g1 om (g1 om (g1 om (aD om g0)))) (fun _ => rfl) J (by decide) om J) J <| aH (aK J (gI 1 (by unfold I64; omega)) (by first | (simp [-bY]; done) | simp)) J <| aH (aL (l := lvX p) J J (g1 om g0) J J) J <| aH (aK J (rT (xint 1) p (by rw [hpe]; exact hp1) (Bd1.mono om) (by rw [hpe]; exact hbpp.mono om)) (by first | (simp [-bY]; done) | simp)) J <| aH (aK J (hr) (by first | (simp [-bY]; done) | simp)) J <| aH (cA (j := leads.length) J J J J om om J) J <| cR (eC (f := fX) (us := rows1) (1, np) J J J (g1 om (g1 om (g1 om (aD om g0)))) (fun _ => rfl) J J om J) <| bJ (aY kR) J <| Ck [6,7,8,9,10,11,18,19,30,31,32,33,34,35,36,37,38] J <| aB ?_
 obtain ⟨rowsM, hr2⟩ : ∃ z, z = rows1.set leads.length (1, np) := ⟨_, rfl⟩
 rw [← hr2]
 have hl2 : rowsM.length = rows.length := by rw [hr2, List.length_set]; exact hl1
 have hv2 : vX rowsM = M := by
  rw [hr2, oY, hv1, hM]; unfold mid
  rw [hnp, ← cZ, hv1]
  have : (xdiv (xint 1) p).1 = 1 / ent (sw (vX rows) a leads.length) leads.length c := by show (1 : Rat) / p.1 = _; rw [hpv1, kS (by rw [cU]; omega) (by rw [cU]; omega)]
  rw [this]
 refine Rg 3 J <| Um J J <| aA (pM J J) J <| Um J J <| Nk [6,7,8,9,10,11,18,19,30,31,32,33,34,35,36,37,38,87,88] J <| aI <| aX (α := Nat × (List X1)) (fun ⟨j, rows2⟩ => [(6, .ptr (0 + (0 + 1 + 1)) 0), (7, .ref (0 + 3 + 1) 1 0 rows2.length), (8, .ptr (0 + 3 + 3 + 1) 0), (9, outV q 1 (leads.map d64)), (10, .v (.int .i64 (c : Int))), (11, .v (.int .i64 (leads.length : Int))), (18, .v (.int .i64 (cols : Int))), (19, .v (.int .i64 (c : Int))), (87, .v (.int .i64 (rows.length : Int))), (88, .v (.int .i64 (j : Int)))]) (fun ⟨j, rows2⟩ => outH q 1 3 (leads.map d64) [((0 + 3 + 1), { cells := (rows2.map fX).flatten, sz := 1, elem := 108, st := 0 }), ((0 + 3 + 3 + 1), { cells := xc (xmul d1 p), sz := 4, elem := 114, st := 0 }), (2, { cells := [.v (.int .i64 0), .sl 0 [], .v (.int .i64 0), .sl 0 []], sz := 4, elem := 114, st := 0 })]) (fun ⟨j, rows2⟩ n => j ≤ rows.length ∧ rows2.length = rows.length ∧ (∀ k, k < rows.length → (vX rows2).getD k default = if k < j then elr M leads.length c k else M.getD k default) ∧ q < n) (fun ⟨j, rows2⟩ => rows.length - j) (0, rowsM) ⟨rfl, congrArg some (by rw [hl2]), rfl, rfl, rfl, rfl, rfl, rfl, rfl, rfl, trivial⟩ (dF (fun hu => (g1 om (g1 om (g1 om (g1 om (cY hu)))))) g0 (g1 om g0) (g1 om (g1 om (g1 om (g1 om (aD om (g1 (by decide) (g1 (by decide) g0)))))))) ⟨Nat.zero_le _, hl2, by intro k hk; rw [if_neg om, hv2], om⟩ ?_
 rintro ⟨j, rows2⟩ n hJ
 change WC _ _ _ _ _ (_ :: _) (outH _ _ _ _ _) n _
 obtain ⟨hjl, hl4, hst, hqn4⟩ := hJ
 refine Rg 1 J <| aA (bU J J) J <| bE (fun h89 => ?_) (fun h89 => ?_)
 rotate_left
 ·refine Wn <| aT J <| aU <| aN <| aO J ?_
  have hfin : vX rows2 = elim M leads.length c := elim_eq (j := j) (by rw [cU]; omega) om (by rw [hMl]; exact hst)
  refine aJ (z := 5) J <| Um J J <| Um J J <| aA (dJ (cs := [_]) (rows := [[_]]) J J (by decide) J J J) J <| gD (te := ti3) (f := d64) (q := q) (us := leads) (u := c) J J J J J (fun _ => rfl) (by decide) (by show (2 * (leads.length + 1) + 256) * 8 ≤ _; omega) om (gN om (gN om (gN om J))) (gN om (gN om (gN om J))) J <| Ua J J <| Wn <| aG <| Ck [6,7,8,9,18,19] J <| aJ (z := 2) J <| aA (cI (((c + 1 : Nat) : Int)) (aV J J om) om) J <| Um J J <| Wn <| aF <| ⟨⟨c + 1, _, rows2, leads ++ [c], xmul d1 p⟩, ⟨J, J, J, J, J, J, trivial⟩, (dF cY (aD om g0) (aD om (g1 (by decide) g0)) (aD om (g1 (by decide) (g1 (by decide) g0)))), ⟨om, by rw [hgy, hfin, hM, hv, hld], by rw [hgy, hld], om, om, hd2v⟩, by show cols - (c + 1) < cols - c; omega⟩
 refine Wn <| aR J <| aE <| aI <| Rg 2 J <| Um J J <| Ua J J <| dA ?_
 have hrj : vX rows2 = vX rows2 := rfl
 have hj1 : (vX rows2).getD j default = M.getD j default := by rw [hst j om, if_neg om]
 have hj2 : (vX rows2).getD leads.length default = M.getD leads.length default := elim_row om (by rw [hMl]; exact hst)
 have hej : ent (vX rows2) j c = ent M j c := by unfold ent; rw [hj1]
 have hwj : (rows2.getD j default).2.length = w := by have := hMw.row (i := j) om; rw [← hj1, cZ] at this; simpa using this
 have hwl : (rows2.getD leads.length default).2.length = w := by have := hMw.row (i := leads.length) om; rw [← hj2, cZ] at this; simpa using this
 refine Rg 14 J <| Um J J <| Um J J <| aA (dV J J) J <| bE (fun h93 => ?_) (fun h93 => ?_)
 rotate_left
 ·refine Um J J <| K1 J J <| K1 J J <| K1 J J <| K1 J J <| K1 J J <| K1 J J <| K1 J J <| K1 J J <| K1 J J <| aA (cG J J) J <| Nk [6,7,8,9,10,11,14,18,19,87,88,95,96,97,98,99,100,101,102,103,104] J <| cH J <| cM <| aG <| Ck [6,7,8,9,10,11,18,19,87,88,95,96,97,98,99,100,101,102,103] J <| aJ (z := 2) J <| aA (cI (((j + 1 : Nat) : Int)) (aV J J om) om) J <| Um J J <| Wn <| aF <| ⟨⟨j + 1, rows2⟩, ⟨J, J, J, J, J, J, J, J, J, J, trivial⟩, (dF cY (aD om g0) (aD om (g1 (by decide) g0)) (aD om (g1 (by decide) (g1 (by decide) g0)))), ⟨om, hl4, (by have := lI (A := vX rows2) (M := M) (j := j) om (by rw [hMl]; exact hst) (nE (.inl om)).symm; rwa [hMl] at this), om⟩, by show rows.length - (j + 1) < rows.length - j; omega⟩
 refine Um J J <| aM J (dU J) J <| aM J (dU J) J <| aM J (cA (j := j) J J J J om om J) J <| aM J (eJ (f := fX) (us := rows2) (j := j) J J (aD om g0) (fun _ => rfl) J (by decide) om J) J <| aM J (dU J) J <| aM J (bS J J J J J om J) J <| aM J (dL (l := .agg [_, _, _, _]) J J J) J <| aM J (aK J (gF ((rows2.getD j default).2.getD c default)) (by first | (simp [-bY]; done) | simp)) J <| aM J (dV J J) J <| bE (fun h103 => ?_) (fun h103 => ?_)
 rotate_left
 ·refine aA (bW J J) J <| Nk [6,7,8,9,10,11,14,18,19,87,88,95,96,97,98,99,100,101,102,103,104] J <| cH J <| cM <| aG <| Ck [6,7,8,9,10,11,18,19,87,88,95,96,97,98,99,100,101,102,103] J <| aJ (z := 2) J <| aA (cI (((j + 1 : Nat) : Int)) (aV J J om) om) J <| Um J J <| Wn <| aF <| ⟨⟨j + 1, rows2⟩, ⟨J, J, J, J, J, J, J, J, J, J, trivial⟩, (dF cY (aD om g0) (aD om (g1 (by decide) g0)) (aD om (g1 (by decide) (g1 (by decide) g0)))), ⟨om, hl4, (by have := lI (A := vX rows2) (M := M) (j := j) om (by rw [hMl]; exact hst) (nE (.inr (by rw [← hej, ← gX]; exact eZ.1 om))).symm; rwa [hMl] at this), om⟩, by show rows.length - (j + 1) < rows.length - j; omega⟩
 refine aA (bW J J) J <| Nk [6,7,8,9,10,11,14,18,19,87,88,95,96,97,98,99,100,101,102,103,104] J <| cL J ?_
 have hen2 : ent M j c ≠ 0 := by rw [← hej, ← gX]; exact fun k => h103 (eZ.2 k)
 have hbj : ∀ x, x ∈ (rows2.getD j default).2 → Bd (2 * β + 1) x.1 := by
  intro x hx
  have := hMb.row j
  rw [← hj1, cZ] at this
  exact this _ (List.mem_map.2 ⟨x, hx, rfl⟩)
 have hbl : ∀ x, x ∈ (rows2.getD leads.length default).2 → Bd (2 * β + 1) x.1 := by
  intro x hx
  have := hMb.row leads.length
  rw [← hj2, cZ] at this
  exact this _ (List.mem_map.2 ⟨x, hx, rfl⟩)
 have hbe := hbj _ (bA (show c < (rows2.getD j default).2.length by omega))
 obtain ⟨r, hr, nw, rfl, hnw⟩ := mJ (rows2.getD j default).1 (rows2.getD leads.length default).1 (rows2.getD j default).2 (rows2.getD leads.length default).2 (xneg ((rows2.getD j default).2.getD c default)) om om (fun x hx => (hbj x hx).mono om) (fun x hx => (hbl x hx).mono om) (hbe.neg.mono om)
 refine dW (z := 21) J kR <| Dm J J <| Dm J J <| Dm J J <| Dm J J <| aH (cA (j := j) J J J J om om J) J <| aH (eJ (f := fX) (us := rows2) (j := j) J J (aD om g0) (fun _ => rfl) J (by decide) om J) J <| Dm J J <| Dm J J <| aH (cA (j := j) J J J J om om J) J <| aH (eJ (f := fX) (us := rows2) (j := j) J J (aD om g0) (fun _ => rfl) J (by decide) om J) J <| Dm J J <| aH (bS J J J J J om J) J <| aH (dL (l := .agg [_, _, _, _]) J J J) J <| aH (aK J (iS ((rows2.getD j default).2.getD c default)) (by first | (simp [-bY]; done) | simp)) J <| Dm J J <| Dm J J <| aH (cA (j := leads.length) J J J J om om J) J <| aH (eJ (f := fX) (us := rows2) (j := leads.length) J J (aD om g0) (fun _ => rfl) J (by decide) om J) J <| aH (aK J (hr) (by first | (simp [-bY]; done) | simp)) J <| aH (cA (j := j) J J J J om om J) J <| cR (eC (f := fX) (us := rows2) (1, nw) J J J (aD om g0) (fun _ => rfl) J J om J) <| bJ (aY kR) J <| aG ?_
 refine Ck [6,7,8,9,10,11,18,19,87,88,95,96,97,98,99,100,101,102,103] J <| aJ (z := 2) J <| aA (cI (((j + 1 : Nat) : Int)) (aV J J om) om) J <| Um J J <| Wn <| aF <| ⟨⟨j + 1, rows2.set j (1, nw)⟩, ⟨rfl, congrArg some (by rw [List.length_set]), rfl, rfl, rfl, rfl, rfl, rfl, rfl, rfl, trivial⟩, dF (fun hu => g1 om (cY hu)) g0 (g1 (by decide) (aD om (g1 (by decide) g0))) (g1 (by decide) (aD om (g1 (by decide) (g1 (by decide) g0)))), ⟨om, by rw [List.length_set]; exact hl4, by rw [oY]; exact (by have := elim_next (A := vX rows2) (M := M) (j := j) (by rw [cU]; omega) om (by rw [hMl]; exact hst) (x := nw.map (·.1)) (by rw [elr_pos om hen2, ← hej, ← hj1, ← hj2, cZ, cZ, ← gX, hnw]; rfl); rwa [hMl] at this), om⟩, by show rows.length - (j + 1) < rows.length - j; omega⟩
theorem mreduced_runB (rows0 : List X1) (cols w : Nat) (hne : 0 < rows0.length) (ln : rows0.length < 1000000) (hw : Wid w (vX rows0)) (hcw : cols ≤ w) (lw : w < 1000000) (β : Nat) (hβ : β ≤ 268435456) (hgb : GB (vX rows0) cols β) : ∃ r, Run Try.prog T E0 (.call 97 [.sl 1 (rows0.map fX), .v (.int .i64 (cols : Int))] r) ∧ ∃ (rows : List X1) (d : X), r = .tup [.sl 1 (rows.map fX), .sl (kd (gjn (vX rows0) cols).2.length) ((gjn (vX rows0) cols).2.map d64), lvX d] ∧ vX rows = (gjn (vX rows0) cols).1 ∧ d.1 = gjd (vX rows0) cols := by
 refine gJ Try.func97 J J (dM J) ((mreduced_wcB rows0 cols w hne ln hw hcw lw β hβ hgb).mono ?_)
 rintro x e h n ⟨hx, q, rows, d, h1, h2, h3, h4, h5⟩
 refine ⟨.tup [.sl 1 (rows.map fX), .sl (kd (gjn (vX rows0) cols).2.length) ((gjn (vX rows0) cols).2.map d64), lvX d], ⟨rows, d, rfl, h1, h2⟩, ?_⟩
 rw [← iC]
 exact postRO (n := n) hx h3 (by simp) h4 (by show (0 : Nat) ≠ 2; decide) J (by decide) J (bL (n := 1) (fun _ => rfl)) (aW dfX) h5 (by decide) (bL (n := 1) (fun _ => rfl)) mC (by simp)
theorem nM (al : List X1) (kb : Nat) (bl : List X) (w : Nat) (hne : 0 < al.length) (ln : al.length < 100000) (hw : ∀ r, r ∈ al → r.2.length = w) (hk : ∀ r, r ∈ al → r.1 = kd r.2.length) (hbl : bl.length = al.length) (hw9 : w ≤ 60) (β : Nat) (hβ : β ≤ 268435456) (hgb : GB (wR (vX al) (bl.map (·.1))) w β) : ∃ r, Run Try.prog T E0 (.call 98 [.sl 1 (al.map fX), .sl kb (bl.map xc), .v (.int .i64 (w : Int))] r) ∧ (if nosol (gjn (wR (vX al) (bl.map (·.1))) w) w = true then r = .tup [.v (.int .i64 0), .sl 0 []] else ∃ xs : List X, r = .tup [.v (.int .i64 (solk (gjn (wR (vX al) (bl.map (·.1))) w) w)), .sl 1 (xs.map xc)] ∧ xs.map (·.1) = solv (gjn (wR (vX al) (bl.map (·.1))) w) w (gjn (wR (vX al) (bl.map (·.1))) w).2.length) := by
 refine gJ Try.func98 J J (dM J) <| Rg 2 J <| Ua J J <| Ua J J <| Wn <| Rg 1 J <| Ua J J <| Wn <| aB <| Rg 3 J <| Um J J <| aA (bD J J) J <| Um J J <| Wn <| aI <| aX (α := Nat × Nat × (List X1)) (fun ⟨i, q, ds⟩ => [(1, .sl kb (bl.map xc)), (2, .v (.int .i64 (w : Int))), (8, outV q 1 (ds.map fX)), (19, .sl 1 (al.map fX)), (20, .v (.int .i64 (al.length : Int))), (21, .v (.int .i64 (i : Int)))]) (fun ⟨i, q, ds⟩ => outH q 1 108 (ds.map fX) []) (fun ⟨i, q, ds⟩ n => i ≤ al.length ∧ ds = (List.range i).map (wX al bl) ∧ ds.length = i ∧ q < n) (fun ⟨i, q, ds⟩ => al.length - i) (0, 0, []) ⟨J, J, J, J, J, J, trivial⟩ trivial ⟨Nat.zero_le _, rfl, rfl, om⟩ ?_
 rintro ⟨i, q, ds⟩ n hF
 change WC _ _ _ _ _ (_ :: _) (outH _ _ _ _ _) n _
 obtain ⟨hi, hds, hdl, hq⟩ := hF
 refine Rg 1 J <| aA (bU J J) J <| bE (fun h22 => ?_) (fun h22 => ?_)
 ·refine Wn <| aR J <| aE <| aI <| Rg 5 J <| Um J J <| aA (bS J J J J J om J) J <| aA (dL J J J) J <| Ua J J <| Ua J J <| dA ?_
  have hm := bA (us := al) (i := i) om
  have hrw := hw _ hm
  have hrk := hk _ hm
  have hc0 : ((al.getD i default).2.map xc) = [] → Run Try.prog T E0 (.call 99 [.sl (al.getD i default).1 ((al.getD i default).2.map xc)] (.sl 0 [])) := fun h => by
   rw [hrk, xc_nil h]; exact clone1_nil
  have hc1 : ((al.getD i default).2.map xc) ≠ [] → Run Try.prog T E0 (.callO 99 [.sl (al.getD i default).1 ((al.getD i default).2.map xc)] (.ref 0 4 0 ((al.getD i default).2.map xc).length) { cells := ((al.getD i default).2.map xc).flatten, sz := 4, elem := 114, st := 0 }) := fun h => by
   have h2 : 0 < (al.getD i default).2.length := by
    rcases Nat.eq_zero_or_pos (al.getD i default).2.length with h3 | h3
    ·exact absurd (by rw [List.length_eq_zero_iff.1 h3]; rfl) h
    ·exact h3
   obtain ⟨_, _, _, h4, rfl, rfl, rfl⟩ := clone1_own (al.getD i default).1 (al.getD i default).2 (by rw [hrk, kd, if_neg om]; decide) h2 om
   rw [List.length_map]; exact h4
  refine jB (z := 12) J kR <| Dm J J <| Dm J J <| WD.callV (us := (al.getD i default).2.map xc) (sz := 4) (el := 114) J hc0 hc1 dD J <| Dm J J <| Dm J J <| aH (bS J J J J J om J) J <| aH (dL (l := .agg [_, _, _, _]) J J J) J <| aH (dJ (cs := [_, _, _, _]) (rows := [[_, _, _, _]]) J J (by decide) J J J) J <| qU (te := ti114) (k0 := 0) (us := (al.getD i default).2.map xc) (rows := [xc (bl.getD i default)]) (.inl J) J J J J J (by decide) (by intro r hr; rw [List.mem_singleton] at hr; subst hr; rfl) (bL (n := 4) (fun _ => rfl)) (by simp) (by rw [List.length_map, hrw]; show (2 * (w + 1) + 256) * 64 ≤ _; omega) (by rw [List.length_map, hrw]; show w + 1 < _; omega) (aD om J) J <| aH (dJ (cs := [_]) (rows := [[_]]) J J (by decide) J J J) J <| iK _ (outH_swap om) <| qU (te := ti108) (k0 := 0) (us := ds.map fX) (rows := [[_]]) (.inl J) J J J (by rw [iI]; rfl) J (by decide) (by intro r hr; rw [List.mem_singleton] at hr; subst hr; rfl) (bL (n := 1) (fun _ => rfl)) (by simp) (by rw [List.length_map]; show (2 * (ds.length + 1) + 256) * 24 ≤ _; omega) (by rw [List.length_map]; show ds.length + 1 < _; omega) (g1 om J) J <| aH (fR J) J <| bJ (dR (rn n) (by simp only [List.reverse_cons, List.reverse_nil, List.nil_append, List.cons_append, List.map_cons, List.map_nil, ren, Nat.add_assoc, iX, rn_lt hq]; kernel_rfl)) J <| Fz.rows (d := 8) ds (wX al bl i) (ys := ((al.getD i default).2 ++ [bl.getD i default]).map xc) [(1, _), (2, _), (19, _), (20, _), (21, _)] ⟨J, J, J, J, J, trivial⟩ J (by simp) J om (by simp) (by decide) (by simp) (bL (n := 4) (fun _ => rfl)) (aW jI) <| aG <| aJ (z := 2) J <| aA (cI (((i + 1 : Nat) : Int)) (aV J J om) om) J <| Um J J <| Wn <| aF <| ⟨⟨i + 1, _, ds ++ [wX al bl i]⟩, ⟨J, J, J, J, J, J, trivial⟩, jP, ⟨om, by rw [List.range_succ, List.map_append, hds]; rfl, by simp; omega, om⟩, by show al.length - (i + 1) < al.length - i; omega⟩
 refine Wn <| aT J <| aU <| aN <| aO J ?_
 obtain ⟨d0, dt, rfl⟩ : ∃ d0 dt, ds = d0 :: dt := by
  cases ds with
  | nil => simp at hdl; omega
  | cons d dt => exact ⟨d, dt, rfl⟩
 obtain rfl : i = al.length := by omega
 have hvw : vX (d0 :: dt) = (wR (vX al) (bl.map (·.1))) := by rw [hds]; exact vX_w al bl
 have hwid : Wid (w + 1) (wR (vX al) (bl.map (·.1))) := wR_wid (fun r hr => by obtain ⟨s, hs, rfl⟩ := List.mem_map.1 hr; rw [List.length_map]; exact hw s hs)
 obtain ⟨r, hr, rows, d, rfl, hrows, _⟩ := mreduced_runB (d0 :: dt) w (w + 1) (by simp) om (by rw [hvw]; exact hwid) om om β hβ (by rw [hvw]; exact hgb)
 rw [hvw] at hr hrows
 obtain ⟨_, gw, gl, gc⟩ := hgb.all hwid om w (Nat.le_refl _)
 have hrl : rows.length = al.length := by
  have := congrArg List.length hrows
  rw [cQ, mQ] at this; simpa [vX] using this
 rw [mQ] at gl
 have gl : (gjn (wR (vX al) (bl.map (·.1))) w).2.length ≤ rows.length := by simpa [vX, hrl] using gl
 generalize gjn (wR (vX al) (bl.map (·.1))) w = S at *
 have hwr := wid_vX gw hrows
 refine Rg 11 J <| Um J J <| Um J J <| bB (kZ [.sl 1 ((d0 :: dt).map fX), .v (.int .i64 (w : Int))] [(q, { cells := ((d0 :: dt).map fX).flatten, sz := 1, elem := 108, st := 1 })] J hr (.own (ob := { cells := ((d0 :: dt).map fX).flatten, sz := 1, elem := 108, st := 0 }) ((d0 :: dt).map fX) (by simp) g0 (by show (0 : Nat) ≠ 2; decide) J (by decide) (by simp [keys]) J (bL (n := 1) (fun _ => rfl)) (aW dfX) (.data (.v _) .nil)) (by intro p hp; rw [List.mem_singleton] at hp; subst hp; exact ⟨_, g0, by show (0 : Nat) ≠ 2; decide, rfl⟩)) J <| Um J J <| aA (cW J J) J <| aA (cW J J) J <| aA (cW J J) J <| bB (dS J) J <| Ua J J <| Ua J J <| aZ (cO (cs' := [_, _, _, _]) J J J g0 J J J J) <| Nk [2,11,12] J <| aB <| Rg 6 J <| Um J J <| Um J J <| aA (bD J J) J <| aA (bG (b := .sl 1 ((rows.drop S.2.length).map fX)) (oSlLo (i := S.2.length) J J J (bL (f := fX) (n := 1) (fun _ => rfl)) J J (by rw [List.length_map]; omega)) (by rw [List.map_drop])) J <| aA (bD J J) J <| Um J J <| Wn <| aI ?_
 refine aX (α := Nat) (fun i => [(2, .v (.int .i64 (w : Int))), (11, .sl 1 (rows.map fX)), (12, .sl (kd S.2.length) (S.2.map d64)), (48, .sl 1 ((rows.drop S.2.length).map fX)), (49, .v (.int .i64 ((rows.drop S.2.length).length : Int))), (50, .v (.int .i64 (i : Int)))]) (fun i => []) (fun i n => i ≤ (rows.drop S.2.length).length ∧ ∀ k, S.2.length ≤ k → k < S.2.length + i → ent S.1 k w = 0) (fun i => (rows.drop S.2.length).length - i) (0) ⟨J, J, J, J, J, J, trivial⟩ trivial ⟨Nat.zero_le _, by intro k h1 h2; omega⟩ ?_
 rintro i n hF
 change WC _ _ _ _ _ (_ :: _) ([]) n _
 obtain ⟨hi2, hz⟩ := hF
 refine Rg 1 J <| aA (bU J J) J <| bE (fun h51 => ?_) (fun h51 => ?_)
 ·refine Wn <| aR J <| aE <| aI <| Rg 3 J <| aA (bS J J J J J om J) J <| aA (dL J J J) J <| Ua J J <| dA ?_
  have hdm : S.2.length + i < rows.length := by rw [List.length_drop] at h51; omega
  have hrl2 : (((rows.drop S.2.length).getD i default).2).length = w + 1 := by rw [dropD]; exact hwr _ (bA hdm)
  have he : ent S.1 (S.2.length + i) w = (((rows.drop S.2.length).getD i default).2.getD w default).1 := by rw [← hrows, ent_vX hdm, dropD]
  refine Rg 6 J <| Um J J <| Um J J <| aA (bS (j := w) J J J J om om J) J <| aA (dL (l := .agg [_, _, _, _]) J J J) J <| aA (aK J (gF (((rows.drop S.2.length).getD i default).2.getD w default)) dD) J <| aA (dV J J) J <| bE (fun h59 => ?_) (fun h59 => ?_)
  ·refine Nk [2,11,12,48,49,50,59] J <| cL J <| Rg 2 J <| Ua J J <| Ua J J <| Wn <| aP <| aS <| bO <| aS ?_
   have hsl : S.1.length = rows.length := by rw [← hrows]; simp [vX]
   have hns : nosol S w = true := nosol_yes (k := S.2.length + i) om om (by rw [he]; intro h0; exact h59 (eZ.2 h0))
   exact ⟨.tup [.v (.int .i64 0), .sl 0 []], by rw [if_pos hns], post (n := 0) (.inr J) J J dD⟩
  refine Nk [2,11,12,48,49,50,59] J <| cH J <| cM <| aG <| aJ (z := 2) J <| aA (cI (((i + 1 : Nat) : Int)) (aV J J om) om) J <| Um J J <| Wn <| aF <| ⟨i + 1, ⟨J, J, J, J, J, J, trivial⟩, trivial, ⟨om, fun k h1 h2 => ?_⟩, by show (rows.drop S.2.length).length - (i + 1) < (rows.drop S.2.length).length - i; omega⟩
  by_cases hk : k < S.2.length + i
  ·exact hz k h1 hk
  ·obtain rfl : k = S.2.length + i := by omega
   rw [he]; exact eZ.1 om
 refine Wn <| aT J <| aU <| aN <| aO J ?_
 have hns : nosol S w = false := by
  have hsl : S.1.length = rows.length := by rw [← hrows]; simp [vX]
  rw [List.length_drop] at h51 hi2
  exact nosol_no om (fun k h1 h2 => hz k h1 om)
 refine Rg 3 J <| Um J J <| bB (oMk (a := w) (b := w) J J J J om om (by decide) om (by show 64 * w ≤ _; omega) om) J <| Ua J J <| Wn <| aB <| Rg 3 J <| Um J J <| aA (bD J J) J <| Um J J <| Wn <| aI <| aX (α := Nat × Nat × (List X)) (fun ⟨i, q2, xs⟩ => [(2, .v (.int .i64 (w : Int))), (11, .sl 1 (rows.map fX)), (12, .sl (kd S.2.length) (S.2.map d64)), (16, .ref q2 4 0 w), (63, .sl (kd S.2.length) (S.2.map d64)), (64, .v (.int .i64 (S.2.length : Int))), (65, .v (.int .i64 (i : Int)))]) (fun ⟨i, q2, xs⟩ => [(q2, { cells := (xs.map xc).flatten, sz := 4, elem := 114, st := 0 })]) (fun ⟨i, q2, xs⟩ n => i ≤ S.2.length ∧ xs.length = w ∧ xs.map (·.1) = solv S w i) (fun ⟨i, q2, xs⟩ => S.2.length - i) (0, _, List.replicate w x0) ⟨J, J, J, J, J, J, J, trivial⟩ ⟨g0.trans (by rw [List.map_replicate]; rfl), trivial⟩ ⟨Nat.zero_le _, by simp, by rw [List.map_replicate]; rfl⟩ ?_
 rintro ⟨i, q2, xs⟩ n hF
 change WC _ _ _ _ _ (_ :: _) (_ :: _) n _
 obtain ⟨hi4, hxl, hxs⟩ := hF
 refine Rg 1 J <| aA (bU J J) J <| bE (fun h66 => ?_) (fun h66 => ?_)
 ·refine Wn <| aR J <| aE <| aI <| Rg 5 J <| Um J J <| aA (bS J J J J J om J) J <| aA (dL J J J) J <| Ua J J <| Ua J J <| dA ?_
  have hld := gc _ (bA (us := S.2) (i := i) om)
  have hrl4 : ((rows.getD i default).2).length = w + 1 := hwr _ (bA om)
  have he4 : ent S.1 i w = ((rows.getD i default).2.getD w default).1 := by rw [← hrows, ent_vX om]
  refine aJ (z := 11) J <| Um J J <| Um J J <| Um J J <| Um J J <| aA (bS J J J J J om J) J <| aA (dL J J J) J <| Um J J <| aA (bS (j := w) J J J J om om J) J <| aA (dL (l := .agg [_, _, _, _]) J J J) J <| aA (cA J J J J J om J) J <| aZ (eC (f := xc) (us := xs) ((rows.getD i default).2.getD w default) J J J g0 (fun _ => rfl) J J om J) <| Wn <| aG <| Ck [2,11,12,16,63,64,65] J <| aJ (z := 2) J <| aA (cI (((i + 1 : Nat) : Int)) (aV J J om) om) J <| Um J J <| Wn <| aF <| ⟨⟨i + 1, _, xs.set (S.2.getD i default) ((rows.getD i default).2.getD w default)⟩, ⟨J, J, J, J, J, J, J, trivial⟩, ⟨g0, trivial⟩, ⟨om, by rw [List.length_set]; exact hxl, ?_⟩, by show S.2.length - (i + 1) < S.2.length - i; omega⟩
  rw [List.map_set, hxs, solv, he4]
 refine Wn <| aT J <| aU <| aN <| aO J <| aB ?_
 have hxs' : xs.map (·.1) = solv S w S.2.length := by rw [hxs, show i = S.2.length by omega]
 refine Rg 4 J <| Um J J <| aA (bD J J) J <| Um J J <| aA (bU J J) J <| bE (fun h84 => ?_) (fun h84 => ?_)
 ·refine Wn <| aR J <| aB <| Rg 3 J <| Um J J <| Ua J J <| Ua J J <| Nk [6,7] J <| bC <| ⟨.tup [.v (.int .i64 2), .sl 1 (xs.map xc)], by rw [if_neg (by rw [hns]; decide)]; exact ⟨xs, by unfold solk; rw [if_pos om], hxs'⟩, ?_⟩
  exact pN (n := 0) [(q2, { cells := (xs.map xc).flatten, sz := 4, elem := 114, st := 1 })] (.inr J) J (.data (.v _) (.own (ob := { cells := (xs.map xc).flatten, sz := 4, elem := 114, st := 0 }) _ (by rw [List.length_map, hxl]) g0 (by show (0 : Nat) ≠ 2; decide) J (by decide) (List.mem_singleton.2 J) J (bL (n := 4) (fun _ => rfl)) (aW jI) .nil)) (by intro p hp; rw [List.mem_singleton] at hp; subst hp; exact ⟨_, g0, by show (0 : Nat) ≠ 2; decide, rfl⟩)
 refine Wn <| aT J <| aE <| Rg 3 J <| Um J J <| Ua J J <| Ua J J <| Nk [6,7] J <| aP <| ⟨.tup [.v (.int .i64 1), .sl 1 (xs.map xc)], by rw [if_neg (by rw [hns]; decide)]; exact ⟨xs, by unfold solk; rw [if_neg om], hxs'⟩, ?_⟩
 exact pN (n := 0) [(q2, { cells := (xs.map xc).flatten, sz := 4, elem := 114, st := 1 })] (.inr J) J (.data (.v _) (.own (ob := { cells := (xs.map xc).flatten, sz := 4, elem := 114, st := 0 }) _ (by rw [List.length_map, hxl]) g0 (by show (0 : Nat) ≠ 2; decide) J (by decide) (List.mem_singleton.2 J) J (bL (n := 4) (fun _ => rfl)) (aW jI) .nil)) (by intro p hp; rw [List.mem_singleton] at hp; subst hp; exact ⟨_, g0, by show (0 : Nat) ≠ 2; decide, rfl⟩)
end Go.Proofs.Ytcblgjaomljikaa
namespace Go.Proofs.Ytcblgjaomljikaa
open Go.Ab Go.RowKit
theorem mean_run (c : CH) (kv : Nat) (vx : List X) (n0 : Nat) (hc : VB n0 c.2.2) (hl : vx.length = n0) (β : Nat) (h1β : 1 ≤ β) (hβ : β ≤ 2147483648) (hv : ∀ x, x ∈ vx → Bd β x.1) : Run Try.prog T E0 (.call 181 [lvC c, .sl kv (vx.map xc)] (lvX (xmean c.2.2 vx c.2.2.length))) := by
 have hcl := hc.len
 refine bK Try.func181 J J (dM J) <| Rg 2 J <| bB (eG J J) J <| bB (dS J) J <| Wn <| Rg 1 J <| bB (dS J) J <| Wn <| aB <| Rg 4 J <| aA (bH J J J J J) J <| aA (aL J J gG J J) J ?_
 refine aA (bD J J) J <| Um J J <| Wn <| aI <| aX (α := Nat) (fun i => [(1, .sl kv (vx.map xc)), (4, .ptr (0 + 1) 0), (5, .ptr (0 + 2) 0), (9, .sl c.2.1 (c.2.2.map brc)), (10, .v (.int .i64 (c.2.2.length : Int))), (11, .v (.int .i64 (i : Int)))]) (fun i => [((0 + 2), { cells := xc ((xmean c.2.2 vx i)), sz := 4, elem := (114), st := 0 }), ((0 + 1), { cells := xc (x0), sz := 4, elem := (114), st := 0 })]) (fun i n => i ≤ c.2.2.length ∧ 4 ≤ n) (fun i => c.2.2.length - i) (0) ⟨J, J, J, J, J, J, trivial⟩ ⟨gG, gG, trivial⟩ ⟨Nat.zero_le _, om⟩ ?_
 rintro i n hF
 change WC _ _ _ _ _ (_ :: _) (_ :: _) n _
 obtain ⟨hi, hn⟩ := hF
 refine Rg 1 J <| aA (bU J J) J <| bE (fun h12 => ?_) (fun h12 => ?_)
 rotate_left
 ·refine Wn <| aT J <| aU <| aN <| aO J <| Rg 2 J <| aA (aL (l := lvX (xmean c.2.2 vx i)) J J gG J J) J ?_
  refine aZ (cO (cs' := xc (xmean c.2.2 vx i)) J J J gG J J J J) ?_
  refine Wn <| aP ?_
  have hin : i = c.2.2.length := by omega
  rw [← hin]
  refine post (n := 0) (.inr J) J ?_ dD
  rfl
 refine Wn <| aR J <| aE <| aI ?_
 have hto := hc.to i om
 have hvn := hc.vn i om
 have hi3 := hvn.all3
 have hm1 := oD hc h1β hv i hi
 have hm2 : i * (β + 3) ≤ 8 * (β + 3) := Nat.mul_le_mul_right _ om
 have hg := kA h1β hv (c.2.2.getD i default).1.toNat
 refine Rg 4 J <| aA (bS J J J J J om J) J <| aA (dL (l := .agg (brc (c.2.2.getD i default))) J J J) J <| bB (dS J) J <| aZ (cO (cs' := brc (c.2.2.getD i default)) J J J g0 J J J J) <| Wn <| dW (z := 12) J kR <| aH (aL (l := lvX (xmean c.2.2 vx i)) J J gG J J) J ?_
 refine aH (bH J J J J J) J <| aH (aL (l := lvM (c.2.2.getD i default).2) J J gG J J) J ?_
 refine aH (bG (b := lvX (nx (c.2.2.getD i default).2)) (aK J (dC (c.2.2.getD i default).2 hi3.1 hi3.2.1 hi3.2.2) dD) J) J <| Dm J J <| aH (bH J J J J J) J <| aH (aL J J gG J J) J ?_
 refine aH (bS (j := (c.2.2.getD i default).1.toNat) J J J J om om J) J <| aH (dL (l := lvX (vx.getD (c.2.2.getD i default).1.toNat default)) J J J) J <| aH (aK J (iR (nx (c.2.2.getD i default).2) (vx.getD (c.2.2.getD i default).1.toNat default) (hvn.bd.mono om) (hg.mono om)) dD) J <| aH (bG (b := lvX (xmean c.2.2 vx (i + 1))) (aK J (iQ (xmean c.2.2 vx i) (xmul (nx (c.2.2.getD i default).2) (vx.getD (c.2.2.getD i default).1.toNat default)) (hm1.mono om) ((hvn.bd.mul hg).mono om)) dD) J) J <| cR (cO (cs' := xc (xmean c.2.2 vx (i + 1))) J J J gG J J J J) ?_
 refine bJ (aY kR) J <| aG <| Ck [1,4,5,9,10,11] J <| aJ (z := 2) J <| aA (cI (((i + 1 : Nat) : Int)) (aV J J om) om) J <| Um J J <| Wn <| aF <| ⟨i + 1, ⟨J, J, J, J, J, J, trivial⟩, ⟨gG, gG, trivial⟩, ⟨om, om⟩, by show c.2.2.length - (i + 1) < c.2.2.length - i; omega⟩
theorem jR (c : CH) (d : X) (kv : Nat) (vx : List X) (n0 : Nat) (hr : VN c.1) (hc : VB n0 c.2.2) (hd : Bd 2 d.1) (hl : vx.length = n0) (β : Nat) (h1β : 1 ≤ β) (hβ : β ≤ 2147483648) (hv : ∀ x, x ∈ vx → Bd β x.1) : Run Try.prog T E0 (.call 120 [lvC c, lvX d, .sl kv (vx.map xc)] (lvX (xyl c d vx))) := by
 have hcl := hc.len
 have hi3 := hr.all3
 have hm1 := oD hc h1β hv c.2.2.length (Nat.le_refl _)
 have hm2 : c.2.2.length * (β + 3) ≤ 8 * (β + 3) := Nat.mul_le_mul_right _ om
 refine bK Try.func120 J J (dM J) <| Rg 3 J <| bB (eG J J) J <| bB (eG J J) J <| bB (dS J) J <| Wn <| bN (z := 10) J kR <| aH (bH J J J J J) J <| aH (aL (l := lvM c.1) J J gG J J) J ?_
 refine aH (bG (b := lvX (nx c.1)) (aK J (dC c.1 hi3.1 hi3.2.1 hi3.2.2) dD) J) J <| aH (aL (l := lvX d) J J gG J J) J ?_
 refine aH (aL (l := lvC c) J J gG J J) J ?_
 refine Dm J J <| aH (aK J (mean_run c kv vx n0 hc hl β h1β hβ hv) (aQ (by intro c hc; simp only [List.mem_cons, List.not_mem_nil, or_false] at hc; rcases hc with rfl | rfl; exact eQ; exact (.sl _ _ fun row hr => aW jI row hr)))) J <| aH (aK J (iR d (xmean c.2.2 vx c.2.2.length) (hd.mono om) (hm1.mono om)) dD) J <| aH (bG (b := lvX (xyl c d vx)) (aK J (iQ (nx c.1) (xmul d (xmean c.2.2 vx c.2.2.length)) (hr.bd.mono om) ((hd.mul hm1).mono om)) dD) J) J <| cR (cO (cs' := xc (xyl c d vx)) J J J gG J J J J) ?_
 refine bJ (aY kR) J <| Ck [6] J <| aP <| post (n := 0) (.inr J) J ?_ dD
 rfl
theorem wants1_run (a b : X) (ha : Bd 34359738368 a.1) (hb : Bd 34359738368 b.1) : Run Try.prog T E0 (.call 205 [lvX a, lvX b] (.v (.int .i64 (b.1 - a.1).num.sign))) := by
 refine bK Try.func205 J J (dM J) <| Rg 3 J <| bB (eG J J) J <| bB (eG J J) J <| Ua J J <| Wn <| Rg 4 J <| aA (aL (l := lvX b) J J gG J J) J ?_
 refine aA (aL (l := lvX a) J J gG J J) J ?_
 refine aA (aK J (jM b a hb ha) dD) J <| Ua J J <| Wn <| aP <| post (n := 0) (.inr J) J ?_ dD
 rfl
theorem wants_run (pl : Int) : Run Try.prog T E0 (.call 178 [.v (.int .i64 pl)] (.fn (.func (if pl = 1 then 205 else 119)) [] [])) := by
 refine bK Try.func178 J J (dM J) <| Rg 1 J <| Ua J J <| Wn <| Rg 1 J <| Um J J <| Wn <| cN <| Rg 2 J <| aA (gB J J) J <| bE (fun h5 => ?_) (fun h5 => ?_)
 ·refine Ua J J <| Wn <| cL J <| Rg 1 J <| Ua J J <| Wn <| aP <| dZ ?_
  rw [if_pos (show pl = 1 by omega)]
  refine post (n := 0) (.inr J) J ?_ dD
  rfl
 refine Ua J J <| Wn <| cH J <| Rg 1 J <| Ua J J <| Wn <| aP <| dZ ?_
 rw [if_neg (show ¬ pl = 1 by omega)]
 refine post (n := 0) (.inr J) J ?_ dD
 rfl
theorem cmpf_run (pl : Int) (a b : X) (ha : Bd 34359738368 a.1) (hb : Bd 34359738368 b.1) : Run Try.prog T E0 (.call (if pl = 1 then 205 else 119) [lvX a, lvX b] (.v (.int .i64 (sgnF pl a.1 b.1)))) := by
 unfold sgnF
 by_cases h : pl = 1
 ·rw [if_pos h, if_pos h]; exact wants1_run a b ha hb
 ·rw [if_neg h, if_neg h]; exact jM a b ha hb
end Go.Proofs.Ytcblgjaomljikaa
namespace Go.Proofs.Ytcblgjaomljikaa
open Go.Ab Go.RowKit
theorem kX (n0 : Nat) (H : Hp) (k kv : Nat) (ss : List Go.Ab.ST) (d : X) (vx : List X) (st : List Int) (pl : Int) (qs : Nat) (hnd : subsM H H) (hlt : ∀ q o, getH H q = some o → q < n0) (hq : getH H qs = some { cells := ((st).map ic).flatten, sz := 1, elem := (3), st := 0 }) (hV : VMo ss = true) (hd : Bd 2 d.1) (hl : vx.length = ss.length) (hst : st.length = ss.length) (β : Nat) (h1β : 1 ≤ β) (hβ : β ≤ 2147483648) (hv : ∀ x, x ∈ vx → Bd β x.1) : WC Try.prog T E0 Try.f177.ntmps (codeOf Try.f177) (argsEnv 0 [lvMo k ss, lvX d, .sl kv (vx.map xc), .ref qs 1 0 ss.length, .v (.int .i64 pl)]) H n0 (fun x e' h' n' => (x = .normal ∨ x = .ret) ∧ n0 ≤ n' ∧ ((resE e' T h' Try.f177.results.toList = some [.v (.bool false)] ∧ NoImp ss d.1 pl (vl vx) ∧ ∀ q o, getH H q = some o → getH h' q = some o) ∨ ∃ i j, resE e' T h' Try.f177.results.toList = some [.v (.bool true)] ∧ i < ss.length ∧ (ss.getD i default).1.1 = pl ∧ j < (ss.getD i default).2.2.length ∧ btr pl (yl d.1 (ch ss i j) (vl vx)) (vl vx i) ∧ getH h' qs = some { cells := ((st.set i (j : Int)).map ic).flatten, sz := 1, elem := (3), st := 0 } ∧ ∀ q o, q ≠ qs → getH H q = some o → getH h' q = some o)) := by
 have hV1 := fS hV
 have hn40 := hV1.wt.len
 have hql := hlt qs _ hq
 change WC _ _ _ _ _ [(0, lvMo k ss), (1, lvX d), (2, .sl kv (vx.map xc)), (3, .ref qs 1 0 ss.length), (4, .v (.int .i64 pl))] _ _ _
 refine Rg 3 J <| bB (eG J J) J <| bB (eG J J) J <| Ua J J <| Wn <| Rg 3 J <| Um J J <| aA (aK J (wants_run pl) (aQ (by intro c hc; simp only [List.mem_cons, List.not_mem_nil, or_false] at hc; rcases hc with rfl; exact .v _))) J <| Ua J J <| Wn <| aB <| Rg 4 J <| aA (bH J J J J J) J <| aA (aL J J gG J J) J ?_
 refine aA (bD J J) J <| Um J J <| Nk [2,3,4,6,11,19,20,21] J <| aI <| aX (α := Nat) (fun i => [(2, .sl kv (vx.map xc)), (3, .ref qs 1 0 ss.length), (4, .v (.int .i64 pl)), (6, .ptr (n0 + 1) 0), (11, .fn (.func (if pl = 1 then 205 else 119)) [] []), (19, .sl k (ss.map stc)), (20, .v (.int .i64 (ss.length : Int))), (21, .v (.int .i64 (i : Int)))]) (fun i => (n0 + 1, { cells := xc (d), sz := 4, elem := (114), st := 0 }) :: H) (fun i n => i ≤ ss.length ∧ (∀ a, a < i → (ss.getD a default).1.1 = pl → ∀ b, b < (ss.getD a default).2.2.length → ¬ btr pl (yl d.1 (ch ss a b) (vl vx)) (vl vx a)) ∧ n0 + 3 ≤ n) (fun i => ss.length - i) (0) ⟨J, J, J, J, J, J, J, J, trivial⟩ ⟨gG, cJ hnd (by intro q o hq'; have := hlt q o hq'; repeat (first | exact hq' | refine g1 om ?_))⟩ ⟨Nat.zero_le _, fun a ha => absurd ha om, om⟩ ?_
 rintro i n hF
 change WC _ _ _ _ _ [(2, .sl kv (vx.map xc)), (3, .ref qs 1 0 ss.length), (4, .v (.int .i64 pl)), (6, .ptr (n0 + 1) 0), (11, .fn (.func (if pl = 1 then 205 else 119)) [] []), (19, .sl k (ss.map stc)), (20, .v (.int .i64 (ss.length : Int))), (21, .v (.int .i64 (i : Int)))] ((n0 + 1, { cells := xc (d), sz := 4, elem := (114), st := 0 }) :: H) n _
 obtain ⟨hi, hA, hn⟩ := hF
 refine Rg 1 J <| aA (bU J J) J <| bE (fun h22 => ?_) (fun h22 => ?_)
 rotate_left
 ·refine Wn <| aT J <| aU <| aN <| aO J <| Rg 1 J <| Ua J J <| Wn <| aP <| ⟨.inr J, om, .inl ⟨rfl, fun a ha ho b hb => hA a om ho b hb, (by intro q o hq'; have := hlt q o hq'; repeat (first | exact hq' | refine g1 om ?_))⟩⟩
 refine Wn <| aR J <| aE <| aI ?_
 have hm := bA (us := ss) (i := i) om
 have hcl := hV1.cs _ hm
 refine Rg 6 J <| Um J J <| aA (bS J J J J J om J) J <| aA (dL (l := .agg (stc (ss.getD i default))) J J J) J <| bB (dS J) J <| Ua J J <| aZ (cO (cs' := stc (ss.getD i default)) J J J g0 J J J J) <| Wn <| aB <| Rg 4 J <| aA (bH J J J J J) J <| aA (aL J J gG J J) J ?_
 refine Um J J <| aA (dV J J) J <| bE (fun h29 => ?_) (fun h29 => ?_)
 ·refine Nk [2,3,4,6,11,12,13,19,20,21,29] J <| aR J <| aU <| aO J <| aJ (z := 2) J <| aA (cI (((i + 1 : Nat) : Int)) (aV J J om) om) J <| Um J J <| Wn <| aF <| ⟨i + 1, ⟨J, J, J, J, J, J, J, J, trivial⟩, ⟨gG, cJ hnd (by intro q o hq'; have := hlt q o hq'; repeat (first | exact hq' | refine g1 om ?_))⟩, ⟨om, fun a ha ho => ?_, om⟩, by show ss.length - (i + 1) < ss.length - i; omega⟩
  by_cases e : a = i
  ·subst e; exact absurd ho om
  ·exact hA a om ho
 refine Nk [2,3,4,6,11,12,13,19,20,21,29] J <| aT J <| aE <| Rg 4 J <| aA (bH J J J J J) J <| aA (aL J J gG J J) J ?_
 refine aA (bD J J) J <| Um J J <| Nk [2,3,4,6,11,12,19,20,21,31,32,33] J <| cN <| aX (α := Nat) (fun j => [(2, .sl kv (vx.map xc)), (3, .ref qs 1 0 ss.length), (4, .v (.int .i64 pl)), (6, .ptr (n0 + 1) 0), (11, .fn (.func (if pl = 1 then 205 else 119)) [] []), (12, .v (.int .i64 (i : Int))), (19, .sl k (ss.map stc)), (20, .v (.int .i64 (ss.length : Int))), (21, .v (.int .i64 (i : Int))), (31, .sl (ss.getD i default).2.1 ((ss.getD i default).2.2.map chc)), (32, .v (.int .i64 ((ss.getD i default).2.2.length : Int))), (33, .v (.int .i64 (j : Int)))]) (fun j => (n0 + 1, { cells := xc (d), sz := 4, elem := (114), st := 0 }) :: H) (fun j n => j ≤ (ss.getD i default).2.2.length ∧ (∀ b, b < j → ¬ btr pl (yl d.1 (ch ss i b) (vl vx)) (vl vx i)) ∧ n0 + 3 ≤ n) (fun j => (ss.getD i default).2.2.length - j) (0) ⟨J, J, J, J, J, J, J, J, J, J, J, J, trivial⟩ ⟨gG, cJ hnd (by intro q o hq'; have := hlt q o hq'; repeat (first | exact hq' | refine g1 om ?_))⟩ ⟨Nat.zero_le _, fun a ha => absurd ha om, om⟩ ?_
 rintro j n hF
 change WC _ _ _ _ _ [(2, .sl kv (vx.map xc)), (3, .ref qs 1 0 ss.length), (4, .v (.int .i64 pl)), (6, .ptr (n0 + 1) 0), (11, .fn (.func (if pl = 1 then 205 else 119)) [] []), (12, .v (.int .i64 (i : Int))), (19, .sl k (ss.map stc)), (20, .v (.int .i64 (ss.length : Int))), (21, .v (.int .i64 (i : Int))), (31, .sl (ss.getD i default).2.1 ((ss.getD i default).2.2.map chc)), (32, .v (.int .i64 ((ss.getD i default).2.2.length : Int))), (33, .v (.int .i64 (j : Int)))] ((n0 + 1, { cells := xc (d), sz := 4, elem := (114), st := 0 }) :: H) n _
 obtain ⟨hj, hB, hn2⟩ := hF
 refine Rg 1 J <| aA (bU J J) J <| bE (fun h34 => ?_) (fun h34 => ?_)
 rotate_left
 ·refine Wn <| aT J <| aU <| aN <| dO J <| aG <| aJ (z := 2) J <| aA (cI (((i + 1 : Nat) : Int)) (aV J J om) om) J <| Um J J <| Wn <| aF <| ⟨i + 1, ⟨J, J, J, J, J, J, J, J, trivial⟩, ⟨gG, cJ hnd (by intro q o hq'; have := hlt q o hq'; repeat (first | exact hq' | refine g1 om ?_))⟩, ⟨om, fun a ha ho b hb => ?_, om⟩, by show ss.length - (i + 1) < ss.length - i; omega⟩
  by_cases e : a = i
  ·subst e; exact hB b om
  ·exact hA a om ho b hb
 refine Wn <| aR J <| aE <| aI ?_
 have hmc := bA (us := (ss.getD i default).2.2) (i := j) om
 obtain ⟨hrw, hvb⟩ := eT hV hm hmc
 have hyb := xyl_bd hrw hvb hd h1β hv
 have hgb := kA h1β hv i
 refine Rg 6 J <| Um J J <| aA (bS J J J J J om J) J <| aA (dL (l := lvC ((ss.getD i default).2.2.getD j default)) J J J) J <| bB (dS J) J <| Ua J J <| aZ (cO (cs' := chc ((ss.getD i default).2.2.getD j default)) J J J g0 J J J J) <| Nk [2,3,4,6,11,12,14,15,19,20,21,31,32,33] J <| bN (z := 11) J kR <| Dm J J <| aH (aL (l := lvC ((ss.getD i default).2.2.getD j default)) J J g0 J J) J <| aH (aL (l := lvX d) J J gG J J) J ?_
 refine Dm J J <| aH (aK J (jR ((ss.getD i default).2.2.getD j default) d kv vx ss.length hrw hvb hd hl β h1β hβ hv) (aQ (by intro c hc; simp only [List.mem_cons, List.not_mem_nil, or_false] at hc; rcases hc with rfl | rfl | rfl; exact eQ; exact eQ; exact (.sl _ _ fun row hr => aW jI row hr)))) J <| Dm J J <| Dm J J <| aH (bS (j := i) J J J J om om J) J <| aH (dL (l := lvX (vx.getD i default)) J J J) J <| aH (oCallVD J J (cmpf_run pl (xyl ((ss.getD i default).2.2.getD j default) d vx) (vx.getD i default) (hyb.mono om) (hgb.mono om)) (data3 d0 (by intro c hc; simp only [List.mem_cons, List.not_mem_nil, or_false] at hc; rcases hc with rfl | rfl; exact eQ; exact eQ) d0)) J <| aH (gW J J) J <| WD.D (fun h48 => ?_) (fun h48 => ?_)
 rotate_left
 ·refine bJ (aY kR) J <| Ck [2,3,4,6,11,12,14,19,20,21,31,32,33,48] J <| cH J <| cM <| aG <| aJ (z := 2) J <| aA (cI (((j + 1 : Nat) : Int)) (aV J J om) om) J <| Um J J <| Wn <| aF <| ⟨j + 1, ⟨J, J, J, J, J, J, J, J, J, J, J, J, trivial⟩, ⟨gG, cJ hnd (by intro q o hq'; have := hlt q o hq'; repeat (first | exact hq' | refine g1 om ?_))⟩, ⟨om, fun b hb => ?_, om⟩, by show (ss.getD i default).2.2.length - (j + 1) < (ss.getD i default).2.2.length - j; omega⟩
  by_cases e : b = j
  ·subst e; exact fun hb2 => h48 (nU.2 (by rw [oF, iZ]; exact hb2))
  ·exact hB b om
 refine bJ (aY kR) J <| Ck [2,3,4,6,11,12,14,19,20,21,31,32,33,48] J <| cL J <| Rg 5 J <| Um J J <| Um J J <| Um J J <| aA (cA (j := i) J J J J om om J) J <| aZ (eC (f := ic) (us := st) (j : Int) J J J (by have := hlt qs _ hq; repeat (first | exact hq | refine g1 om ?_)) (fun _ => rfl) J J om J) ?_
 refine Nk [] J <| Rg 1 J <| Ua J J <| Wn <| aP <| aS <| bO <| dZ <| aS <| bO <| aS <| ⟨.inr J, om, .inr ⟨i, j, rfl, om, om, om, by have := nU.1 h48; rwa [oF, iZ] at this, g0, fun q o hne hq' => ?_⟩⟩
 have := hlt q o hq'
 repeat (first | exact hq' | refine g1 om ?_)
end Go.Proofs.Ytcblgjaomljikaa
