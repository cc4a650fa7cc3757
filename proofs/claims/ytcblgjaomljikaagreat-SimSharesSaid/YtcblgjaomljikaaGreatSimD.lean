/- Part D of the proof of simShares_holds: what it rests on. No condition. -/
import Derived.Test.YtcblgjaomljikaaGreatSimC
set_option linter.unusedVariables false
set_option linter.unusedSimpArgs false
set_option maxRecDepth 100000
namespace Go.Proofs.YtcblgjaomljikaaGreat
open Go.Ab Go.RowKit
theorem sub32_run (x y c : Nat) (hx : x < 4294967296) (hy : y < 4294967296) (hc : c ≤ 1) : Run Tryz.prog T E0 (.call 146 [.v (.int .u32 (x : Int)), .v (.int .u32 (y : Int)), .v (.int .u32 (c : Int))] (.tup [.v (.int .u32 ((((x + 8589934592 - y - c) % 4294967296) : Nat) : Int)), .v (.int .u32 ((if x < y + c then 1 else 0 : Nat) : Int))])) := by
 have hxy : x ^^^ y < 4294967296 := Nat.xor_lt_two_pow (n := 32) hx hy
 refine bC Tryz.func146 J J (cX J) <| Rg 2 J <| Ua J J <| Ua J J <| Wn <| Rg 6 J <| Um J J <| Um J J <| aA (oSub32 J J) J <| Um J J <| aA (cI (((((x + 8589934592 - y - c) % 4294967296) : Nat) : Int)) (oSub32 J J) om) J <| Ua J J <| Wn <| Rg 13 J <| Um J J <| aA (oCom32 (a := x) J hx) J <| Um J J <| aA (fI (v := .int .u32 (((4294967295 - x) &&& y : Nat) : Int)) J J (and32 om hy)) J <| Um J J <| Um J J <| aA (fI (v := .int .u32 ((x ^^^ y : Nat) : Int)) J J (xor32 hx hy)) J <| aA (oCom32 (a := x ^^^ y) J hxy) J <| Um J J <| aA (fI (v := .int .u32 (((4294967295 - (x ^^^ y)) &&& ((x + 8589934592 - y - c) % 4294967296) : Nat) : Int)) J J (and32 om om)) J ?_
 refine aA (fI (v := .int .u32 ((((4294967295 - x) &&& y) ||| ((4294967295 - (x ^^^ y)) &&& ((x + 8589934592 - y - c) % 4294967296)) : Nat) : Int)) J J (or32 (Nat.lt_of_le_of_lt Nat.and_le_right hy) (Nat.lt_of_le_of_lt Nat.and_le_left om))) J <| aA (cI (((if x < y + c then 1 else 0 : Nat) : Int)) (oShr32 (s := 31) J J om) (by rw [← borrow hx hy hc (d := ((x + 8589934592 - y - c) % 4294967296)) om]; rfl)) J <| Ua J J <| Nk [6,7] J <| aM ?_
 exact post (n := 0) (.inr J) J J (by simp)
theorem plus_run (k1 k2 : Nat) (xs ys : List Nat) (hx : Dg B32 xs) (hy : Dg B32 ys) (lx : xs.length < 1099511627776) (ly : ys.length < 1099511627776) : ∃ r, Run Tryz.prog T E0 (.call 126 [.sl k1 (xs.map d32), .sl k2 (ys.map d32)] r) ∧ ∃ ds, r = .sl 1 (ds.map d32) ∧ Dg B32 ds ∧ val B32 ds = val B32 xs + val B32 ys ∧ ds.length ≤ max xs.length ys.length + 1 := by
 refine gX Tryz.func126 J J (cX J) ?_
 have J3 : ∀ (k1 k2 : Nat) (us ws : List Nat) (hu : Dg B32 us) (hw : Dg B32 ws) (hle : ws.length ≤ us.length) (hm : us.length ≤ max xs.length ys.length) (hs : val B32 us + val B32 ws = val B32 xs + val B32 ys) (n : Nat) , WC Tryz.prog T E0 Tryz.f126.ntmps (codeR (codeR (codeOf Tryz.f126))) [(0, .sl k1 (us.map d32)), (1, .sl k2 (ws.map d32))] [] n (fun x e h n => ∃ r, (∃ ds, r = .sl 1 (ds.map d32) ∧ Dg B32 ds ∧ val B32 ds = val B32 xs + val B32 ys ∧ ds.length ≤ max xs.length ys.length + 1) ∧ Post T Tryz.f126.results.toList r x e h n) := by
  intro k1 k2 us ws hu hw hle hm hs n
  refine Rg 5 J <| Um J J <| aA (aX J J) J <| aA (aR J J om) J <| bD (oMk (a := 0) (b := us.length + 1) J J J J J J (by decide) om (by show 4 * (us.length + 1) ≤ _; omega) om) J <| Ua J J <| Wn <| Rg 1 J <| Ua J J <| Wn <| aB <| Rg 3 J <| Um J J <| aA (aX J J) J <| Um J J <| Wn <| aL <| bA (α := Nat × Nat × (List Nat)) (fun ⟨c, q, ds⟩ => [(0, .sl k1 (us.map d32)), (1, .sl k2 (ws.map d32)), (5, .ref q 1 0 ds.length), (6, .v (.int .u32 (c : Int))), (22, .v (.int .i64 (us.length : Int))), (23, .v (.int .i64 (ds.length : Int)))]) (fun ⟨c, q, ds⟩ => [(q, { cells := (ds.map d32).flatten, sz := 1, elem := 164, st := 0 })]) (fun ⟨c, q, ds⟩ n => ds.length ≤ us.length ∧ Dg B32 ds ∧ c ≤ 1 ∧ val B32 ds + B32 ^ ds.length * c = val B32 (us.take ds.length) + val B32 (ws.take ds.length)) (fun ⟨c, q, ds⟩ => us.length - ds.length) (0, n + 3, []) ⟨J, J, J, J, J, J, trivial⟩ ⟨g0, trivial⟩ ⟨Nat.zero_le _, by intro d hd; simp at hd, om, by simp [val]⟩ ?_
  rintro ⟨c, q, ds⟩ n hF
  change WC _ _ _ _ _ (_ :: _) (_ :: _) n _
  obtain ⟨hdl, hdd, hc, hi⟩ := hF
  refine Rg 1 J <| aA (bP J J) J <| aW (fun h24 => ?_) (fun h24 => ?_)
  rotate_left
  ·refine Wn <| aT J <| aZ <| aQ <| aS J <| Rg 5 J <| Um J J <| Um J J <| aA (cS (cs := [_]) (rows := [[_]]) J J (by decide) J J J) J <| bD (oApM (f := d32) J J J J J (fun _ => rfl) (by decide) g0 (by show (2 * (ds.length + 1) + 256) * 4 ≤ _; omega) om) J <| Ua J J <| Wn <| aM <| ⟨.sl 1 ((ds ++ [c]).map d32), ⟨_, rfl, hdd.snoc (by show c < 4294967296; omega), ?_, by simp; omega⟩, qE (n := 0) _ (.inr J) J (by simp) g0 (by show (0 : Nat) ≠ 2; decide) J (by decide) J gP dP⟩
   have hl : ds.length = us.length := by omega
   rw [eN, hi, List.take_of_length_le om, List.take_of_length_le om, hs]
  refine Wn <| aP J <| aD <| aL <| Rg 2 J <| Um J J <| Ua J J <| Wn <| Rg 1 J <| Ua J J <| Wn <| aB <| Rg 4 J <| Um J J <| Um J J <| aA (aX J J) J <| aA (bP J J) J <| aW (fun h29 => ?_) (fun h29 => ?_)
  rotate_left
  ·refine Wn <| aT J <| aD <| Rg 1 J <| Ua J J <| Nk [0,1,5,6,7,8,22,23] J ?_
   have hxl : us.getD ds.length default < 4294967296 := bH hu om
   refine Rg 12 J <| Um J J <| Um J J <| aA (bS J J J J J om J) J <| aA (dB J J J) J <| Um J J <| Um J J <| aA (aN J (jB (us.getD ds.length default) 0 c hxl (by decide) hc) (by simp)) J <| Um J J <| aA (dN J J) J <| aA (dN J J) J <| Ua J J <| Ua J J <| Nk [0,1,5,6,9,22,23] J <| aH (z := 5) J <| Um J J <| Um J J <| aA (cS (cs := [_]) (rows := [[_]]) J J (by decide) J J J) J <| bD (oApM (f := d32) J J J J J (fun _ => rfl) (by decide) g0 (by show (2 * (ds.length + 1) + 256) * 4 ≤ _; omega) om) J <| Ua J J <| Wn <| aF <| aH (z := 2) J ?_
   refine aA (cI (((ds.length + 1 : Nat) : Int)) (aR J J om) om) J <| Um J J <| Wn <| aG <| ⟨⟨_, _, ds ++ [_]⟩, ⟨rfl, rfl, rfl, rfl, rfl, congrArg some (by simp), trivial⟩, ⟨g0, trivial⟩, ⟨by simp; omega, hdd.snoc (Nat.mod_lt _ (by decide)), om, oQ hi J (dE om).symm⟩, by simp; omega⟩
  refine Wn <| aP J <| Rg 5 J <| Um J J <| Um J J <| aA (bS J J J J J om J) J <| aA (dB J J J) J <| Ua J J <| Nk [0,1,5,6,7,8,22,23] J <| Rg 1 J <| Ua J J <| cR ?_
  have hxl : us.getD ds.length default < 4294967296 := bH hu om
  have hyl : ws.getD ds.length default < 4294967296 := bH hw om
  refine Rg 12 J <| Um J J <| Um J J <| aA (bS J J J J J om J) J <| aA (dB J J J) J <| Um J J <| Um J J <| aA (aN J (jB (us.getD ds.length default) (ws.getD ds.length default) c hxl hyl hc) (by simp)) J <| Um J J <| aA (dN J J) J <| aA (dN J J) J <| Ua J J <| Ua J J <| Nk [0,1,5,6,9,22,23] J <| aH (z := 5) J <| Um J J <| Um J J <| aA (cS (cs := [_]) (rows := [[_]]) J J (by decide) J J J) J <| bD (oApM (f := d32) J J J J J (fun _ => rfl) (by decide) g0 (by show (2 * (ds.length + 1) + 256) * 4 ≤ _; omega) om) J <| Ua J J <| Wn <| aF <| aH (z := 2) J ?_
  refine aA (cI (((ds.length + 1 : Nat) : Int)) (aR J J om) om) J <| Um J J <| Wn <| aG <| ⟨⟨_, _, ds ++ [_]⟩, ⟨rfl, rfl, rfl, rfl, rfl, congrArg some (by simp), trivial⟩, ⟨g0, trivial⟩, ⟨by simp; omega, hdd.snoc (Nat.mod_lt _ (by decide)), om, oQ hi J J⟩, by simp; omega⟩
 refine Rg 1 J <| Ua J J <| Wn <| aB <| Rg 5 J <| Um J J <| aA (aX J J) J <| Um J J <| aA (aX J J) J <| aA (bP J J) J <| aW (fun h14 => ?_) (fun h14 => ?_)
 rotate_left
 ·refine Wn <| aT J <| aD <| Ck [0,1] J ?_
  exact J3 _ _ xs ys hx hy om om J _
 refine Wn <| aP J <| Rg 4 J <| Um J J <| Um J J <| Ua J J <| Ua J J <| Nk [0,1] J ?_
 exact J3 _ _ ys xs hy hx om om om _
theorem lJ (k1 k2 : Nat) (xs ys : List Nat) (hx : Dg B32 xs) (hy : Dg B32 ys) (lx : xs.length < 1099511627776) (hle : ys.length ≤ xs.length) (hv : val B32 ys ≤ val B32 xs) : ∃ r, Run Tryz.prog T E0 (.call 128 [.sl k1 (xs.map d32), .sl k2 (ys.map d32)] r) ∧ ∃ ds, r = .sl 1 (ds.map d32) ∧ Dg B32 ds ∧ val B32 ds = val B32 xs - val B32 ys ∧ ds.length = xs.length := by
 refine gX Tryz.func128 J J (cX J) <| Rg 1 J <| Ua J J <| Wn <| Rg 4 J <| Um J J <| aA (aX J J) J <| bD (oMk (a := 0) (b := xs.length) J J J J J J (by decide) om (by show 4 * xs.length ≤ _; omega) om) J <| Ua J J <| Wn <| Rg 1 J <| Ua J J <| Wn <| aB <| Rg 3 J <| Um J J <| aA (aX J J) J <| Um J J <| Wn <| aL <| bA (α := Nat × Nat × (List Nat)) (fun ⟨c, q, ds⟩ => [(0, .sl k1 (xs.map d32)), (1, .sl k2 (ys.map d32)), (5, .ref q 1 0 ds.length), (6, .v (.int .u32 (c : Int))), (14, .v (.int .i64 (xs.length : Int))), (15, .v (.int .i64 (ds.length : Int)))]) (fun ⟨c, q, ds⟩ => [(q, { cells := (ds.map d32).flatten, sz := 1, elem := 164, st := 0 })]) (fun ⟨c, q, ds⟩ n => ds.length ≤ xs.length ∧ Dg B32 ds ∧ c ≤ 1 ∧ val B32 (xs.take ds.length) + B32 ^ ds.length * c = val B32 ds + val B32 (ys.take ds.length)) (fun ⟨c, q, ds⟩ => xs.length - ds.length) (0, 0 + 1 + 2, []) ⟨J, J, J, J, J, J, trivial⟩ ⟨g0, trivial⟩ ⟨Nat.zero_le _, by intro d hd; simp at hd, om, by simp [val]⟩ ?_
 rintro ⟨c, q, ds⟩ n hF
 change WC _ _ _ _ _ (_ :: _) (_ :: _) n _
 obtain ⟨hdl, hdd, hc, hi⟩ := hF
 refine Rg 1 J <| aA (bP J J) J <| aW (fun h16 => ?_) (fun h16 => ?_)
 rotate_left
 ·refine Wn <| aT J <| aZ <| aQ <| aS J <| Rg 2 J <| Um J J <| Ua J J <| Wn <| aM <| ⟨.sl 1 (ds.map d32), ⟨_, rfl, hdd, ?_, om⟩, qE (n := 0) _ (.inr J) J (by simp) g0 (by show (0 : Nat) ≠ 2; decide) J (by decide) J gP dP⟩
  have hl : ds.length = xs.length := by omega
  rw [List.take_of_length_le om, List.take_of_length_le om] at hi
  have hlt := dL (B := B32) (by decide) hdd
  rcases (show c = 0 ∨ c = 1 by omega) with rfl | rfl
  ·omega
  ·omega
 refine Wn <| aP J <| aD <| aL <| Rg 2 J <| Um J J <| Ua J J <| Wn <| Rg 1 J <| Ua J J <| Wn <| aB <| Rg 4 J <| Um J J <| Um J J <| aA (aX J J) J <| aA (bP J J) J <| aW (fun h21 => ?_) (fun h21 => ?_)
 rotate_left
 ·refine Wn <| aT J <| aD <| Rg 1 J <| Ua J J <| Nk [0,1,5,6,7,8,14,15] J ?_
  have hxl : xs.getD ds.length default < 4294967296 := bH hx om
  refine Rg 12 J <| Um J J <| Um J J <| aA (bS J J J J J om J) J <| aA (dB J J J) J <| Um J J <| Um J J <| aA (aN J (sub32_run (xs.getD ds.length default) 0 c hxl (by decide) hc) (by simp)) J <| Um J J <| aA (dN J J) J <| aA (dN J J) J <| Ua J J <| Ua J J <| Nk [0,1,5,6,9,14,15] J <| aH (z := 5) J <| Um J J <| Um J J <| aA (cS (cs := [_]) (rows := [[_]]) J J (by decide) J J J) J <| bD (oApM (f := d32) J J J J J (fun _ => rfl) (by decide) g0 (by show (2 * (ds.length + 1) + 256) * 4 ≤ _; omega) om) J <| Ua J J <| Wn <| aF <| aH (z := 2) J ?_
  refine aA (cI (((ds.length + 1 : Nat) : Int)) (aR J J om) om) J <| Um J J <| Wn <| aG <| ⟨⟨_, _, ds ++ [_]⟩, ⟨rfl, rfl, rfl, rfl, rfl, congrArg some (by simp), trivial⟩, ⟨g0, trivial⟩, ⟨by simp; omega, hdd.snoc (Nat.mod_lt _ (by decide)), by split <;> omega, jT hi J (dE om).symm (by show _ = _ + 4294967296 * _; split <;> omega)⟩, by simp; omega⟩
 refine Wn <| aP J <| Rg 5 J <| Um J J <| Um J J <| aA (bS J J J J J om J) J <| aA (dB J J J) J <| Ua J J <| Nk [0,1,5,6,7,8,14,15] J <| Rg 1 J <| Ua J J <| cR ?_
 have hxl : xs.getD ds.length default < 4294967296 := bH hx om
 have hyl : ys.getD ds.length default < 4294967296 := bH hy om
 refine Rg 12 J <| Um J J <| Um J J <| aA (bS J J J J J om J) J <| aA (dB J J J) J <| Um J J <| Um J J <| aA (aN J (sub32_run (xs.getD ds.length default) (ys.getD ds.length default) c hxl hyl hc) (by simp)) J <| Um J J <| aA (dN J J) J <| aA (dN J J) J <| Ua J J <| Ua J J <| Nk [0,1,5,6,9,14,15] J <| aH (z := 5) J <| Um J J <| Um J J <| aA (cS (cs := [_]) (rows := [[_]]) J J (by decide) J J J) J <| bD (oApM (f := d32) J J J J J (fun _ => rfl) (by decide) g0 (by show (2 * (ds.length + 1) + 256) * 4 ≤ _; omega) om) J <| Ua J J <| Wn <| aF <| aH (z := 2) J ?_
 refine aA (cI (((ds.length + 1 : Nat) : Int)) (aR J J om) om) J <| Um J J <| Wn <| aG <| ⟨⟨_, _, ds ++ [_]⟩, ⟨rfl, rfl, rfl, rfl, rfl, congrArg some (by simp), trivial⟩, ⟨g0, trivial⟩, ⟨by simp; omega, hdd.snoc (Nat.mod_lt _ (by decide)), by split <;> omega, jT hi J J (by show _ = _ + 4294967296 * _; split <;> omega)⟩, by simp; omega⟩
theorem eX (s : Int) (k : Nat) (ds : List Nat) (hs : s = 1 ∨ s = -1 ∨ s = 0 ∧ val B32 ds = 0) (hk : k = 1 ∨ k = 2) (hd : Dg B32 ds) (hl : ds.length < 4611686018427387904) : Run Tryz.prog T E0 (.call 125 [.v (.int .i64 s), .sl k (ds.map d32)] (lvI (s * val B32 ds))) := by
 have hkk : (if k = 0 then 0 else 1) = 1 := by rw [if_neg om]
 have htd := lV hd
 have hrun := lF k ds om hl
 rw [hkk] at hrun
 have htl : (trim ds).length ≤ ds.length := by
  unfold trim; simpa using (List.dropWhile_sublist (· == 0) (l := ds.reverse)).length_le
 generalize hes : trim ds = es at *
 refine bC Tryz.func125 J J (cX J) <| Rg 1 J <| bD (dX J) J <| Wn <| Rg 3 J <| Um J J <| aA (aN J (hrun) (by simp)) J <| Ua J J <| Wn <| aB <| Rg 3 J <| Um J J <| aA (aX J J) J <| aA (mO J J) J <| aW (fun h12 => ?_) (fun h12 => ?_)
 rotate_left
 ·refine Wn <| aT J <| aD <| Rg 4 J <| Um J J <| Um J J <| aA (fH (cs := [_, _]) J J J J J) J <| aY (cH (cs' := [_, _]) J J J J J J J J) <| Wn <| aM <| post (n := 0) (.inr J) J ?_ (by simp)
  have hb := val_big hd (by rw [hes]; omega)
  rw [lvI_made hd (by have : val B32 ds = val 4294967296 ds := rfl; omega) hb, hes]; rfl
 refine Wn <| aP J <| aB <| Rg 1 J <| Ua J J <| Wn <| aB <| aB <| Rg 3 J <| Um J J <| aA (aX J J) J <| Um J J <| Wn <| aL <| bA (α := Nat × Nat) (fun ⟨i, m⟩ => [(0, .v (.int .i64 s)), (1, .sl 1 (es.map d32)), (4, .ptr 0 0), (5, .v (.int .u64 (m : Int))), (13, .sl 1 (es.map d32)), (14, .v (.int .i64 (es.length : Int))), (15, .v (.int .i64 (i : Int)))]) (fun ⟨i, m⟩ => [(0, { cells := [.v (.int .i64 0), .sl 0 []], sz := 2, elem := 101, st := 0 })]) (fun ⟨i, m⟩ n => i ≤ es.length ∧ m = val B32 (es.take i)) (fun ⟨i, m⟩ => es.length - i) (0, 0) ⟨J, J, J, J, J, J, J, trivial⟩ ⟨J, trivial⟩ ⟨Nat.zero_le _, by simp [val]⟩ ?_
 rintro ⟨i, m⟩ n hF
 change WC _ _ _ _ _ (_ :: _) (_ :: _) n _
 obtain ⟨hi, hm⟩ := hF
 refine Rg 1 J <| aA (bP J J) J <| aW (fun h16 => ?_) (fun h16 => ?_)
 ·refine Wn <| aP J <| aD <| aL <| Rg 5 J <| Um J J <| aA (bS J J J J J om J) J <| aA (dB J J J) J <| Ua J J <| Ua J J <| cR ?_
  have hxl : es.getD i default < 4294967296 := bH htd om
  have hml : m < 4294967296 ^ i := by
   have := dL (B := 4294967296) (by decide) (htd.take i)
   rw [List.length_take, Nat.min_eq_left hi] at this
   rw [hm]; exact this
  refine aH (z := 8) J <| Um J J <| Um J J <| aA (cI (((es.getD i default : Nat) : Int)) (cK J J J) (by rw [IntKind.wrap_u64]; omega)) J <| Um J J <| aA (cI (((32 * i : Nat) : Int)) (eS J J om) om) J <| aA (cI (((es.getD i default * 4294967296 ^ i : Nat) : Int)) (oShlU (s := 32 * i) J J om) (shl_dig om hxl)) J <| aA (fI (v := .int .u64 ((m + 4294967296 ^ i * es.getD i default : Nat) : Int)) J J (or_dig om hxl hml)) J <| Ua J J <| Wn <| aF <| Ck [0,1,4,5,13,14,15] J <| aH (z := 2) J <| aA (cI (((i + 1 : Nat) : Int)) (aR J J om) om) J <| Um J J <| Wn <| aG <| ⟨⟨i + 1, _⟩, ⟨J, J, J, J, J, J, J, trivial⟩, ⟨J, trivial⟩, ⟨om, ?_⟩, by show es.length - (i + 1) < es.length - i; omega⟩
  rw [cL, hm]
 refine Wn <| aT J <| aZ <| aQ <| aS J <| aB <| Rg 2 J <| Um J J <| aA (bP J J) J <| aW (fun h29 => ?_) (fun h29 => ?_)
 rotate_left
 ·refine Wn <| aT J <| aD <| Rg 4 J <| Um J J <| Um J J <| aA (fH (cs := [_, _]) J J J J J) J <| aY (cH (cs' := [_, _]) J J J J J J J J) <| Wn <| aM ?_
  have hE : m = val B32 ds := by
   rw [hm, List.take_of_length_le om, ← hes, fZ]
  refine post (n := 0) (.inr J) J ?_ (by simp)
  rw [lvI_made hd om (by show 4611686018427387904 ≤ val B32 ds; omega), hes]; rfl
 refine Wn <| aP J <| aB <| Rg 6 J <| Um J J <| Um J J <| aA (cI ((m : Int)) (cK J J J) (by rw [IntWalk.i64_in _ om])) J <| aA (eS J J (by rcases hs with rfl | rfl | ⟨rfl, _⟩ <;> omega)) J <| aA (fH (cs := [_, _]) J J J J J) J <| aY (cH (cs' := [_, _]) J J J J J J J J) <| Nk [4] J <| aU ?_
 have hE : m = val B32 ds := by
  rw [hm, List.take_of_length_le om, ← hes, fZ]
 refine post (n := 0) (.inr J) J ?_ (by simp)
 rw [jC (by unfold small; rw [← hE]; rcases hs with rfl | rfl | ⟨rfl, _⟩ <;> omega), ← hE]; rfl
end Go.Proofs.YtcblgjaomljikaaGreat
namespace Go.Proofs.YtcblgjaomljikaaGreat
open Go.Ab Go.RowKit
theorem ia0 {v : Int} (h : v.sign = 0) : v = 0 := Int.sign_eq_zero_iff_zero.1 h
theorem pS (v w : Int) (hv : len32 v < 1099511627775) (hw : len32 w < 1099511627775) : Run Tryz.prog T E0 (.call 82 [lvI v, lvI w] (lvI (v + w))) := by
 have bv := pA v
 have bw := pA w
 have ev := eK v
 have ew := eK w
 have dv := gD (B := B32) (by decide) v.natAbs
 have dw := gD (B := B32) (by decide) w.natAbs
 have qv := jO (B := B32) (by decide) v.natAbs
 have qw := jO (B := B32) (by decide) w.natAbs
 have tv := dgs_tr (B := B32) (by decide) v.natAbs
 have tw := dgs_tr (B := B32) (by decide) w.natAbs
 have lv : (dgs B32 v.natAbs).length < 1099511627775 := hv
 have lw : (dgs B32 w.natAbs).length < 1099511627775 := hw
 refine bC Tryz.func82 J J (cX J) <| Rg 3 J <| bD (dY J J) J <| bD (dY J J) J <| bD (dX J) J <| Wn <| aB <| Rg 8 J <| aA (bB J J J J J) J <| aA (aO J J J J J) J <| aA (rF J J) J <| dC (fun h11 => ?_) (fun h11 => ?_)
 rotate_left
 ·refine Um J J <| K1 J J <| K1 J J <| K1 J J <| aA (bF J J) J <| Wn <| aT J <| aD <| Rg 7 J <| aA (aO (l := .agg [_, _]) J J J J J) J <| aA (aN J (eV _) (by simp)) J <| Um J J <| aA (dN J J) J <| aA (dN J J) J <| Ua J J <| Ua J J <| Nk [2,3,4,5,6] J <| Rg 7 J <| aA (aO (l := .agg [_, _]) J J J J J) J <| aA (aN J (eV _) (by simp)) J <| Um J J <| aA (dN J J) J <| aA (dN J J) J ?_
  refine Ua J J <| Ua J J <| Wn <| aL <| Rg 3 J <| Um J J <| aA (eR J J) J <| aW (fun h35 => ?_) (fun h35 => ?_)
  ·refine Ua J J <| Nk [2,3,4,5,6,7,8,33] J <| bU J <| Rg 2 J <| aA (aO (l := .agg [_, _]) J J J J J) J <| aY (cH (cs' := [_, _]) J J J J J J J J) <| Wn <| aM <| aK <| post (n := 0) (.inr J) J ?_ (by simp)
   rw [ia0 h35, Int.zero_add]; rfl
  refine Ua J J <| Nk [2,3,4,5,6,7,8,33] J <| bZ J <| Rg 3 J <| Um J J <| aA (eR J J) J <| aW (fun h39 => ?_) (fun h39 => ?_)
  ·refine Ua J J <| Wn <| bU J <| Rg 2 J <| aA (aO (l := .agg [_, _]) J J J J J) J <| aY (cH (cs' := [_, _]) J J J J J J J J) <| Wn <| aM <| aK <| post (n := 0) (.inr J) J ?_ (by simp)
   rw [ia0 h39, Int.add_zero]; rfl
  refine Ua J J <| Wn <| bZ J <| Rg 4 J <| Um J J <| Um J J <| aA (eR J J) J <| aW (fun h44 => ?_) (fun h44 => ?_)
  ·refine Ua J J <| Nk [4,5,6,7,8,41] J <| bU J ?_
   have hsv : v.sign = 1 ∨ v.sign = -1 := by rcases Int.sign_trichotomy v with h | h | h <;> omega
   obtain ⟨r, hr, ds, rfl, hdd, hvl, hln⟩ := plus_run 1 1 _ _ qv qw om om
   refine Rg 6 J <| Um J J <| Um J J <| Um J J <| aA (aN J (hr) (by simp)) J <| aA (aN J (eX v.sign 1 ds om (.inl J) hdd om) (by simp)) J <| aY (cH (cs' := [_, _]) J J J J J J J J) <| Wn <| aM <| aK <| post (n := 0) (.inr J) J ?_ (by simp)
   have : v.sign * (val B32 ds : Int) = v + w := by
    rw [hvl, dv, dw]; rcases hsv with h | h <;> rw [h] at ev h44 ⊢ <;> rw [← h44] at ew <;> omega
   rw [this]; rfl
  refine Ua J J <| Nk [4,5,6,7,8,41] J <| bZ J <| Rg 5 J <| Um J J <| Um J J <| aA (aN J (kI 1 1 _ _ qv qw tv tw om om) (by simp)) J <| aA (fJ J J) J <| aW (fun h54 => ?_) (fun h54 => ?_)
  ·refine Ua J J <| Wn <| bU J ?_
   have hsv : v.sign = 1 ∨ v.sign = -1 := by rcases Int.sign_trichotomy v with h | h | h <;> omega
   have hge : val B32 (dgs B32 w.natAbs) ≤ val B32 (dgs B32 v.natAbs) := by
    rcases Nat.lt_or_ge (val B32 (dgs B32 v.natAbs)) (val B32 (dgs B32 w.natAbs)) with h | h
    ·rw [Int.sign_eq_neg_one_of_neg om] at h54; omega
    ·exact h
   have hll : (dgs B32 w.natAbs).length ≤ (dgs B32 v.natAbs).length := by
    rcases Nat.lt_or_ge (dgs B32 v.natAbs).length (dgs B32 w.natAbs).length with h | h
    ·have := dM (by decide) qv tw h; omega
    ·exact h
   obtain ⟨r, hr, ds, rfl, hdd, hvl, hln⟩ := lJ 1 1 _ _ qv qw om hll hge
   refine Rg 6 J <| Um J J <| Um J J <| Um J J <| aA (aN J (hr) (by simp)) J <| aA (aN J (eX v.sign 1 ds om (.inl J) hdd om) (by simp)) J <| aY (cH (cs' := [_, _]) J J J J J J J J) <| Nk [4] J <| aM <| aK <| post (n := 0) (.inr J) J ?_ (by simp)
   have : v.sign * (val B32 ds : Int) = v + w := by
    rw [hvl, dv, dw] at *; rcases hsv with h | h <;> rw [h] at ev h44 ⊢ <;> rcases (show w.sign = 1 ∨ w.sign = -1 by rcases Int.sign_trichotomy w with h | h | h <;> omega) with k | k <;> rw [k] at ew h44 <;> omega
   rw [this]; rfl
  refine Ua J J <| Wn <| bZ J <| cE <| aF ?_
  have hsv : w.sign = 1 ∨ w.sign = -1 := by rcases Int.sign_trichotomy w with h | h | h <;> omega
  have hge : val B32 (dgs B32 v.natAbs) ≤ val B32 (dgs B32 w.natAbs) := by
   rcases Nat.lt_or_ge (val B32 (dgs B32 w.natAbs)) (val B32 (dgs B32 v.natAbs)) with h | h
   ·rw [Int.sign_eq_one_of_pos om] at h54; omega
   ·exact h
  have hll : (dgs B32 v.natAbs).length ≤ (dgs B32 w.natAbs).length := by
   rcases Nat.lt_or_ge (dgs B32 w.natAbs).length (dgs B32 v.natAbs).length with h | h
   ·have := dM (by decide) qw tv h; omega
   ·exact h
  obtain ⟨r, hr, ds, rfl, hdd, hvl, hln⟩ := lJ 1 1 _ _ qw qv om hll hge
  refine Rg 6 J <| Um J J <| Um J J <| Um J J <| aA (aN J (hr) (by simp)) J <| aA (aN J (eX w.sign 1 ds om (.inl J) hdd om) (by simp)) J <| aY (cH (cs' := [_, _]) J J J J J J J J) <| Nk [4] J <| aM <| post (n := 0) (.inr J) J ?_ (by simp)
  have : w.sign * (val B32 ds : Int) = v + w := by
   rw [hvl, dv, dw] at *; rcases hsv with h | h <;> rw [h] at ew h44 ⊢ <;> rcases (show v.sign = 1 ∨ v.sign = -1 by rcases Int.sign_trichotomy v with h | h | h <;> omega) with k | k <;> rw [k] at ev h44 <;> omega
  rw [this]; rfl
 refine Um J J <| aE J (bB J J J J J) J <| aE J (aO J J J J J) J <| aE J (rF J J) J <| dC (fun h15 => ?_) (fun h15 => ?_)
 ·refine aA (bG J J) J <| Wn <| aP J <| aB <| Rg 7 J <| aA (bB J J J J J) J <| aA (aO J J J J J) J <| aA (bB J J J J J) J <| aA (aO J J J J J) J <| aA (aR J J om) J <| aA (aN J (jW _ om) (by simp)) J <| aY (cH (cs' := [_, _]) J J J J J J J J) <| Nk [4] J <| aU <| post (n := 0) (.inr J) J ?_ (by simp)
  rw [dJ (pB.1 h11), dJ (pB.1 h15)]; rfl
 refine aA (bG J J) J <| Wn <| aT J <| aD <| Rg 7 J <| aA (aO (l := .agg [_, _]) J J J J J) J <| aA (aN J (eV _) (by simp)) J <| Um J J <| aA (dN J J) J <| aA (dN J J) J <| Ua J J <| Ua J J <| Nk [2,3,4,5,6] J <| Rg 7 J <| aA (aO (l := .agg [_, _]) J J J J J) J <| aA (aN J (eV _) (by simp)) J <| Um J J <| aA (dN J J) J <| aA (dN J J) J <| Ua J J <| Ua J J <| Wn <| aL ?_
 refine Rg 3 J <| Um J J <| aA (eR J J) J <| aW (fun h35 => ?_) (fun h35 => ?_)
 ·refine Ua J J <| Nk [2,3,4,5,6,7,8,33] J <| bU J <| Rg 2 J <| aA (aO (l := .agg [_, _]) J J J J J) J <| aY (cH (cs' := [_, _]) J J J J J J J J) <| Wn <| aM <| aK <| post (n := 0) (.inr J) J ?_ (by simp)
  rw [ia0 h35, Int.zero_add]; rfl
 refine Ua J J <| Nk [2,3,4,5,6,7,8,33] J <| bZ J <| Rg 3 J <| Um J J <| aA (eR J J) J <| aW (fun h39 => ?_) (fun h39 => ?_)
 ·refine Ua J J <| Wn <| bU J <| Rg 2 J <| aA (aO (l := .agg [_, _]) J J J J J) J <| aY (cH (cs' := [_, _]) J J J J J J J J) <| Wn <| aM <| aK <| post (n := 0) (.inr J) J ?_ (by simp)
  rw [ia0 h39, Int.add_zero]; rfl
 refine Ua J J <| Wn <| bZ J <| Rg 4 J <| Um J J <| Um J J <| aA (eR J J) J <| aW (fun h44 => ?_) (fun h44 => ?_)
 ·refine Ua J J <| Nk [4,5,6,7,8,41] J <| bU J ?_
  have hsv : v.sign = 1 ∨ v.sign = -1 := by rcases Int.sign_trichotomy v with h | h | h <;> omega
  obtain ⟨r, hr, ds, rfl, hdd, hvl, hln⟩ := plus_run 1 1 _ _ qv qw om om
  refine Rg 6 J <| Um J J <| Um J J <| Um J J <| aA (aN J (hr) (by simp)) J <| aA (aN J (eX v.sign 1 ds om (.inl J) hdd om) (by simp)) J <| aY (cH (cs' := [_, _]) J J J J J J J J) <| Wn <| aM <| aK <| post (n := 0) (.inr J) J ?_ (by simp)
  have : v.sign * (val B32 ds : Int) = v + w := by
   rw [hvl, dv, dw]; rcases hsv with h | h <;> rw [h] at ev h44 ⊢ <;> rw [← h44] at ew <;> omega
  rw [this]; rfl
 refine Ua J J <| Nk [4,5,6,7,8,41] J <| bZ J <| Rg 5 J <| Um J J <| Um J J <| aA (aN J (kI 1 1 _ _ qv qw tv tw om om) (by simp)) J <| aA (fJ J J) J <| aW (fun h54 => ?_) (fun h54 => ?_)
 ·refine Ua J J <| Wn <| bU J ?_
  have hsv : v.sign = 1 ∨ v.sign = -1 := by rcases Int.sign_trichotomy v with h | h | h <;> omega
  have hge : val B32 (dgs B32 w.natAbs) ≤ val B32 (dgs B32 v.natAbs) := by
   rcases Nat.lt_or_ge (val B32 (dgs B32 v.natAbs)) (val B32 (dgs B32 w.natAbs)) with h | h
   ·rw [Int.sign_eq_neg_one_of_neg om] at h54; omega
   ·exact h
  have hll : (dgs B32 w.natAbs).length ≤ (dgs B32 v.natAbs).length := by
   rcases Nat.lt_or_ge (dgs B32 v.natAbs).length (dgs B32 w.natAbs).length with h | h
   ·have := dM (by decide) qv tw h; omega
   ·exact h
  obtain ⟨r, hr, ds, rfl, hdd, hvl, hln⟩ := lJ 1 1 _ _ qv qw om hll hge
  refine Rg 6 J <| Um J J <| Um J J <| Um J J <| aA (aN J (hr) (by simp)) J <| aA (aN J (eX v.sign 1 ds om (.inl J) hdd om) (by simp)) J <| aY (cH (cs' := [_, _]) J J J J J J J J) <| Nk [4] J <| aM <| aK <| post (n := 0) (.inr J) J ?_ (by simp)
  have : v.sign * (val B32 ds : Int) = v + w := by
   rw [hvl, dv, dw] at *; rcases hsv with h | h <;> rw [h] at ev h44 ⊢ <;> rcases (show w.sign = 1 ∨ w.sign = -1 by rcases Int.sign_trichotomy w with h | h | h <;> omega) with k | k <;> rw [k] at ew h44 <;> omega
  rw [this]; rfl
 refine Ua J J <| Wn <| bZ J <| cE <| aF ?_
 have hsv : w.sign = 1 ∨ w.sign = -1 := by rcases Int.sign_trichotomy w with h | h | h <;> omega
 have hge : val B32 (dgs B32 v.natAbs) ≤ val B32 (dgs B32 w.natAbs) := by
  rcases Nat.lt_or_ge (val B32 (dgs B32 w.natAbs)) (val B32 (dgs B32 v.natAbs)) with h | h
  ·rw [Int.sign_eq_one_of_pos om] at h54; omega
  ·exact h
 have hll : (dgs B32 v.natAbs).length ≤ (dgs B32 w.natAbs).length := by
  rcases Nat.lt_or_ge (dgs B32 w.natAbs).length (dgs B32 v.natAbs).length with h | h
  ·have := dM (by decide) qw tv h; omega
  ·exact h
 obtain ⟨r, hr, ds, rfl, hdd, hvl, hln⟩ := lJ 1 1 _ _ qw qv om hll hge
 refine Rg 6 J <| Um J J <| Um J J <| Um J J <| aA (aN J (hr) (by simp)) J <| aA (aN J (eX w.sign 1 ds om (.inl J) hdd om) (by simp)) J <| aY (cH (cs' := [_, _]) J J J J J J J J) <| Nk [4] J <| aM <| post (n := 0) (.inr J) J ?_ (by simp)
 have : w.sign * (val B32 ds : Int) = v + w := by
  rw [hvl, dv, dw] at *; rcases hsv with h | h <;> rw [h] at ew h44 ⊢ <;> rcases (show v.sign = 1 ∨ v.sign = -1 by rcases Int.sign_trichotomy v with h | h | h <;> omega) with k | k <;> rw [k] at ev h44 <;> omega
 rw [this]; rfl
end Go.Proofs.YtcblgjaomljikaaGreat
namespace Go.Proofs.YtcblgjaomljikaaGreat
open Go.Ab Go.RowKit
theorem mul64_run (x y : Nat) (hx : x < 18446744073709551616) (hy : y < 18446744073709551616) : Run Tryz.prog T E0 (.call 129 [.v (.int .u64 (x : Int)), .v (.int .u64 (y : Int))] (.tup [.v (.int .u64 ((x * y / 18446744073709551616 : Nat) : Int)), .v (.int .u64 ((x * y % 18446744073709551616 : Nat) : Int))])) := by
 obtain ⟨p00, h00⟩ : ∃ p, p = (x % 4294967296) * (y % 4294967296) := ⟨_, rfl⟩
 obtain ⟨p10, h10⟩ : ∃ p, p = (x / 4294967296) * (y % 4294967296) := ⟨_, rfl⟩
 obtain ⟨p01, h01⟩ : ∃ p, p = (x % 4294967296) * (y / 4294967296) := ⟨_, rfl⟩
 obtain ⟨p11, h11⟩ : ∃ p, p = (x / 4294967296) * (y / 4294967296) := ⟨_, rfl⟩
 have b00 := gY (a := x % 4294967296) (b := y % 4294967296) om om
 have b10 := gY (a := x / 4294967296) (b := y % 4294967296) om om
 have b01 := gY (a := x % 4294967296) (b := y / 4294967296) om om
 have b11 := gY (a := x / 4294967296) (b := y / 4294967296) om om
 have hxy := mul_words h00 h10 h01 h11
 rw [← h00] at b00
 rw [← h10] at b10
 rw [← h01] at b01
 rw [← h11] at b11
 refine bC Tryz.func129 J J (cX J) <| Rg 2 J <| Ua J J <| Ua J J <| Wn <| Rg 3 J <| Um J J <| aA (fI (v := .int .u64 ((x % 4294967296 : Nat) : Int)) J J (mask32 hx)) J <| Ua J J <| Wn <| Rg 3 J <| Um J J <| aA (cI (((x / 4294967296 : Nat) : Int)) (eM (s := 32) J J om) om) J <| Ua J J <| Wn <| Rg 3 J <| Um J J <| aA (fI (v := .int .u64 ((y % 4294967296 : Nat) : Int)) J J (mask32 hy)) J <| Ua J J <| Wn <| Rg 3 J <| Um J J <| aA (cI (((y / 4294967296 : Nat) : Int)) (eM (s := 32) J J om) om) J <| Ua J J ?_
 refine Nk [0,1,6,7,8,9] J <| Rg 4 J <| Um J J <| Um J J <| aA (cI ((p00 : Int)) (mF J J) (by rw [← Int.natCast_mul, ← h00]; omega)) J <| Ua J J <| Wn <| Rg 7 J <| Um J J <| Um J J <| aA (cI ((p10 : Int)) (mF J J) (by rw [← Int.natCast_mul, ← h10]; omega)) J <| Um J J <| aA (cI (((p00 / 4294967296 : Nat) : Int)) (eM (s := 32) J J om) om) J <| aA (cI (((p10 + p00 / 4294967296 : Nat) : Int)) (jD J J) om) J <| Ua J J <| Nk [0,1,6,7,9,11] J <| Rg 3 J <| Um J J <| aA (fI (v := .int .u64 (((p10 + p00 / 4294967296) % 4294967296 : Nat) : Int)) J J (mask32 om)) J <| Ua J J <| Wn <| Rg 3 J ?_
 refine Um J J <| aA (cI ((((p10 + p00 / 4294967296) / 4294967296 : Nat) : Int)) (eM (s := 32) J J om) om) J <| Ua J J <| Wn <| Rg 6 J <| Um J J <| Um J J <| Um J J <| aA (cI ((p01 : Int)) (mF J J) (by rw [← Int.natCast_mul, ← h01]; omega)) J <| aA (cI ((((p10 + p00 / 4294967296) % 4294967296 + p01 : Nat) : Int)) (jD J J) om) J <| Ua J J <| Nk [0,1,7,9,12,13] J <| Rg 9 J <| Um J J <| Um J J <| aA (cI ((p11 : Int)) (mF J J) (by rw [← Int.natCast_mul, ← h11]; omega)) J <| Um J J <| aA (cI (((p11 + (p10 + p00 / 4294967296) / 4294967296 : Nat) : Int)) (jD J J) om) J <| Um J J <| aA (cI (((((p10 + p00 / 4294967296) % 4294967296 + p01) / 4294967296 : Nat) : Int)) (eM (s := 32) J J om) om) J <| aA (cI (((x * y / 18446744073709551616 : Nat) : Int)) (jD J J) (by rw [hxy]; omega)) J <| Ua J J <| cR ?_
 refine Ck [0,1,4] J <| Rg 4 J <| Um J J <| Um J J <| aA (cI (((x * y % 18446744073709551616 : Nat) : Int)) (mF J J) (by rw [← Int.natCast_mul]; rfl)) J <| Ua J J <| Wn <| aM ?_
 exact post (n := 0) (.inr J) J J (by simp)
theorem iU (v w : Int) (hv : len32 v < 549755813888) (hw : len32 w < 549755813888) : Run Tryz.prog T E0 (.call 83 [lvI v, lvI w] (lvI (v * w))) := by
 have bv := pA v
 have bw := pA w
 have ev := eK v
 have ew := eK w
 have evw : v * w = v.sign * w.sign * ((v.natAbs * w.natAbs : Nat) : Int) := by
  rw [Int.natCast_mul]; grind
 obtain ⟨σ, hσ⟩ : ∃ σ, σ = v.sign * w.sign := ⟨_, rfl⟩
 have hs3 : σ = 1 ∨ σ = -1 ∨ σ = 0 ∧ v.natAbs * w.natAbs = 0 := by
  rcases Int.sign_trichotomy v with h | h | h <;> rcases Int.sign_trichotomy w with k | k | k <;> rw [h, k] at hσ <;> simp at hσ <;> first | exact .inl hσ | exact .inr (.inl hσ) | skip
  all_goals (refine .inr (.inr ⟨hσ, ?_⟩); first | (rw [ia0 h]; simp; done) | (rw [ia0 k]; simp))
 rw [← hσ] at evw
 obtain ⟨xs, hxs⟩ : ∃ xs, xs = dgs B32 v.natAbs := ⟨_, rfl⟩
 obtain ⟨ys, hys⟩ : ∃ ys, ys = dgs B32 w.natAbs := ⟨_, rfl⟩
 have dv : val B32 xs = v.natAbs := by rw [hxs]; exact gD (by decide) _
 have dw : val B32 ys = w.natAbs := by rw [hys]; exact gD (by decide) _
 have qv : Dg B32 xs := by rw [hxs]; exact jO (by decide) _
 have qw : Dg B32 ys := by rw [hys]; exact jO (by decide) _
 have lv : xs.length < 549755813888 := by rw [hxs]; exact hv
 have lw : ys.length < 549755813888 := by rw [hys]; exact hw
 refine bC Tryz.func83 J J (cX J) ?_
 have J5 : ∀  (n : Nat) (hn : 3 ≤ n), WC Tryz.prog T E0 Tryz.f83.ntmps (codeR (codeR (codeOf Tryz.f83))) [(2, .ptr 0 0), (3, .ptr 1 0), (4, .ptr 2 0)] [(2, { cells := [.v (.int .i64 0), .sl 0 []], sz := 2, elem := 101, st := 0 }), (1, { cells := (lvI w).cells, sz := (lvI w).cells.length, elem := 101, st := 0 }), (0, { cells := (lvI v).cells, sz := (lvI v).cells.length, elem := 101, st := 0 })] n (Post T Tryz.f83.results.toList (lvI (v * w))) := by
  intro  n hn
  refine Rg 7 J <| aA (aO (l := .agg [_, _]) J J J J J) J <| aA (aN J ((hxs ▸ eV v)) (by simp)) J <| Um J J <| aA (dN J J) J <| aA (dN J J) J <| Ua J J <| Ua J J <| Wn <| Rg 7 J <| aA (aO (l := .agg [_, _]) J J J J J) J <| aA (aN J ((hys ▸ eV w)) (by simp)) J <| Um J J <| aA (dN J J) J <| aA (dN J J) J <| Ua J J <| Ua J J <| Nk [4,7,8,9,10] J <| Rg 7 J <| Um J J <| aA (aX J J) J <| Um J J <| aA (aX J J) J ?_
  refine aA (aR J J om) J <| bD (oMk (a := xs.length + ys.length) (b := xs.length + ys.length) J J J J om om (by decide) om (by show 4 * (xs.length + ys.length) ≤ _; omega) om) J <| Ua J J <| Wn <| aB <| Rg 3 J <| Um J J <| aA (aX J J) J <| Um J J <| Nk [4,7,9,10,11,74,75,76] J <| aL <| bA (α := Nat × Nat × (List Nat)) (fun ⟨i, q, us⟩ => [(4, .ptr 2 0), (7, .v (.int .i64 v.sign)), (9, .v (.int .i64 w.sign)), (10, .sl 1 (ys.map d32)), (11, .ref q 1 0 us.length), (74, .sl 1 (xs.map d32)), (75, .v (.int .i64 (xs.length : Int))), (76, .v (.int .i64 (i : Int)))]) (fun ⟨i, q, us⟩ => [(q, { cells := (us.map d32).flatten, sz := 1, elem := 164, st := 0 }), (2, { cells := [.v (.int .i64 0), .sl 0 []], sz := 2, elem := 101, st := 0 })]) (fun ⟨i, q, us⟩ n => i ≤ xs.length ∧ us.length = xs.length + ys.length ∧ Dg B32 us ∧ val B32 us = val B32 (xs.take i) * val B32 ys ∧ (∀ j, i + ys.length ≤ j → us.getD j default = 0) ∧ 2 < q) (fun ⟨i, q, us⟩ => xs.length - i) (0, n + 7 + 7 + 5, List.replicate (xs.length + ys.length) 0) ⟨rfl, rfl, rfl, rfl, congrArg some (by rw [List.length_replicate]; rfl), rfl, rfl, rfl, trivial⟩ ⟨g0.trans (by rw [List.map_replicate]; rfl), g1 om J, trivial⟩ ⟨Nat.zero_le _, by simp, by intro d hd; simp at hd; rw [hd.2]; decide, by rw [lY]; simp [val], by intro j _; exact iI _ _, om⟩ ?_
  rintro ⟨i, q, us⟩ n hF
  change WC _ _ _ _ _ (_ :: _) (_ :: _) n _
  obtain ⟨hi, hul, hud, huv, huz, hq⟩ := hF
  refine Rg 1 J <| aA (bP J J) J <| aW (fun h77 => ?_) (fun h77 => ?_)
  rotate_left
  ·refine Wn <| aT J <| aZ <| aQ <| aS J ?_
   have hE : val B32 us = v.natAbs * w.natAbs := by
    rw [huv, List.take_of_length_le om, dv, dw]
   refine Rg 6 J <| Um J J <| Um J J <| aA (cI σ (eS J J (by rw [← hσ]; omega)) hσ.symm) J <| Um J J <| bD (rD [.v (.int .i64 σ), .sl 1 (us.map d32)] [(q, { cells := (us.map d32).flatten, sz := 1, elem := 164, st := 1 })] J (eX σ 1 us (by rw [hE]; exact hs3) (.inl J) hud om) (.data (by simp) (.own _ (by simp) g0 (by show (0 : Nat) ≠ 2; decide) J (by decide) (by simp [keys]) J gP dP .nil)) (by intro p hp; simp at hp; subst hp; exact ⟨_, g0, by show (0 : Nat) ≠ 2; decide, rfl⟩)) J <| aY (cH (cs' := [_, _]) J J J (g1 om (g1 om J)) J J J J) <| Wn <| aM <| post (n := 0) (.inr J) J ?_ (by simp)
   rw [evw, ← hE]; rfl
  refine Wn <| aP J <| aD <| aL <| Rg 5 J <| Um J J <| aA (bS J J J J J om J) J <| aA (dB J J J) J <| Ua J J <| Ua J J <| Wn <| Rg 1 J <| Ua J J <| Nk [4,7,9,10,11,12,13,14,74,75,76] J <| aB <| Rg 3 J <| Um J J <| aA (aX J J) J <| Um J J <| Wn <| aL <| bA (α := Nat × Nat × (List Nat)) (fun ⟨k, c, us1⟩ => [(4, .ptr 2 0), (7, .v (.int .i64 v.sign)), (9, .v (.int .i64 w.sign)), (10, .sl 1 (ys.map d32)), (11, .ref q 1 0 us1.length), (12, .v (.int .i64 (i : Int))), (13, .v (.int .u32 (xs.getD i default : Int))), (14, .v (.int .u64 (c : Int))), (74, .sl 1 (xs.map d32)), (75, .v (.int .i64 (xs.length : Int))), (76, .v (.int .i64 (i : Int))), (81, .sl 1 (ys.map d32)), (82, .v (.int .i64 (ys.length : Int))), (83, .v (.int .i64 (k : Int)))]) (fun ⟨k, c, us1⟩ => [(q, { cells := (us1.map d32).flatten, sz := 1, elem := 164, st := 0 }), (2, { cells := [.v (.int .i64 0), .sl 0 []], sz := 2, elem := 101, st := 0 })]) (fun ⟨k, c, us1⟩ n => k ≤ ys.length ∧ us1.length = us.length ∧ Dg B32 us1 ∧ c < 4294967296 ∧ val B32 us1 + B32 ^ (i + k) * c = val B32 us + B32 ^ i * (xs.getD i default * val B32 (ys.take k)) ∧ (∀ j, i + k ≤ j → us1.getD j default = us.getD j default)) (fun ⟨k, c, us1⟩ => ys.length - k) (0, 0, us) ⟨J, J, J, J, J, J, J, J, J, J, J, J, J, J, trivial⟩ ⟨g0, g1 om J, trivial⟩ ⟨Nat.zero_le _, rfl, hud, by decide, by simp [val], fun _ _ => rfl⟩ ?_
  rintro ⟨k, c, us1⟩ n hG
  change WC _ _ _ _ _ (_ :: _) (_ :: _) n _
  obtain ⟨hk, hl1, hd1, hc1, hv1, hz1⟩ := hG
  refine Rg 1 J <| aA (bP J J) J <| aW (fun h84 => ?_) (fun h84 => ?_)
  rotate_left
  ·refine Nk [4,7,9,10,11,12,13,14,74,75,76,81,82,83,84] J <| aT J <| aZ <| aQ <| aS J <| Ck [4,7,9,10,11,12,14,74,75,76] J <| aH (z := 9) J <| Um J J <| Um J J <| Um J J <| aA (aX J J) J <| aA (cI (((i + ys.length : Nat) : Int)) (aR J J om) om) J <| Um J J <| aA (cI ((c : Int)) (cK J J J) (by rw [IntKind.wrap_u32]; omega)) J <| aA (dF J J J J J om J) J <| aY (fT (f := d32) (us := us1) c J J J g0 (fun _ => rfl) J J om J) <| Wn <| aF <| Ck [4,7,9,10,11,74,75,76] J <| aH (z := 2) J <| aA (cI (((i + 1 : Nat) : Int)) (aR J J om) om) J <| Um J J <| cR ?_
   refine aG <| ⟨⟨i + 1, q, us1.set (i + ys.length) c⟩, ⟨rfl, rfl, rfl, rfl, congrArg some (by rw [List.length_set]), rfl, rfl, rfl, trivial⟩, ⟨g0, g1 om (g1 om J), trivial⟩, ⟨om, by rw [List.length_set]; omega, hd1.set _ hc1, ?_, ?_, hq⟩, by show xs.length - (i + 1) < xs.length - i; omega⟩
   ·have hk' : k = ys.length := by omega
    subst hk'
    have h1 := gA (B := B32) us1 (i + ys.length) c om
    rw [hz1 _ (Nat.le_refl _), huz _ (Nat.le_refl _), Nat.mul_zero, Nat.add_zero] at h1
    rw [h1, hv1, huv, cL, List.take_of_length_le (Nat.le_refl _), Nat.add_mul, Nat.mul_assoc]
   ·intro j hj
    rw [fR om, hz1 j om]; exact huz j om
  refine Nk [4,7,9,10,11,12,13,14,74,75,76,81,82,83,84] J <| aP J <| aD <| aL <| Rg 5 J <| Um J J <| aA (bS J J J J J om J) J <| aA (dB J J J) J <| Ua J J <| Ua J J <| Nk [4,7,9,10,11,12,13,14,15,16,74,75,76,81,82,83] J ?_
  have hp : xs.getD i default < 4294967296 := bH qv om
  have hqk : ys.getD k default < 4294967296 := bH qw om
  have ho : us1.getD (i + k) default < 4294967296 := bH hd1 om
  have hpq := gY hp hqk
  refine Rg 16 J <| Um J J <| Um J J <| aA (cI ((xs.getD i default : Int)) (cK J J J) (by rw [IntKind.wrap_u64]; omega)) J <| Um J J <| aA (cI ((ys.getD k default : Int)) (cK J J J) (by rw [IntKind.wrap_u64]; omega)) J <| aA (cI (((xs.getD i default * ys.getD k default : Nat) : Int)) (mF J J) (by rw [← Int.natCast_mul]; omega)) J <| Um J J <| Um J J <| Um J J <| aA (cI (((i + k : Nat) : Int)) (aR J J om) om) J <| aA (dF J J J J J om J) J <| aA (gL (f := d32) (us := us1) (j := i + k) J J g0 (fun _ => rfl) J (by decide) om J) J <| aA (cI ((us1.getD (i + k) default : Int)) (cK J J J) (by rw [IntKind.wrap_u64]; omega)) J <| aA (cI (((xs.getD i default * ys.getD k default + us1.getD (i + k) default : Nat) : Int)) (jD J J) om) J <| aA (cI ((((c + (xs.getD i default * ys.getD k default + us1.getD (i + k) default)) : Nat) : Int)) (jD J J) om) J <| Ua J J <| Nk [4,7,9,10,11,12,13,14,15,74,75,76,81,82,83] J <| Rg 8 J <| Um J J <| Um J J <| Um J J <| aA (cI (((i + k : Nat) : Int)) (aR J J om) om) J ?_
  refine Um J J <| aA (cI ((((c + (xs.getD i default * ys.getD k default + us1.getD (i + k) default)) % 4294967296 : Nat) : Int)) (cK J J J) (by rw [IntKind.wrap_u32]; omega)) J <| aA (dF J J J J J om J) J <| aY (fT (f := d32) (us := us1) ((c + (xs.getD i default * ys.getD k default + us1.getD (i + k) default)) % 4294967296) J J J g0 (fun _ => rfl) J J om J) <| Nk [4,7,9,10,11,12,13,14,74,75,76,81,82,83] J <| aH (z := 3) J <| Um J J <| aA (cI ((((c + (xs.getD i default * ys.getD k default + us1.getD (i + k) default)) / 4294967296 : Nat) : Int)) (eM (s := 32) J J om) om) J <| Ua J J <| Wn <| aF <| Ck [4,7,9,10,11,12,13,14,74,75,76,81,82,83] J <| aH (z := 2) J <| aA (cI (((k + 1 : Nat) : Int)) (aR J J om) om) J <| Um J J <| Wn <| aG <| ⟨⟨k + 1, (c + (xs.getD i default * ys.getD k default + us1.getD (i + k) default)) / 4294967296, us1.set (i + k) ((c + (xs.getD i default * ys.getD k default + us1.getD (i + k) default)) % 4294967296)⟩, ⟨rfl, rfl, rfl, rfl, congrArg some (by rw [List.length_set]), rfl, rfl, rfl, rfl, rfl, rfl, rfl, rfl, rfl, trivial⟩, ⟨g0, g1 om (g1 om J), trivial⟩, ⟨om, by rw [List.length_set]; exact hl1, hd1.set _ (Nat.mod_lt _ (by decide)), om, mul_step hv1 om, ?_⟩, by show ys.length - (k + 1) < ys.length - k; omega⟩
  intro j hj
  rw [fR om]; exact hz1 j om
 refine Rg 3 J <| bD (dY J J) J <| bD (dY J J) J <| bD (dX J) J <| Wn <| aB <| Rg 8 J <| aA (bB J J J J J) J <| aA (aO J J J J J) J <| aA (rF J J) J <| dC (fun h19 => ?_) (fun h19 => ?_)
 rotate_left
 ·refine Um J J <| K1 J J <| K1 J J <| K1 J J <| aA (bF J J) J <| Wn <| aT J <| aD <| Ck [2,3,4] J ?_
  exact J5 _ om
 refine Um J J <| aE J (bB J J J J J) J <| aE J (aO J J J J J) J <| aE J (rF J J) J <| dC (fun h23 => ?_) (fun h23 => ?_)
 rotate_left
 ·refine aA (bG J J) J <| Wn <| aT J <| aD <| Ck [2,3,4] J ?_
  exact J5 _ om
 refine aA (bG J J) J <| Wn <| aP J <| aB ?_
 have hia := dJ (pB.1 h19)
 have hiw := dJ (pB.1 h23)
 refine Rg 20 J <| aA (bB J J J J J) J <| aA (aO J J J J J) J <| aA (bB J J J J J) J <| aA (aO J J J J J) J <| aA (eY J om) J <| aA (cI (((v.natAbs : Nat) : Int)) (oMax J J) (by rw [hia]; split <;> omega)) J <| aA (cI (((v.natAbs : Nat) : Int)) (cK J J J) (by rw [IntKind.wrap_u64]; omega)) J <| aA (bB J J J J J) J <| aA (aO J J J J J) J <| aA (bB J J J J J) J <| aA (aO J J J J J) J <| aA (eY J om) J <| aA (cI (((w.natAbs : Nat) : Int)) (oMax J J) (by rw [hiw]; split <;> omega)) J <| aA (cI (((w.natAbs : Nat) : Int)) (cK J J J) (by rw [IntKind.wrap_u64]; omega)) J <| aA (aN J (mul64_run v.natAbs w.natAbs om om) (by simp)) J <| Um J J <| aA (dN J J) J <| aA (dN J J) J <| Ua J J <| Ua J J <| Nk [2,3,4,5,6] J <| aB ?_
 refine Rg 6 J <| Um J J <| aA (eR J J) J <| aW (fun h44 => ?_) (fun h44 => ?_)
 rotate_left
 ·refine Um J J <| K1 J J <| K1 J J <| aA (bF J J) J <| Wn <| aT J <| aD <| Ck [2,3,4] J ?_
  exact J5 _ om
 refine Um J J <| aE J (dU J) J <| aE J (bP J J) J <| aW (fun h47 => ?_) (fun h47 => ?_)
 rotate_left
 ·refine aA (bG J J) J <| Wn <| aT J <| aD <| Ck [2,3,4] J ?_
  exact J5 _ om
 refine aA (bG J J) J <| Wn <| aP J <| aB <| bQ (z := 10) J kR <| aJ (aO (l := .agg [_, _]) J J J J J) J <| aJ (aN J (jG _) (by simp)) J <| aJ (aO (l := .agg [_, _]) J J J J J) J <| aJ (aN J (jG _) (by simp)) J <| aJ (cI σ (eS J J (by rw [← hσ]; omega)) hσ.symm) J <| Dm J J <| aJ (cI (((v.natAbs * w.natAbs : Nat) : Int)) (cK J J J) (by rw [IntWalk.i64_in _ om]; omega)) J <| aJ (eS J J (by rcases hs3 with h | h | ⟨h, _⟩ <;> rw [h] <;> omega)) J <| aJ (fH (cs := [_, _]) J J J J J) J <| cU (cH (cs' := [_, _]) J J J J J J J J) <| bK (aV kR) J <| Ck [4] J <| aU <| post (n := 0) (.inr J) J ?_ (by simp)
 rw [evw, jC (by unfold small; rcases hs3 with h | h | ⟨h, _⟩ <;> rw [h] <;> omega)]; rfl
end Go.Proofs.YtcblgjaomljikaaGreat
namespace Go.Proofs.YtcblgjaomljikaaGreat
open Go.Ab Go.RowKit
theorem div32_run (hi lo y : Nat) (hh : hi < y) (hl : lo < 4294967296) (hy : y < 4294967296) : Run Tryz.prog T E0 (.call 157 [.v (.int .u32 (hi : Int)), .v (.int .u32 (lo : Int)), .v (.int .u32 (y : Int))] (.tup [.v (.int .u32 (((hi * 4294967296 + lo) / y : Nat) : Int)), .v (.int .u32 (((hi * 4294967296 + lo) % y : Nat) : Int))])) := by
 have hq : (hi * 4294967296 + lo) / y < 4294967296 := by
  rw [Nat.div_lt_iff_lt_mul om]; have := Nat.mul_le_mul_left 4294967296 (show hi + 1 ≤ y from hh); omega
 have hr : (hi * 4294967296 + lo) % y < y := Nat.mod_lt _ om
 obtain ⟨Q, hQ⟩ : ∃ Q, Q = (hi * 4294967296 + lo) / y := ⟨_, rfl⟩
 obtain ⟨R, hR⟩ : ∃ R, R = (hi * 4294967296 + lo) % y := ⟨_, rfl⟩
 rw [← hQ] at hq
 rw [← hR] at hr
 refine bC Tryz.func157 J J (cX J) <| Rg 2 J <| Ua J J <| Ua J J <| Wn <| aB <| Rg 7 J <| Um J J <| aA (fS J J) J <| aW (fun h10 => ?_) (fun h10 => ?_)
 rotate_left
 ·omega
 refine Um J J <| aE J (dU J) J <| aE J (dU J) J <| aE J (mO J J) J <| aW (fun h14 => ?_) (fun h14 => ?_)
 ·omega
 refine aA (bG J J) J <| Wn <| aT J <| aD <| Rg 7 J <| Um J J <| aA (cI ((hi : Int)) (cK J J J) (by rw [IntKind.wrap_u64]; omega)) J <| aA (cI (((hi * 4294967296 : Nat) : Int)) (oShlU (s := 32) J J om) om) J <| Um J J <| aA (cI ((lo : Int)) (cK J J J) (by rw [IntKind.wrap_u64]; omega)) J <| aA (fI (v := .int .u64 (((hi * 4294967296 + lo) : Nat) : Int)) J J (or_hi om hl)) J <| Ua J J <| Nk [2,8] J <| bQ (z := 12) J kR <| Dm J J <| Dm J J <| aJ (cI ((y : Int)) (cK J J J) (by rw [IntKind.wrap_u64]; omega)) J <| aJ (cI ((Q : Int)) (oQuoU J J om om) (by rw [hQ])) J <| aJ (cI ((Q : Int)) (cK J J J) (by rw [IntKind.wrap_u32]; omega)) J <| Dm J J <| Dm J J <| aJ (cI ((y : Int)) (cK J J J) (by rw [IntKind.wrap_u64]; omega)) J <| aJ (cI ((R : Int)) (oRemU J J om) (by rw [hR])) J ?_
 refine aJ (cI ((R : Int)) (cK J J J) (by rw [IntKind.wrap_u32]; omega)) J <| aJ (kU J) J <| aJ (kU J) J <| bK (aV kR) J <| aM ?_
 exact post (n := 0) (.inr J) J (by rw [← hQ, ← hR]; rfl) (by simp)
theorem short_run (k0 : Nat) (xs : List Nat) (y : Nat) (hx : Dg B32 xs) (hy : 0 < y) (hy2 : y < 4294967296) (lx : xs.length < 1099511627776) : ∃ r, Run Tryz.prog T E0 (.call 152 [.sl k0 (xs.map d32), .v (.int .u32 (y : Int))] r) ∧ ∃ ds rest, r = .tup [.sl 1 (ds.map d32), .v (.int .u32 ((rest : Nat) : Int))] ∧ Dg B32 ds ∧ rest < y ∧ val B32 ds * y + rest = val B32 xs ∧ ds.length = xs.length := by
 refine gX Tryz.func152 J J (cX J) <| Rg 2 J <| Ua J J <| Ua J J <| Wn <| Rg 4 J <| Um J J <| aA (aX J J) J <| bD (oMk (a := xs.length) (b := xs.length) J J J J om om (by decide) om (by show 4 * xs.length ≤ _; omega) om) J <| Ua J J <| Wn <| Rg 1 J <| Ua J J <| Wn <| aB <| Rg 4 J <| Um J J <| aA (aX J J) J <| aA (bV J J om) J <| Ua J J <| Wn <| aL <| bA (α := Nat × Nat × (List Nat)) (fun ⟨k, rest, us⟩ => [(0, .sl k0 (xs.map d32)), (1, .v (.int .u32 (y : Int))), (6, .ref (0 + 2 + 2) 1 0 us.length), (7, .v (.int .u32 (rest : Int))), (8, .v (.int .i64 ((k : Int) - 1)))]) (fun ⟨k, rest, us⟩ => [(0 + 2 + 2, { cells := (us.map d32).flatten, sz := 1, elem := 164, st := 0 })]) (fun ⟨k, rest, us⟩ n => k ≤ xs.length ∧ us.length = xs.length ∧ Dg B32 us ∧ rest < y ∧ val B32 (us.drop k) * y + rest = val B32 (xs.drop k)) (fun ⟨k, rest, us⟩ => k) (xs.length, 0, List.replicate xs.length 0) ⟨rfl, rfl, congrArg some (by rw [List.length_replicate]; rfl), rfl, rfl, trivial⟩ ⟨g0.trans (by rw [List.map_replicate]; rfl), trivial⟩ ⟨Nat.le_refl _, by simp, by intro d hd; simp at hd; rw [hd.2]; decide, hy, by simp [val]⟩ ?_
 rintro ⟨k, rest, us⟩ n hF
 change WC _ _ _ _ _ (_ :: _) (_ :: _) n _
 obtain ⟨hk, hul, hud, hrest, huv⟩ := hF
 refine aB <| Rg 2 J <| Um J J <| aA (fJ J J) J <| aW (fun h16 => ?_) (fun h16 => ?_)
 rotate_left
 ·refine Wn <| aT J <| aZ <| aQ <| aS J <| Rg 4 J <| Um J J <| Um J J <| Ua J J <| Ua J J <| Wn <| aM <| ⟨.tup [.sl 1 (us.map d32), .v (.int .u32 (rest : Int))], ⟨us, rest, rfl, hud, hrest, ?_, hul⟩, postA (n := 0) [(0 + 2 + 2, { cells := (us.map d32).flatten, sz := 1, elem := 164, st := 1 })] (.inr J) J (.own _ (by simp) J (by show (0 : Nat) ≠ 2; decide) J (by decide) (by simp [keys]) J gP dP (.data (by simp) .nil)) (by intro p hp; simp at hp; subst hp; exact ⟨_, rfl, by show (0 : Nat) ≠ 2; decide, rfl⟩)⟩
  have h0 : k = 0 := by omega
  subst h0
  simpa using huv
 refine Wn <| aP J <| aD <| aL ?_
 have hxl : xs.getD (k - 1) default < 4294967296 := bH hx om
 have hq : (rest * 4294967296 + xs.getD (k - 1) default) / y < 4294967296 := by
  rw [Nat.div_lt_iff_lt_mul hy]; have := Nat.mul_le_mul_left 4294967296 (show rest + 1 ≤ y from hrest); omega
 refine aH (z := 15) J <| Um J J <| Um J J <| Um J J <| Um J J <| Um J J <| aA (bS (j := k - 1) J J J J om om J) J <| aA (dB J J J) J <| Um J J <| aA (aN J (div32_run rest (xs.getD (k - 1) default) y hrest hxl hy2) (by simp)) J <| Um J J <| aA (dN J J) J <| aA (dN J J) J <| aA (dF (j := k - 1) J J J J om om J) J <| aY (fT (f := d32) (us := us) ((rest * 4294967296 + xs.getD (k - 1) default) / y) J J J g0 (fun _ => rfl) J J om J) <| Ua J J <| Wn <| aF <| Ck [0,1,6,7,8] J <| aH (z := 3) J <| Um J J <| aA (cI (((k - 1 : Nat) : Int) - 1) (bV J J om) om) J <| Ua J J <| cR ?_
 refine aG ?_
 have hj : k - 1 + 1 = k := by omega
 refine ⟨⟨k - 1, (rest * 4294967296 + xs.getD (k - 1) default) % y, us.set (k - 1) ((rest * 4294967296 + xs.getD (k - 1) default) / y)⟩, ⟨rfl, rfl, congrArg some (by rw [List.length_set]), rfl, rfl, trivial⟩, ⟨g0, trivial⟩, ⟨om, by rw [List.length_set]; exact hul, hud.set _ hq, Nat.mod_lt _ hy, ?_⟩, by show k - 1 < k; omega⟩
 exact rN hy (by rw [hj]; exact huv) om om
end Go.Proofs.YtcblgjaomljikaaGreat
namespace Go.Proofs.YtcblgjaomljikaaGreat
open Go.Ab Go.RowKit
theorem pI (k0 : Nat) (xs : List Nat) (sh : Nat) (hx : Dg B32 xs) (hn : sh < 32) (lx : xs.length < 1099511627776) : ∃ sz len ob, Run Tryz.prog T E0 (.callO 159 [.sl k0 (xs.map d32), .v (.int .i64 (sh : Int))] (.ref 0 sz 0 len) ob) ∧ ∃ ds, sz = 1 ∧ len = ds.length ∧ ob = { cells := (ds.map d32).flatten, sz := 1, elem := 164, st := 0 } ∧ Dg B32 ds ∧ val B32 ds = val B32 xs * 2 ^ sh ∧ ds.length = xs.length + 1 := by
 have hp : (2 : Nat) ^ sh ≤ 2 ^ 31 := Nat.pow_le_pow_right (by decide) om
 have hp0 : 0 < (2 : Nat) ^ sh := Nat.pow_pos (by decide)
 refine mkcallO Tryz.func159 J J (cX J) <| Rg 1 J <| Ua J J <| Wn <| Rg 5 J <| Um J J <| aA (aX J J) J <| aA (aR J J om) J <| bD (oMk (a := xs.length + 1) (b := xs.length + 1) J J J J om om (by decide) om (by show 4 * (xs.length + 1) ≤ _; omega) om) J <| Ua J J <| Wn <| aB <| Rg 3 J <| Um J J <| aA (aX J J) J <| Um J J <| Wn <| aL <| bA (α := Nat × (List Nat)) (fun ⟨i, us⟩ => [(1, .v (.int .i64 (sh : Int))), (5, .ref (0 + 1 + 3) 1 0 us.length), (13, .sl k0 (xs.map d32)), (14, .v (.int .i64 (xs.length : Int))), (15, .v (.int .i64 (i : Int)))]) (fun ⟨i, us⟩ => [(0 + 1 + 3, { cells := (us.map d32).flatten, sz := 1, elem := 164, st := 0 })]) (fun ⟨i, us⟩ n => i ≤ xs.length ∧ us.length = xs.length + 1 ∧ Dg B32 us ∧ val B32 us = val B32 (xs.take i) * 2 ^ sh ∧ (∀ j, i < j → us.getD j default = 0) ∧ us.getD i default < 2 ^ sh) (fun ⟨i, us⟩ => xs.length - i) (0, List.replicate (xs.length + 1) 0) ⟨rfl, congrArg some (by rw [List.length_replicate]; rfl), rfl, rfl, rfl, trivial⟩ ⟨g0.trans (by rw [List.map_replicate]; rfl), trivial⟩ ⟨Nat.zero_le _, by simp, by intro d hd; simp at hd; rw [hd]; decide, by rw [lY]; simp [val], fun j _ => iI _ _, by rw [iI]; exact hp0⟩ ?_
 rintro ⟨i, us⟩ n hF
 change WC _ _ _ _ _ (_ :: _) (_ :: _) n _
 obtain ⟨hi, hul, hud, huv, huz, hlo⟩ := hF
 refine Rg 1 J <| aA (bP J J) J <| aW (fun h16 => ?_) (fun h16 => ?_)
 rotate_left
 ·refine Wn <| aT J <| aZ <| aQ <| aS J <| Rg 2 J <| Um J J <| Ua J J <| Wn <| aM <| ⟨1, us.length, _, ⟨us, rfl, rfl, rfl, hud, ?_, hul⟩, .inr J, _, rfl, rfl, rfl, rfl, by intro c hc; obtain ⟨row, hr, hc⟩ := List.mem_flatten.1 hc; exact dP row hr c hc⟩
  rw [huv, List.take_of_length_le om]
 refine Wn <| aP J <| aD <| aL <| Rg 5 J <| Um J J <| aA (bS J J J J J om J) J <| aA (dB J J J) J <| Ua J J <| Ua J J <| cR ?_
 have hxl : xs.getD i default < 4294967296 := bH hx om
 have hw : (xs.getD i default * 2 ^ sh) < 9223372036854775808 := by
  have := Nat.mul_lt_mul_of_lt_of_le hxl hp (by decide); omega
 have hor := shift_or hn hlo hxl
 have hhi := shift_hi (n := sh) hxl
 have hol : us.getD i default < 4294967296 := by omega
 refine Rg 5 J <| Um J J <| aA (cI ((xs.getD i default : Int)) (cK J J J) (by rw [IntKind.wrap_u64]; omega)) J <| Um J J <| aA (cI ((((xs.getD i default * 2 ^ sh) : Nat) : Int)) (oShlU (s := sh) J J om) (by rw [show ((xs.getD i default : Nat) : Int) * 2 ^ sh = (((xs.getD i default * 2 ^ sh) : Nat) : Int) by simp]; omega)) J <| Ua J J <| Nk [1,5,6,8,13,14,15] J <| Rg 9 J <| Um J J <| Um J J <| aA (dF J J J J J om J) J <| aA (gL (f := d32) (us := us) (j := i) J J g0 (fun _ => rfl) J (by decide) om J) J <| Um J J <| aA (cI ((((xs.getD i default * 2 ^ sh) % 4294967296 : Nat) : Int)) (cK J J J) (by rw [IntKind.wrap_u32]; omega)) J <| aA (fI (v := .int .u32 (((us.getD i default + (xs.getD i default * 2 ^ sh) % 4294967296) : Nat) : Int)) J J ((or32 hol om).trans (by rw [hor.1]))) J <| aA (dF J J J J J om J) J <| aY (fT (f := d32) (us := us) (us.getD i default + (xs.getD i default * 2 ^ sh) % 4294967296) J J J g0 (fun _ => rfl) J J om J) <| Nk [1,5,6,8,13,14,15] J <| aH (z := 8) J <| Um J J <| Um J J <| aA (cI (((i + 1 : Nat) : Int)) (aR J J om) om) J ?_
 refine Um J J <| aA (cI ((((xs.getD i default * 2 ^ sh) / 4294967296 : Nat) : Int)) (eM (s := 32) J J om) om) J <| aA (cI ((((xs.getD i default * 2 ^ sh) / 4294967296 : Nat) : Int)) (cK J J J) (by rw [IntKind.wrap_u32]; omega)) J <| aA (dF J J J J J om J) J <| aY (fT (f := d32) (us := us.set i (us.getD i default + (xs.getD i default * 2 ^ sh) % 4294967296)) ((xs.getD i default * 2 ^ sh) / 4294967296) J J J g0 (fun _ => rfl) J J (by rw [List.length_set]; omega) J) <| Wn <| aF <| aH (z := 2) J <| aA (cI (((i + 1 : Nat) : Int)) (aR J J om) om) J <| Um J J <| Wn <| aG <| ⟨⟨i + 1, (us.set i (us.getD i default + (xs.getD i default * 2 ^ sh) % 4294967296)).set (i + 1) ((xs.getD i default * 2 ^ sh) / 4294967296)⟩, ⟨rfl, congrArg some (by rw [List.length_set, List.length_set]), rfl, rfl, rfl, trivial⟩, ⟨g0, trivial⟩, ⟨om, by rw [List.length_set, List.length_set]; exact hul, (hud.set _ hor.2).set _ (by show _ < 4294967296; omega), shift_step (by decide) huv om (huz _ om), ?_, ?_⟩, by show xs.length - (i + 1) < xs.length - i; omega⟩
 ·intro j hj
  rw [fR om, fR om]; exact huz j om
 ·have : ((us.set i (us.getD i default + (xs.getD i default * 2 ^ sh) % 4294967296)).set (i + 1) ((xs.getD i default * 2 ^ sh) / 4294967296)).getD (i + 1) default = (xs.getD i default * 2 ^ sh) / 4294967296 := by
   rw [List.getD_eq_getElem?_getD, List.getElem?_set_self (by simp; omega)]; rfl
  rw [this]; exact hhi
theorem len32_run (x : Nat) (hx : x < 4294967296) : Run Tryz.prog T E0 (.call 160 [.v (.int .u32 (x : Int))] (.v (.int .i64 ((blen x : Nat) : Int)))) := by
 refine bC Tryz.func160 J J (cX J) ?_
 have J7 : ∀ (y k : Nat) (hy : y < 256) (hk : k ≤ 24) (he : blen x = blen y + k) (n : Nat) , WC Tryz.prog T E0 Tryz.f160.ntmps (codeR (codeR (codeR (codeOf Tryz.f160)))) [(0, .v (.int .u32 (y : Int))), (2, .v (.int .i64 (k : Int)))] [] n (Post T Tryz.f160.results.toList (.v (.int .i64 ((blen x : Nat) : Int)))) := by
  intro y k hy hk he n
  have hyb := pT (n := 8) hy
  refine Rg 7 J <| Um J J <| Um J J <| aA (cI ((y : Int)) (cK J J J) (by rw [IntKind.wrap_u8]; omega)) J <| aA (cI (((blen y : Nat) : Int)) (oIxS (bs := tab8) (n := (y : Int)) J kR J om (tab8_get hy)) (congrArg Int.ofNat (tab8_val hy))) J <| aA (cI (((blen y : Nat) : Int)) (cK J J J) (by rw [IntWalk.i64_in _ om])) J <| aA (aR J J om) J <| Ua J J <| Wn <| aM ?_
  exact post (n := 0) (.inr J) J (congrArg (fun z => LV.v (.int .i64 z)) om) (by simp)
 refine Rg 1 J <| Ua J J <| Wn <| aB <| Rg 2 J <| Um J J <| aA (fJ J J) J <| aW (fun h4 => ?_) (fun h4 => ?_)
 rotate_left
 ·refine Wn <| aT J <| aD <| aB <| Rg 2 J <| Um J J <| aA (fJ J J) J <| aW (fun h8 => ?_) (fun h8 => ?_)
  rotate_left
  ·refine Wn <| aT J <| aD <| Ck [0,2] J ?_
   first | exact J7 (x / 65536) 16 om om (gH (x := x) (k := 16) om) _ | exact J7 x 0 om om rfl _
  refine Wn <| aP J <| aB <| Rg 3 J <| Um J J <| aA (cI (((x / 256 : Nat) : Int)) (oShr32 (s := 8) J J om) om) J <| Ua J J <| Wn <| Rg 3 J <| Um J J <| aA (aR J J om) J <| Ua J J <| Nk [0,2] J ?_
  first | exact J7 (x / 65536 / 256) 24 om om (by rw [gH (x := x) (k := 16) om, gH (x := x / 2 ^ 16) (k := 8) om]) _ | exact J7 (x / 256) 8 om om (gH (x := x) (k := 8) om) _
 refine Wn <| aP J <| aB <| Rg 3 J <| Um J J <| aA (cI (((x / 65536 : Nat) : Int)) (oShr32 (s := 16) J J om) om) J <| Ua J J <| Wn <| Rg 1 J <| Ua J J <| Wn <| aB <| Rg 2 J <| Um J J <| aA (fJ J J) J <| aW (fun h8 => ?_) (fun h8 => ?_)
 rotate_left
 ·refine Wn <| aT J <| aD <| Ck [0,2] J ?_
  first | exact J7 (x / 65536) 16 om om (gH (x := x) (k := 16) om) _ | exact J7 x 0 om om rfl _
 refine Wn <| aP J <| aB <| Rg 3 J <| Um J J <| aA (cI (((x / 65536 / 256 : Nat) : Int)) (oShr32 (s := 8) J J om) om) J <| Ua J J <| Wn <| Rg 3 J <| Um J J <| aA (aR J J om) J <| Ua J J <| Nk [0,2] J ?_
 first | exact J7 (x / 65536 / 256) 24 om om (by rw [gH (x := x) (k := 16) om, gH (x := x / 2 ^ 16) (k := 8) om]) _ | exact J7 (x / 256) 8 om om (gH (x := x) (k := 8) om) _
theorem zeros32_run (x : Nat) (hx : x < 4294967296) : Run Tryz.prog T E0 (.call 158 [.v (.int .u32 (x : Int))] (.v (.int .i64 ((32 - blen x : Nat) : Int)))) := by
 have hb := pT (n := 32) hx
 refine bC Tryz.func158 J J (cX J) <| Rg 1 J <| Ua J J <| Wn <| Rg 4 J <| Um J J <| aA (aN J (len32_run x hx) (by simp)) J <| aA (bV J J om) J <| Ua J J <| Wn <| aM ?_
 exact post (n := 0) (.inr J) J (congrArg (fun z => LV.v (.int .i64 z)) om) (by simp)
end Go.Proofs.YtcblgjaomljikaaGreat
set_option maxHeartbeats 4000000
namespace Go.Proofs.YtcblgjaomljikaaGreat
open Go.Ab Go.RowKit
theorem long_run (k1 k2 : Nat) (xs ys : List Nat) (hx : Dg 4294967296 xs) (hy : Dg 4294967296 ys) (ty : Trm ys) (hl : 2 ≤ ys.length) (hle : ys.length ≤ xs.length) (lx : xs.length < 549755813888) : ∃ r, Run Tryz.prog T E0 (.call 153 [.sl k1 (xs.map d32), .sl k2 (ys.map d32)] r) ∧ ∃ qs rs, r = .tup [.sl 1 (qs.map d32), .sl 1 (rs.map d32)] ∧ Dg 4294967296 qs ∧ Dg 4294967296 rs ∧ val 4294967296 qs * val 4294967296 ys + val 4294967296 rs = val 4294967296 xs ∧ val 4294967296 rs < val 4294967296 ys ∧ qs.length ≤ xs.length ∧ rs.length = ys.length := by
 obtain ⟨sh, hsh⟩ : ∃ sh, sh = 32 - blen (ys.getD (ys.length - 1) default) := ⟨_, rfl⟩
 obtain ⟨n1, n2, n3⟩ := norm_facts hy ty hl hsh
 obtain ⟨vs, hvs⟩ : ∃ vs, vs = dgs 4294967296 (val 4294967296 ys * 2 ^ sh) := ⟨_, rfl⟩
 rw [← hvs] at n2 n3
 rw [← n2] at n3
 have hvd : Dg 4294967296 vs := by rw [hvs]; exact jO (by decide) _
 have hvv : val 4294967296 vs = val 4294967296 ys * 2 ^ sh := by rw [hvs]; exact gD (by decide) _
 have hyl : ys.getD (ys.length - 1) default < 4294967296 := bH hy om
 obtain ⟨_, _, _, hr1, us0, rfl, rfl, rfl, hud0, huv0, hul0⟩ := pI k1 xs sh hx n1 om
 obtain ⟨_, _, _, hr2, ws, rfl, rfl, rfl, hwd, hwv, hwl⟩ := pI k2 ys sh hy n1 om
 have htr : trim ws = vs := by rw [jJ (by decide) hwd, hwv, hvs]
 have hp31 : (2 : Nat) ^ sh ≤ 2 ^ 31 := Nat.pow_le_pow_right (by decide) om
 have hp0 : 0 < (2 : Nat) ^ sh := Nat.pow_pos (by decide)
 have hV0 : 0 < val 4294967296 vs := by
  have h1 := bT 4294967296 vs (vs.length - 1) om
  rw [bN (by omega : vs.length - 1 < vs.length)] at h1
  simp only [val] at h1
  have h2 : 0 < (4294967296 : Nat) ^ (vs.length - 1) := Nat.pow_pos (by decide)
  have h3 := Nat.mul_le_mul h2 n3
  have h4 := Nat.mul_add ((4294967296 : Nat) ^ (vs.length - 1)) (vs.getD (vs.length - 1) default) (4294967296 * val 4294967296 (List.drop (vs.length - 1 + 1) vs))
  omega
 refine gX Tryz.func153 J J (cX J) <| Rg 2 J <| Ua J J <| Ua J J <| Wn <| Rg 8 J <| Um J J <| Um J J <| aA (aX J J) J <| aA (bV J J om) J <| aA (bS (j := ys.length - 1) J J J J om om J) J <| aA (dB J J J) J <| aA (cI ((sh : Int)) (aN J (zeros32_run _ hyl) (by simp)) (by rw [hsh])) J <| Ua J J <| Wn <| Rg 9 J <| Um J J <| Um J J <| bD (oCallO J hr1 (by simp)) J <| Um J J <| Um J J <| bD (oCallO J hr2 (by simp)) J <| bD (bL (b := .sl 1 (vs.map d32)) (rD [.sl 1 (ws.map d32)] [((0 + 2 + 8 + 5), { cells := (ws.map d32).flatten, sz := 1, elem := 164, st := 1 })] J (lF 1 ws om om) (.own _ (by simp) g0 (by show (0 : Nat) ≠ 2; decide) J (by decide) (by simp [keys]) J gP dP .nil) (by intro p hp; simp at hp; subst hp; exact ⟨_, g0, by show (0 : Nat) ≠ 2; decide, rfl⟩)) (by rw [htr]; rfl)) J <| Ua J J ?_
 refine Ua J J <| Nk [6,7,8] J <| Rg 3 J <| Um J J <| aA (aX J J) J <| Ua J J <| Wn <| Rg 6 J <| Um J J <| aA (rE J J) J <| Um J J <| aA (bV J J om) J <| bD (oMk (a := xs.length + 1 - ys.length) (b := xs.length + 1 - ys.length) J J J J om om (by decide) om (by show 4 * (xs.length + 1 - ys.length) ≤ _; omega) om) J <| Ua J J <| Wn <| aB <| Rg 6 J <| Um J J <| aA (rE J J) J <| Um J J <| aA (bV J J om) J <| aA (bV J J om) J <| Ua J J ?_
 refine Nk [6,7,8,9,10,11] J <| aL <| bA (α := Nat × (List Nat) × (List Nat)) (fun ⟨k, us, qs⟩ => [(6, .v (.int .i64 (sh : Int))), (7, .ref (0 + 2 + 8 + 2) 1 0 us.length), (8, .sl 1 (vs.map d32)), (9, .v (.int .i64 (vs.length : Int))), (10, .ref (0 + 2 + 8 + 9 + 3 + 4) 1 0 qs.length), (11, .v (.int .i64 ((k : Int) - 1)))]) (fun ⟨k, us, qs⟩ => [((0 + 2 + 8 + 2), { cells := (us.map d32).flatten, sz := 1, elem := 164, st := 0 }), ((0 + 2 + 8 + 9 + 3 + 4), { cells := (qs.map d32).flatten, sz := 1, elem := 164, st := 0 })]) (fun ⟨k, us, qs⟩ n => k + vs.length ≤ us.length ∧ us.length = xs.length + 1 ∧ qs.length = xs.length + 1 - ys.length ∧ Dg 4294967296 us ∧ Dg 4294967296 qs ∧ val 4294967296 us0 = val 4294967296 (qs.drop k) * val 4294967296 vs * 4294967296 ^ k + val 4294967296 us ∧ val 4294967296 (us.drop k) < val 4294967296 vs ∧ 30 ≤ n) (fun ⟨k, us, qs⟩ => k) (xs.length + 1 - ys.length, us0, List.replicate (xs.length + 1 - ys.length) 0) ⟨rfl, rfl, rfl, rfl, congrArg some (by rw [List.length_replicate]; rfl), congrArg (fun z => some (LV.v (.int .i64 z))) om, trivial⟩ ⟨rfl, g0.trans (by rw [List.map_replicate]; rfl), trivial⟩ ⟨om, hul0, by simp, hud0, by intro d hd; simp at hd; rw [hd.2]; decide, by rw [List.drop_eq_nil_of_le (by simp)]; simp [val], long_init (n := xs.length) (by decide) huv0 (dL (by decide) hx) om om om hp0 om, om⟩ ?_
 rintro ⟨k, us, qs⟩ n hF
 change WC _ _ _ _ _ (_ :: _) (_ :: _) n _
 obtain ⟨hk, hul, hql0, hud, hqd, hU, hlt, hn30⟩ := hF
 refine aB <| Rg 2 J <| Um J J <| aA (fJ J J) J <| aW (fun h54 => ?_) (fun h54 => ?_)
 rotate_left
 ·refine Wn <| aT J <| aZ <| aQ <| aS J ?_
  have hk0 : k = 0 := by omega
  subst hk0
  rw [List.drop_zero, Nat.pow_zero, Nat.mul_one] at hU
  rw [List.drop_zero] at hlt
  refine Rg 3 J <| Um J J <| bD (oMk (a := vs.length) (b := vs.length) J J J J om om (by decide) om (by show 4 * vs.length ≤ _; omega) om) J <| Ua J J <| Wn <| aB <| Rg 3 J <| Um J J <| aA (rE J J) J <| Um J J <| Wn <| aL <| bA (α := Nat × Nat × (List Nat)) (fun ⟨i, q3, rs⟩ => [(6, .v (.int .i64 (sh : Int))), (7, .ref (0 + 2 + 8 + 2) 1 0 us.length), (10, .ref (0 + 2 + 8 + 9 + 3 + 4) 1 0 qs.length), (25, .ref q3 1 0 rs.length), (229, .v (.int .i64 (vs.length : Int))), (230, .v (.int .i64 (i : Int)))]) (fun ⟨i, q3, rs⟩ => [((0 + 2 + 8 + 2), { cells := (us.map d32).flatten, sz := 1, elem := 164, st := 0 }), ((0 + 2 + 8 + 9 + 3 + 4), { cells := (qs.map d32).flatten, sz := 1, elem := 164, st := 0 }), (q3, { cells := (rs.map d32).flatten, sz := 1, elem := 164, st := 0 })]) (fun ⟨i, q3, rs⟩ n => i ≤ vs.length ∧ rs.length = vs.length ∧ Dg 4294967296 rs ∧ val 4294967296 rs = (val 4294967296 (us.take (i + 1)) / 2 ^ sh) % 4294967296 ^ i ∧ (∀ j, i ≤ j → rs.getD j default = 0) ∧ 30 ≤ q3) (fun ⟨i, q3, rs⟩ => vs.length - i) (0, n + 2 + 1, List.replicate vs.length 0) ⟨rfl, rfl, rfl, congrArg some (by rw [List.length_replicate]; rfl), rfl, rfl, trivial⟩ ⟨g1 om g0, g1 om (g1 (by decide) g0), g0.trans (by rw [List.map_replicate]; rfl), trivial⟩ ⟨Nat.zero_le _, by simp, by intro d hd; simp at hd; rw [hd.2]; decide, by rw [lY, Nat.pow_zero, Nat.mod_one], fun j _ => iI _ _, om⟩ ?_
  rintro ⟨i, q3, rs⟩ n hR
  change WC _ _ _ _ _ (_ :: _) (_ :: _) n _
  obtain ⟨hi, hrl, hrd, hrv, hrz, hq3⟩ := hR
  refine Rg 1 J <| aA (bP J J) J <| aW (fun h231 => ?_) (fun h231 => ?_)
  rotate_left
  ·refine Wn <| aT J <| aZ <| aQ <| aS J ?_
   have hi' : i = vs.length := by omega
   subst hi'
   rw [rest_end (Nat.lt_trans hlt (dL (by decide) hvd)) om] at hrv
   obtain ⟨hx1, hx2⟩ := unshift hp0 (show val 4294967296 xs * 2 ^ sh = val 4294967296 qs * (val 4294967296 ys * 2 ^ sh) + val 4294967296 us by rw [← hvv, ← huv0, hU]) (by rw [← hvv]; exact hlt)
   rw [← hrv] at hx1 hx2
   refine Rg 4 J <| Um J J <| Um J J <| Ua J J <| Ua J J <| Wn <| aM <| ⟨.tup [.sl 1 (qs.map d32), .sl 1 (rs.map d32)], ⟨qs, rs, rfl, hqd, hrd, hx1, hx2, om, om⟩, ?_⟩
   exact postA (n := 0) [((0 + 2 + 8 + 9 + 3 + 4), { cells := (qs.map d32).flatten, sz := 1, elem := 164, st := 1 }), (q3, { cells := (rs.map d32).flatten, sz := 1, elem := 164, st := 1 })] (.inr J) J (.own _ (by simp) (g1 om g0) (by show (0 : Nat) ≠ 2; decide) J (by decide) (by simp [keys]) J gP dP (.own _ (by simp) (g1 om (g1 om g0)) (by show (0 : Nat) ≠ 2; decide) J (by decide) (by simp [keys]) J gP dP .nil)) (by intro p hp; simp at hp; rcases hp with hp | hp <;> subst hp; exact ⟨_, g1 om g0, by show (0 : Nat) ≠ 2; decide, rfl⟩; exact ⟨_, g1 om (g1 om g0), by show (0 : Nat) ≠ 2; decide, rfl⟩)
  refine Wn <| aP J <| aD <| aL <| Rg 2 J <| Um J J <| Ua J J <| cR ?_
  have hux : us.getD i default < 4294967296 := bH hud om
  have huy : us.getD (i + 1) default < 4294967296 := bH hud om
  obtain ⟨Z, hZ⟩ : ∃ Z, Z = (us.getD i default + us.getD (i + 1) default * 4294967296) / 2 ^ sh := ⟨_, rfl⟩
  refine dQ (z := 20) J kR <| Dm J J <| Dm J J <| Dm J J <| Dm J J <| aJ (dF J J J J J om J) J <| aJ (gL (f := d32) (us := us) (j := i) J J g0 (fun _ => rfl) J (by decide) om J) J <| aJ (cI ((us.getD i default : Int)) (cK J J J) (by rw [IntKind.wrap_u64]; omega)) J <| Dm J J <| Dm J J <| aJ (cI (((i + 1 : Nat) : Int)) (aR J J om) om) J <| aJ (dF (j := i + 1) J J J J om om J) J <| aJ (gL (f := d32) (us := us) (j := i + 1) J J g0 (fun _ => rfl) J (by decide) om J) J <| aJ (cI ((us.getD (i + 1) default : Int)) (cK J J J) (by rw [IntKind.wrap_u64]; omega)) J <| aJ (cI (((us.getD (i + 1) default * 4294967296 : Nat) : Int)) (oShlU (s := 32) J J om) om) J <| aJ (fI (v := .int .u64 (((us.getD i default + us.getD (i + 1) default * 4294967296) : Nat) : Int)) J J (or_lo om om)) J <| Dm J J <| aJ (cI ((Z : Int)) (eM (s := sh) J J om) (by rw [hZ]; simp)) J <| aJ (cI (((Z % 4294967296 : Nat) : Int)) (cK J J J) (by rw [IntKind.wrap_u32]; omega)) J <| aJ (dF J J J J J om J) J <| cU (fT (f := d32) (us := rs) (Z % 4294967296) J J J (g1 om (g1 om g0)) (fun _ => rfl) J J om J) <| bK (aV kR) J <| aF <| Ck [6,7,10,25,229,230] J ?_
  refine aH (z := 2) J <| aA (cI (((i + 1 : Nat) : Int)) (aR J J om) om) J <| Um J J <| Wn <| aG <| ⟨⟨i + 1, q3, rs.set i (Z % 4294967296)⟩, ⟨rfl, rfl, rfl, congrArg some (by rw [List.length_set]), rfl, rfl, trivial⟩, ⟨g1 om g0, g1 om (g1 (by decide) g0), g0, trivial⟩, ⟨om, by rw [List.length_set]; exact hrl, hrd.set _ (Nat.mod_lt _ (by decide)), by rw [hZ]; exact rest_set om om hud om (hrz i (Nat.le_refl _)) hrv, ?_, hq3⟩, by show vs.length - (i + 1) < vs.length - i; omega⟩
  intro j hj
  rw [fR om]; exact hrz j om
 refine Wn <| aP J <| aD <| aL ?_
 have hu0 : us.getD (k - 1 + vs.length) default < 4294967296 := bH hud om
 have hu1 : us.getD (k - 1 + vs.length - 1) default < 4294967296 := bH hud om
 have LQh := lq_make (B := 4294967296) (by decide) (j := k - 1) hud hvd om om om (by rw [show k - 1 + 1 = k by omega]; exact hlt)
 obtain ⟨top, htop⟩ : ∃ top, top = us.getD (k - 1 + vs.length) default * 4294967296 + us.getD (k - 1 + vs.length - 1) default := ⟨_, rfl⟩
 obtain ⟨u2, hu2⟩ : ∃ z, z = us.getD (k - 1 + vs.length - 2) default := ⟨_, rfl⟩
 obtain ⟨v1, hv1⟩ : ∃ z, z = vs.getD (vs.length - 1) default := ⟨_, rfl⟩
 obtain ⟨v2, hv2⟩ : ∃ z, z = vs.getD (vs.length - 2) default := ⟨_, rfl⟩
 rw [← htop, ← hu2, ← hv1, ← hv2] at LQh
 have lu2 : u2 < 4294967296 := by rw [hu2]; exact bH hud om
 have lv1 : v1 < 4294967296 := by rw [hv1]; exact bH hvd om
 have lv2 : v2 < 4294967296 := by rw [hv2]; exact bH hvd om
 have gv1 : 2147483648 ≤ v1 := by rw [hv1]; exact n3
 have htop2 : top < 18446744073709551616 := by omega
 have hRB := LQh.lt_pow (dL (B := 4294967296) (by decide) hvd)
 refine bQ (z := 18) J kR <| Dm J J <| Dm J J <| Dm J J <| aJ (cI (((k - 1 + vs.length : Nat) : Int)) (aR J J om) om) J <| aJ (dF (j := k - 1 + vs.length) J J J J om om J) J <| aJ (gL (f := d32) (us := us) (j := k - 1 + vs.length) J J g0 (fun _ => rfl) J (by decide) om J) J <| aJ (cI ((us.getD (k - 1 + vs.length) default : Int)) (cK J J J) (by rw [IntKind.wrap_u64]; omega)) J <| aJ (cI (((us.getD (k - 1 + vs.length) default * 4294967296 : Nat) : Int)) (oShlU (s := 32) J J om) om) J <| Dm J J <| Dm J J <| Dm J J <| aJ (cI (((k - 1 + vs.length : Nat) : Int)) (aR J J om) om) J <| aJ (bV J J om) J <| aJ (dF (j := k - 1 + vs.length - 1) J J J J om om J) J <| aJ (gL (f := d32) (us := us) (j := k - 1 + vs.length - 1) J J g0 (fun _ => rfl) J (by decide) om J) J <| aJ (cI ((us.getD (k - 1 + vs.length - 1) default : Int)) (cK J J J) (by rw [IntKind.wrap_u64]; omega)) J <| aJ (cI ((top : Int)) (fI (v := .int .u64 ((us.getD (k - 1 + vs.length) default * 4294967296 + us.getD (k - 1 + vs.length - 1) default : Nat) : Int)) J J (or_hi om om)) (by rw [htop])) J <| aJ (kU J) J <| bK (aV kR) J <| Ck [6,7,8,9,10,11,12] J <| Rg 9 J <| Um J J <| Um J J ?_
 refine Um J J <| aA (bV J J om) J <| aA (bS (j := vs.length - 1) J J J J om om J) J <| aA (dB J J J) J <| aA (cI ((v1 : Int)) (cK J J J) (by rw [IntKind.wrap_u64]; omega)) J <| aA (oQuoU J J om om) J <| Ua J J <| Nk [6,7,8,9,10,11,12,13] J <| Rg 9 J <| Um J J <| Um J J <| Um J J <| aA (bV J J om) J <| aA (bS (j := vs.length - 1) J J J J om om J) J <| aA (dB J J J) J <| aA (cI ((v1 : Int)) (cK J J J) (by rw [IntKind.wrap_u64]; omega)) J <| aA (oRemU J J om) J <| Ua J J <| Nk [6,7,8,9,10,11,13,14] J <| aL <| bA (α := Nat × Nat) (fun ⟨qh, rh⟩ => [(6, .v (.int .i64 (sh : Int))), (7, .ref (0 + 2 + 8 + 2) 1 0 us.length), (8, .sl 1 (vs.map d32)), (9, .v (.int .i64 (vs.length : Int))), (10, .ref (0 + 2 + 8 + 9 + 3 + 4) 1 0 qs.length), (11, .v (.int .i64 ((k : Int) - 1))), (13, .v (.int .u64 (qh : Int))), (14, .v (.int .u64 (rh : Int)))]) (fun ⟨qh, rh⟩ => [((0 + 2 + 8 + 2), { cells := (us.map d32).flatten, sz := 1, elem := 164, st := 0 }), ((0 + 2 + 8 + 9 + 3 + 4), { cells := (qs.map d32).flatten, sz := 1, elem := 164, st := 0 })]) (fun ⟨qh, rh⟩ n => top = qh * v1 + rh ∧ val 4294967296 (us.drop (k - 1)) / val 4294967296 vs ≤ qh ∧ qh ≤ 4294967297 ∧ rh < 4294967296 ∧ 30 ≤ n) (fun ⟨qh, rh⟩ => qh) (top / v1, top % v1) ⟨J, J, J, J, J, J, J, J, trivial⟩ ⟨g0, g1 (by decide) g0, trivial⟩ ⟨(Nat.div_add_mod' top v1).symm, lq_start LQh (by decide), lq_first LQh (by decide), by have := Nat.mod_lt top (show 0 < v1 by omega); omega, om⟩ ?_
 rintro ⟨qh, rh⟩ n hG
 change WC _ _ _ _ _ (_ :: _) (_ :: _) n _
 obtain ⟨hG1, hG2, hG3, hG4, hn31⟩ := hG
 refine aB <| bQ (z := 24) J kR <| Dm J J <| aJ (fJ J J) J <| lZ (fun h91 => ?_) (fun h91 => ?_)
 ·refine Dm J J <| cA J J <| cA J J <| cA J J <| cA J J <| cA J J <| cA J J <| cA J J <| cA J J <| cA J J <| cA J J <| cA J J <| cA J J <| cA J J <| cA J J <| cA J J <| cA J J <| cA J J <| cA J J <| cA J J <| cA J J <| aJ (bG J J) J <| bK (aV kR) J <| Ck [6,7,8,9,10,11,13,14,93,94,95,96,97,98,99,100,101,102,103,104,105,106,107,108,109,110,111,112,113] J ?_
  refine aP J <| aD <| cO ?_
  obtain ⟨hdc1, hdc2⟩ := lq_dec LQh hG1 hG2 (by first | exact .inl om | exact .inr om)
  refine Rg 3 J <| Um J J <| aA (cI (((qh - 1 : Nat) : Int)) (gO J J) om) J <| Ua J J <| Nk [6,7,8,9,10,11,13,14,93,94,95,96,97,98,99,100,101,102,103,104,105,106,107,108,109,110,111,112] J <| Rg 9 J <| Um J J <| Um J J <| Um J J <| aA (bV J J om) J <| aA (bS (j := vs.length - 1) J J J J om om J) J <| aA (dB J J J) J <| aA (cI ((v1 : Int)) (cK J J J) (by rw [IntKind.wrap_u64]; omega)) J <| aA (cI (((rh + v1 : Nat) : Int)) (jD J J) om) J <| Ua J J <| Nk [6,7,8,9,10,11,13,14,93,94,95,96,97,98,99,100,101,102,103,104,105,106,107,108,109,110,111,112] J <| Rg 2 J <| Um J J <| aA (fJ J J) J <| aW (fun h125 => ?_) (fun h125 => ?_)
  rotate_left
  ·refine Nk [6,7,8,9,10,11,13,14,93,94,95,96,97,98,99,100,101,102,103,104,105,106,107,108,109,110,111,112,125] J <| bZ J <| cE <| cD <| aG <| ⟨⟨qh - 1, rh + v1⟩, ⟨J, J, J, J, J, J, J, J, trivial⟩, ⟨g0, g1 (by decide) g0, trivial⟩, ⟨dec_eq hG1 hdc1, hdc2, om, om, om⟩, by show qh - 1 < qh; omega⟩
  refine Nk [6,7,8,9,10,11,13,14,93,94,95,96,97,98,99,100,101,102,103,104,105,106,107,108,109,110,111,112,125] J <| bU J <| lH <| gV J <| aQ <| aS J <| Ck [6,7,8,9,10,11,13,93,94,95,96,97,98,99,100,101,102,103,104,105,106,107,108,109,110,111,112] J ?_
  obtain ⟨hql, hqo⟩ := lq_break LQh hG1 hdc1 hG4 om hG3
  replace hG2 := hdc2
  obtain ⟨q1, hq1⟩ : ∃ q1, q1 = qh - 1 := ⟨_, rfl⟩
  rw [← hq1] at hqo hql hG2 ⊢
  refine Rg 2 J <| Ua J J <| Ua J J <| Nk [6,7,8,9,10,11,13,15,16,93,94,95,96,97,98,99,100,101,102,103,104,105,106,107,108,109,110,111,112] J <| aB <| Rg 3 J <| Um J J <| aA (aX J J) J <| Um J J <| Nk [6,7,8,9,10,11,13,15,16,93,94,95,96,97,98,99,100,101,102,103,104,105,106,107,108,109,110,111,112,126,127,128] J <| aL ?_
  refine bA (α := Nat × Nat × Nat × (List Nat)) (fun ⟨i, c, b, us1⟩ => [(6, .v (.int .i64 (sh : Int))), (7, .ref (0 + 2 + 8 + 2) 1 0 us1.length), (8, .sl 1 (vs.map d32)), (9, .v (.int .i64 (vs.length : Int))), (10, .ref (0 + 2 + 8 + 9 + 3 + 4) 1 0 qs.length), (11, .v (.int .i64 ((k : Int) - 1))), (13, .v (.int .u64 (q1 : Int))), (15, .v (.int .u64 (b : Int))), (16, .v (.int .u64 (c : Int))), (126, .sl 1 (vs.map d32)), (127, .v (.int .i64 (vs.length : Int))), (128, .v (.int .i64 (i : Int)))]) (fun ⟨i, c, b, us1⟩ => [((0 + 2 + 8 + 2), { cells := (us1.map d32).flatten, sz := 1, elem := 164, st := 0 }), ((0 + 2 + 8 + 9 + 3 + 4), { cells := (qs.map d32).flatten, sz := 1, elem := 164, st := 0 })]) (fun ⟨i, c, b, us1⟩ n => i ≤ vs.length ∧ us1.length = us.length ∧ Dg 4294967296 us1 ∧ c < 4294967296 ∧ b ≤ 1 ∧ val 4294967296 us1 + 4294967296 ^ (k - 1) * (q1 * val 4294967296 (vs.take i)) = val 4294967296 us + 4294967296 ^ (k - 1 + i) * (c + b) ∧ us1.take (k - 1) = us.take (k - 1) ∧ us1.drop (k - 1 + i) = us.drop (k - 1 + i) ∧ 30 ≤ n) (fun ⟨i, c, b, us1⟩ => vs.length - i) (0, 0, 0, us) ⟨J, J, J, J, J, J, J, J, J, J, J, J, trivial⟩ ⟨g0, g1 (by decide) g0, trivial⟩ ⟨Nat.zero_le _, rfl, hud, by decide, by decide, by simp [val], rfl, rfl, om⟩ ?_
  rintro ⟨i, c, b, us1⟩ n hL
  change WC _ _ _ _ _ (_ :: _) (_ :: _) n _
  obtain ⟨hi, hl1, hd1, hc1, hb1, he1, ht1, hp1, hn32⟩ := hL
  refine Rg 1 J <| aA (bP J J) J <| aW (fun h129 => ?_) (fun h129 => ?_)
  ·refine Wn <| aP J <| aD <| aL ?_
   have hvi : vs.getD i default < 4294967296 := bH hvd om
   have hui : us1.getD (k - 1 + i) default < 4294967296 := bH hd1 om
   have hqv := gY hql hvi
   obtain ⟨p, hpe⟩ : ∃ p, p = q1 * vs.getD i default + c := ⟨_, rfl⟩
   obtain ⟨u, hue⟩ : ∃ u, u = us1.getD (k - 1 + i) default := ⟨_, rfl⟩
   have hpb : p < 18446744073709551616 := by omega
   obtain ⟨d, hde⟩ : ∃ d, d = (u + 4294967296 - p % 4294967296 - b) % 4294967296 := ⟨_, rfl⟩
   refine Rg 5 J <| Um J J <| aA (bS J J J J J om J) J <| aA (dB J J J) J <| Ua J J <| Ua J J <| Nk [6,7,8,9,10,11,13,15,16,17,18,126,127,128] J <| Rg 7 J <| Um J J <| Um J J <| aA (cI ((vs.getD i default : Int)) (cK J J J) (by rw [IntKind.wrap_u64]; omega)) J <| aA (cI (((q1 * vs.getD i default : Nat) : Int)) (mF J J) (by rw [← Int.natCast_mul]; omega)) J <| Um J J <| aA (cI ((p : Int)) (jD J J) om) J <| Ua J J <| Nk [6,7,8,9,10,11,13,15,17,19,126,127,128] J <| Rg 3 J <| Um J J <| aA (cI (((p / 4294967296 : Nat) : Int)) (eM (s := 32) J J om) om) J <| Ua J J <| Nk [6,7,8,9,10,11,13,15,16,17,19,126,127,128] J ?_
   refine Rg 14 J <| Um J J <| Um J J <| Um J J <| aA (cI (((k - 1 + i : Nat) : Int)) (aR J J om) om) J <| aA (dF (j := k - 1 + i) J J J J om om J) J <| aA (gL (f := d32) (us := us1) (j := k - 1 + i) J J g0 (fun _ => rfl) J (by decide) om J) J <| aA (cI ((u : Int)) (cK J J J) (by rw [IntKind.wrap_u64]; omega)) J <| Um J J <| aA (cI (((p % 4294967296 : Nat) : Int)) (cK J J J) (by rw [IntKind.wrap_u32]; omega)) J <| aA (cI (((p % 4294967296 : Nat) : Int)) (cK J J J) (by rw [IntKind.wrap_u64]; omega)) J <| aA (gO J J) J <| Um J J <| aA (cI (((((u + 18446744073709551616 - p % 4294967296 - b) % 18446744073709551616) : Nat) : Int)) (gO J J) om) J <| Ua J J <| Nk [6,7,8,9,10,11,13,16,17,20,126,127,128] J <| Rg 8 J <| Um J J <| Um J J <| Um J J <| aA (cI (((k - 1 + i : Nat) : Int)) (aR J J om) om) J <| Um J J <| aA (cI ((d : Int)) (cK J J J) (by rw [IntKind.wrap_u32]; omega)) J ?_
   refine aA (dF (j := k - 1 + i) J J J J om om J) J <| aY (fT (f := d32) (us := us1) d J J J g0 (fun _ => rfl) J J om J) <| Nk [6,7,8,9,10,11,13,16,20,126,127,128] J <| aH (z := 3) J <| Um J J <| aA (cI (((if u < p % 4294967296 + b then 1 else 0 : Nat) : Int)) (eM (s := 63) J J om) (by split <;> omega)) J <| Ua J J <| Wn <| aF <| Ck [6,7,8,9,10,11,13,15,16,126,127,128] J <| aH (z := 2) J <| aA (cI (((i + 1 : Nat) : Int)) (aR J J om) om) J <| Um J J <| Wn <| aG <| ⟨⟨i + 1, p / 4294967296, if u < p % 4294967296 + b then 1 else 0, us1.set (k - 1 + i) d⟩, ⟨rfl, congrArg some (by rw [List.length_set]), rfl, rfl, rfl, rfl, rfl, rfl, rfl, rfl, rfl, rfl, trivial⟩, ⟨g0, g1 (by decide) (g1 (by decide) g0), trivial⟩, ⟨om, by rw [List.length_set]; exact hl1, hd1.set _ om, om, by split <;> omega, ?_, by rw [cQ om]; exact ht1, by rw [dA om]; exact fD hp1 om, om⟩, by show vs.length - (i + 1) < vs.length - i; omega⟩
   rw [hpe]
   exact lD he1 om (by rw [← hpe, ← hue, hde]; split <;> omega)
  refine Wn <| aT J <| aZ <| aQ <| aS J ?_
  have hi' : i = vs.length := by omega
  subst hi'
  rw [List.take_of_length_le (Nat.le_refl _)] at he1
  obtain ⟨u, hue⟩ : ∃ u, u = us1.getD (k - 1 + vs.length) default := ⟨_, rfl⟩
  have hul1 : u < 4294967296 := by rw [hue]; exact bH hd1 om
  obtain ⟨d, hde⟩ : ∃ d, d = (u + 4294967296 - c - b) % 4294967296 := ⟨_, rfl⟩
  have hd4 : d < 4294967296 := by omega
  refine Rg 12 J <| Um J J <| Um J J <| Um J J <| aA (cI (((k - 1 + vs.length : Nat) : Int)) (aR J J om) om) J <| aA (dF (j := k - 1 + vs.length) J J J J om om J) J <| aA (gL (f := d32) (us := us1) (j := k - 1 + vs.length) J J g0 (fun _ => rfl) J (by decide) om J) J <| aA (cI ((u : Int)) (cK J J J) (by rw [IntKind.wrap_u64]; omega)) J <| Um J J <| aA (gO J J) J <| Um J J <| aA (cI (((((u + 18446744073709551616 - c - b) % 18446744073709551616) : Nat) : Int)) (gO J J) om) J <| Ua J J <| Nk [6,7,8,9,10,11,13,21] J <| Rg 8 J <| Um J J <| Um J J <| Um J J <| aA (cI (((k - 1 + vs.length : Nat) : Int)) (aR J J om) om) J <| Um J J <| aA (cI ((d : Int)) (cK J J J) (by rw [IntKind.wrap_u32]; omega)) J <| aA (dF (j := k - 1 + vs.length) J J J J om om J) J <| aY (fT (f := d32) (us := us1) d J J J g0 (fun _ => rfl) J J om J) ?_
  refine Nk [6,7,8,9,10,11,13,21] J <| aB <| Rg 3 J <| Um J J <| aA (cI (((if u < c + b then 1 else 0 : Nat) : Int)) (eM (s := 63) J J om) (by split <;> omega)) J <| aA (eR J J) J <| aW (fun h184 => ?_) (fun h184 => ?_)
  rotate_left
  ·have hneg : c + b ≤ u := by
    rcases Nat.lt_or_ge u (c + b) with h | h
    ·rw [if_pos h] at h184; simp at h184
    ·exact h
   have hs2 := jI (o := 0) (d := d) he1 om (by rw [← hue]; omega)
   rw [Nat.mul_zero, Nat.add_zero] at hs2
   refine Wn <| aT J <| aD ?_
   have hlF : (us1.set (k - 1 + vs.length) d).length = us.length := by rw [List.length_set]; exact hl1
   have hdF : Dg 4294967296 (us1.set (k - 1 + vs.length) d) := hd1.set _ hd4
   have hltF := oK (by decide) hV0 om om (by rw [cQ om]; exact ht1) hs2 hG2
   have hUF := gB (qs := qs) (j := k - 1) om (by rw [show k - 1 + 1 = k by omega]; exact hU) hs2
   refine aH (z := 6) J <| Um J J <| Um J J <| Um J J <| aA (cI ((q1 : Int)) (cK J J J) (by rw [IntKind.wrap_u32]; omega)) J <| aA (dF (j := k - 1) J J J J om om J) J <| aY (fT (f := d32) (us := qs) q1 J J J (g1 (by decide) (g1 (by decide) g0)) (fun _ => rfl) J J om J) <| Wn <| aF <| Ck [6,7,8,9,10,11] J <| aH (z := 3) J <| Um J J <| aA (cI (((k - 1 : Nat) : Int) - 1) (bV J J om) om) J <| Ua J J <| Wn <| aG <| ⟨⟨k - 1, (us1.set (k - 1 + vs.length) d), qs.set (k - 1) q1⟩, ⟨rfl, congrArg some (by rw [List.length_set]), rfl, rfl, congrArg some (by rw [List.length_set]), rfl, trivial⟩, ⟨g1 (by decide) g0, g0, trivial⟩, ⟨by rw [hlF]; omega, by rw [hlF]; exact hul, by rw [List.length_set]; exact hql0, hdF, hqd.set _ om, hUF, hltF, om⟩, by show k - 1 < k; omega⟩
  have hneg : u < c + b := by
   rcases Nat.lt_or_ge u (c + b) with h | h
   ·exact h
   ·rw [if_neg om] at h184; simp at h184
  have hs2 := jI (o := 1) (d := d) he1 om (by rw [← hue]; omega)
  have hlT : (us1.set (k - 1 + vs.length) d).length = us.length := by rw [List.length_set]; exact hl1
  have hdT : Dg 4294967296 (us1.set (k - 1 + vs.length) d) := hd1.set _ hd4
  have htT : (us1.set (k - 1 + vs.length) d).take (k - 1) = us.take (k - 1) := by rw [cQ om]; exact ht1
  have hpT : (us1.set (k - 1 + vs.length) d).drop (k - 1 + vs.length + 1) = us.drop (k - 1 + vs.length + 1) := by rw [dA om]; exact fD hp1 om
  obtain ⟨hgt, hq1p⟩ := neg_gt (by decide) hdT om hlT hRB hpT htT hs2
  refine Wn <| aP J <| aB <| Rg 3 J <| Um J J <| aA (cI (((q1 - 1 : Nat) : Int)) (gO J J) om) J <| Ua J J <| Wn <| aB <| Rg 1 J <| Ua J J <| Wn <| aB <| aB <| Rg 3 J <| Um J J <| aA (aX J J) J <| Um J J <| Nk [6,7,8,9,10,11,13,22,187,188,189] J <| aL <| bA (α := Nat × Nat × (List Nat)) (fun ⟨i2, c2, us3⟩ => [(6, .v (.int .i64 (sh : Int))), (7, .ref (0 + 2 + 8 + 2) 1 0 us3.length), (8, .sl 1 (vs.map d32)), (9, .v (.int .i64 (vs.length : Int))), (10, .ref (0 + 2 + 8 + 9 + 3 + 4) 1 0 qs.length), (11, .v (.int .i64 ((k : Int) - 1))), (13, .v (.int .u64 ((q1 - 1 : Nat) : Int))), (22, .v (.int .u32 (c2 : Int))), (187, .sl 1 (vs.map d32)), (188, .v (.int .i64 (vs.length : Int))), (189, .v (.int .i64 (i2 : Int)))]) (fun ⟨i2, c2, us3⟩ => [((0 + 2 + 8 + 2), { cells := (us3.map d32).flatten, sz := 1, elem := 164, st := 0 }), ((0 + 2 + 8 + 9 + 3 + 4), { cells := (qs.map d32).flatten, sz := 1, elem := 164, st := 0 })]) (fun ⟨i2, c2, us3⟩ n => i2 ≤ vs.length ∧ us3.length = us.length ∧ Dg 4294967296 us3 ∧ c2 ≤ 1 ∧ val 4294967296 us3 + 4294967296 ^ (k - 1 + i2) * c2 = val 4294967296 (us1.set (k - 1 + vs.length) d) + 4294967296 ^ (k - 1) * val 4294967296 (vs.take i2) ∧ us3.take (k - 1) = us.take (k - 1) ∧ us3.drop (k - 1 + vs.length) = (us1.set (k - 1 + vs.length) d).drop (k - 1 + vs.length) ∧ 30 ≤ n) (fun ⟨i2, c2, us3⟩ => vs.length - i2) (0, 0, (us1.set (k - 1 + vs.length) d)) ⟨rfl, congrArg some (by rw [List.length_set]), rfl, rfl, rfl, rfl, rfl, rfl, rfl, rfl, rfl, trivial⟩ ⟨g0, g1 (by decide) (g1 (by decide) g0), trivial⟩ ⟨Nat.zero_le _, hlT, hdT, by decide, by simp [val], htT, rfl, om⟩ ?_
  rintro ⟨i2, c2, us3⟩ n hM
  change WC _ _ _ _ _ (_ :: _) (_ :: _) n _
  obtain ⟨hi2, hl3, hd3, hc3, he3, ht3, hp3, hn33⟩ := hM
  refine Rg 1 J <| aA (bP J J) J <| aW (fun h190 => ?_) (fun h190 => ?_)
  ·refine Wn <| aP J <| aD <| aL <| Rg 5 J <| Um J J <| aA (bS J J J J J om J) J <| aA (dB J J J) J <| Ua J J <| Ua J J <| Nk [6,7,8,9,10,11,13,22,23,24,187,188,189] J ?_
   have hu3 : us3.getD (k - 1 + i2) default < 4294967296 := bH hd3 om
   have hv3 : vs.getD i2 default < 4294967296 := bH hvd om
   refine aH (z := 19) J <| Um J J <| Um J J <| Um J J <| aA (cI (((k - 1 + i2 : Nat) : Int)) (aR J J om) om) J <| Um J J <| Um J J <| Um J J <| aA (cI (((k - 1 + i2 : Nat) : Int)) (aR J J om) om) J <| aA (dF (j := k - 1 + i2) J J J J om om J) J <| aA (gL (f := d32) (us := us3) (j := k - 1 + i2) J J g0 (fun _ => rfl) J (by decide) om J) J <| Um J J <| Um J J <| aA (aN J (jB (us3.getD (k - 1 + i2) default) (vs.getD i2 default) c2 hu3 hv3 hc3) (by simp)) J <| Um J J <| aA (dN J J) J <| aA (dN J J) J <| aA (dF (j := k - 1 + i2) J J J J om om J) J <| aY (fT (f := d32) (us := us3) ((us3.getD (k - 1 + i2) default + vs.getD i2 default + c2) % 4294967296) J J J g0 (fun _ => rfl) J J om J) <| Ua J J <| Wn <| aF <| Ck [6,7,8,9,10,11,13,22,187,188,189] J <| aH (z := 2) J ?_
   refine aA (cI (((i2 + 1 : Nat) : Int)) (aR J J om) om) J <| Um J J <| Wn <| aG <| ⟨⟨i2 + 1, _, us3.set (k - 1 + i2) ((us3.getD (k - 1 + i2) default + vs.getD i2 default + c2) % 4294967296)⟩, ⟨rfl, congrArg some (by rw [List.length_set]), rfl, rfl, rfl, rfl, rfl, rfl, rfl, rfl, rfl, trivial⟩, ⟨g0, g1 (by decide) (g1 (by decide) g0), trivial⟩, ⟨om, by rw [List.length_set]; exact hl3, hd3.set _ om, om, jL he3 om, by rw [cQ om]; exact ht3, by rw [dA om]; exact hp3, om⟩, by show vs.length - (i2 + 1) < vs.length - i2; omega⟩
  refine Wn <| aT J <| aZ <| aQ <| aS J ?_
  have hi' : i2 = vs.length := by omega
  subst hi'
  rw [List.take_of_length_le (Nat.le_refl _)] at he3
  have hu3 : us3.getD (k - 1 + vs.length) default < 4294967296 := bH hd3 om
  refine Rg 10 J <| Um J J <| Um J J <| Um J J <| aA (cI (((k - 1 + vs.length : Nat) : Int)) (aR J J om) om) J <| aA (dF (j := k - 1 + vs.length) J J J J om om J) J <| aA (gL (f := d32) (us := us3) (j := k - 1 + vs.length) J J g0 (fun _ => rfl) J (by decide) om J) J <| Um J J <| aA (cI ((((us3.getD (k - 1 + vs.length) default + c2) % 4294967296 : Nat) : Int)) (oAdd32 J J) om) J <| aA (dF (j := k - 1 + vs.length) J J J J om om J) J <| aY (fT (f := d32) (us := us3) ((us3.getD (k - 1 + vs.length) default + c2) % 4294967296) J J J g0 (fun _ => rfl) J J om J) <| Nk [6,7,8,9,10,11,13] J ?_
  have hlF : (us3.set (k - 1 + vs.length) ((us3.getD (k - 1 + vs.length) default + c2) % 4294967296)).length = us.length := by rw [List.length_set]; exact hl3
  have hdF : Dg 4294967296 (us3.set (k - 1 + vs.length) ((us3.getD (k - 1 + vs.length) default + c2) % 4294967296)) := hd3.set _ om
  have h4 := jK he3 om
  obtain ⟨hs4, hltF⟩ := qL (by decide) hV0 hdF om hlF hRB (by rw [dA om]; exact (fD hp3 om).trans hpT) (by rw [cQ om]; exact ht3) hs2 h4 hG2 hq1p hqo hgt om
  have hUF := gB (qs := qs) (j := k - 1) om (by rw [show k - 1 + 1 = k by omega]; exact hU) hs4
  refine aH (z := 6) J <| Um J J <| Um J J <| Um J J <| aA (cI (((q1 - 1 : Nat) : Int)) (cK J J J) (by rw [IntKind.wrap_u32]; omega)) J <| aA (dF (j := k - 1) J J J J om om J) J <| aY (fT (f := d32) (us := qs) (q1 - 1) J J J (g1 (by decide) (g1 (by decide) g0)) (fun _ => rfl) J J om J) <| Wn <| aF <| aH (z := 3) J <| Um J J <| aA (cI (((k - 1 : Nat) : Int) - 1) (bV J J om) om) J <| Ua J J <| Wn <| aG <| ⟨⟨k - 1, (us3.set (k - 1 + vs.length) ((us3.getD (k - 1 + vs.length) default + c2) % 4294967296)), qs.set (k - 1) (q1 - 1)⟩, ⟨rfl, congrArg some (by rw [List.length_set]), rfl, rfl, congrArg some (by rw [List.length_set]), rfl, trivial⟩, ⟨g1 (by decide) g0, g0, trivial⟩, ⟨by rw [hlF]; omega, by rw [hlF]; exact hul, by rw [List.length_set]; exact hql0, hdF, hqd.set _ om, hUF, hltF, om⟩, by show k - 1 < k; omega⟩
 refine Dm J J <| cC J (dU J) J <| cC J (dU J) J <| cC J (dU J) J <| cC J (bV J J om) J <| cC J (bS (j := vs.length - 2) J J J J om om J) J <| cC J (dB J J J) J <| cC J (cI ((v2 : Int)) (cK J J J) (by rw [IntKind.wrap_u64]; omega)) J <| cC J (cI (((qh * v2 : Nat) : Int)) (mF J J) (by rw [← Int.natCast_mul]; have := gY (a := qh) (b := v2) om om; omega)) J <| cC J (dU J) J <| cC J (cI (((rh * 4294967296 : Nat) : Int)) (oShlU (s := 32) J J om) om) J <| cC J (dU J) J <| cC J (dU J) J <| cC J (dU J) J <| cC J (cI (((k - 1 + vs.length : Nat) : Int)) (aR J J om) om) J <| cC J (bV J J om) J <| cC J (dF (j := k - 1 + vs.length - 2) J J J J om om J) J <| cC J (gL (f := d32) (us := us) (j := k - 1 + vs.length - 2) J J g0 (fun _ => rfl) J (by decide) om J) J <| cC J (cI ((u2 : Int)) (cK J J J) (by rw [IntKind.wrap_u64]; omega)) J <| cC J (fI (v := .int .u64 ((rh * 4294967296 + u2 : Nat) : Int)) J J (or_hi om om)) J <| cC J (dG J J) J <| lZ (fun h112 => ?_) (fun h112 => ?_)
 rotate_left
 ·refine aJ (bF J J) J <| bK (aV kR) J <| Ck [6,7,8,9,10,11,13,14,93,94,95,96,97,98,99,100,101,102,103,104,105,106,107,108,109,110,111,112,113] J <| aT J <| aZ <| aQ <| aS J <| Ck [6,7,8,9,10,11,13,93,94,95,96,97,98,99,100,101,102,103,104,105,106,107,108,109,110,111,112] J ?_
  have hqo := lq_ok LQh hG1 (show qh < 4294967296 by omega) om
  have hql : qh < 4294967296 := by omega
  obtain ⟨q1, hq1⟩ : ∃ q1, q1 = qh := ⟨_, rfl⟩
  rw [← hq1] at hqo hql hG2 ⊢
  refine Rg 2 J <| Ua J J <| Ua J J <| Nk [6,7,8,9,10,11,13,15,16,93,94,95,96,97,98,99,100,101,102,103,104,105,106,107,108,109,110,111,112] J <| aB <| Rg 3 J <| Um J J <| aA (aX J J) J <| Um J J <| Nk [6,7,8,9,10,11,13,15,16,93,94,95,96,97,98,99,100,101,102,103,104,105,106,107,108,109,110,111,112,126,127,128] J <| aL ?_
  refine bA (α := Nat × Nat × Nat × (List Nat)) (fun ⟨i, c, b, us1⟩ => [(6, .v (.int .i64 (sh : Int))), (7, .ref (0 + 2 + 8 + 2) 1 0 us1.length), (8, .sl 1 (vs.map d32)), (9, .v (.int .i64 (vs.length : Int))), (10, .ref (0 + 2 + 8 + 9 + 3 + 4) 1 0 qs.length), (11, .v (.int .i64 ((k : Int) - 1))), (13, .v (.int .u64 (q1 : Int))), (15, .v (.int .u64 (b : Int))), (16, .v (.int .u64 (c : Int))), (126, .sl 1 (vs.map d32)), (127, .v (.int .i64 (vs.length : Int))), (128, .v (.int .i64 (i : Int)))]) (fun ⟨i, c, b, us1⟩ => [((0 + 2 + 8 + 2), { cells := (us1.map d32).flatten, sz := 1, elem := 164, st := 0 }), ((0 + 2 + 8 + 9 + 3 + 4), { cells := (qs.map d32).flatten, sz := 1, elem := 164, st := 0 })]) (fun ⟨i, c, b, us1⟩ n => i ≤ vs.length ∧ us1.length = us.length ∧ Dg 4294967296 us1 ∧ c < 4294967296 ∧ b ≤ 1 ∧ val 4294967296 us1 + 4294967296 ^ (k - 1) * (q1 * val 4294967296 (vs.take i)) = val 4294967296 us + 4294967296 ^ (k - 1 + i) * (c + b) ∧ us1.take (k - 1) = us.take (k - 1) ∧ us1.drop (k - 1 + i) = us.drop (k - 1 + i) ∧ 30 ≤ n) (fun ⟨i, c, b, us1⟩ => vs.length - i) (0, 0, 0, us) ⟨J, J, J, J, J, J, J, J, J, J, J, J, trivial⟩ ⟨g0, g1 (by decide) g0, trivial⟩ ⟨Nat.zero_le _, rfl, hud, by decide, by decide, by simp [val], rfl, rfl, om⟩ ?_
  rintro ⟨i, c, b, us1⟩ n hL
  change WC _ _ _ _ _ (_ :: _) (_ :: _) n _
  obtain ⟨hi, hl1, hd1, hc1, hb1, he1, ht1, hp1, hn32⟩ := hL
  refine Rg 1 J <| aA (bP J J) J <| aW (fun h129 => ?_) (fun h129 => ?_)
  ·refine Wn <| aP J <| aD <| aL ?_
   have hvi : vs.getD i default < 4294967296 := bH hvd om
   have hui : us1.getD (k - 1 + i) default < 4294967296 := bH hd1 om
   have hqv := gY hql hvi
   obtain ⟨p, hpe⟩ : ∃ p, p = q1 * vs.getD i default + c := ⟨_, rfl⟩
   obtain ⟨u, hue⟩ : ∃ u, u = us1.getD (k - 1 + i) default := ⟨_, rfl⟩
   have hpb : p < 18446744073709551616 := by omega
   obtain ⟨d, hde⟩ : ∃ d, d = (u + 4294967296 - p % 4294967296 - b) % 4294967296 := ⟨_, rfl⟩
   refine Rg 5 J <| Um J J <| aA (bS J J J J J om J) J <| aA (dB J J J) J <| Ua J J <| Ua J J <| Nk [6,7,8,9,10,11,13,15,16,17,18,126,127,128] J <| Rg 7 J <| Um J J <| Um J J <| aA (cI ((vs.getD i default : Int)) (cK J J J) (by rw [IntKind.wrap_u64]; omega)) J <| aA (cI (((q1 * vs.getD i default : Nat) : Int)) (mF J J) (by rw [← Int.natCast_mul]; omega)) J <| Um J J <| aA (cI ((p : Int)) (jD J J) om) J <| Ua J J <| Nk [6,7,8,9,10,11,13,15,17,19,126,127,128] J <| Rg 3 J <| Um J J <| aA (cI (((p / 4294967296 : Nat) : Int)) (eM (s := 32) J J om) om) J <| Ua J J <| Nk [6,7,8,9,10,11,13,15,16,17,19,126,127,128] J ?_
   refine Rg 14 J <| Um J J <| Um J J <| Um J J <| aA (cI (((k - 1 + i : Nat) : Int)) (aR J J om) om) J <| aA (dF (j := k - 1 + i) J J J J om om J) J <| aA (gL (f := d32) (us := us1) (j := k - 1 + i) J J g0 (fun _ => rfl) J (by decide) om J) J <| aA (cI ((u : Int)) (cK J J J) (by rw [IntKind.wrap_u64]; omega)) J <| Um J J <| aA (cI (((p % 4294967296 : Nat) : Int)) (cK J J J) (by rw [IntKind.wrap_u32]; omega)) J <| aA (cI (((p % 4294967296 : Nat) : Int)) (cK J J J) (by rw [IntKind.wrap_u64]; omega)) J <| aA (gO J J) J <| Um J J <| aA (cI (((((u + 18446744073709551616 - p % 4294967296 - b) % 18446744073709551616) : Nat) : Int)) (gO J J) om) J <| Ua J J <| Nk [6,7,8,9,10,11,13,16,17,20,126,127,128] J <| Rg 8 J <| Um J J <| Um J J <| Um J J <| aA (cI (((k - 1 + i : Nat) : Int)) (aR J J om) om) J <| Um J J <| aA (cI ((d : Int)) (cK J J J) (by rw [IntKind.wrap_u32]; omega)) J ?_
   refine aA (dF (j := k - 1 + i) J J J J om om J) J <| aY (fT (f := d32) (us := us1) d J J J g0 (fun _ => rfl) J J om J) <| Nk [6,7,8,9,10,11,13,16,20,126,127,128] J <| aH (z := 3) J <| Um J J <| aA (cI (((if u < p % 4294967296 + b then 1 else 0 : Nat) : Int)) (eM (s := 63) J J om) (by split <;> omega)) J <| Ua J J <| Wn <| aF <| Ck [6,7,8,9,10,11,13,15,16,126,127,128] J <| aH (z := 2) J <| aA (cI (((i + 1 : Nat) : Int)) (aR J J om) om) J <| Um J J <| Wn <| aG <| ⟨⟨i + 1, p / 4294967296, if u < p % 4294967296 + b then 1 else 0, us1.set (k - 1 + i) d⟩, ⟨rfl, congrArg some (by rw [List.length_set]), rfl, rfl, rfl, rfl, rfl, rfl, rfl, rfl, rfl, rfl, trivial⟩, ⟨g0, g1 (by decide) (g1 (by decide) g0), trivial⟩, ⟨om, by rw [List.length_set]; exact hl1, hd1.set _ om, om, by split <;> omega, ?_, by rw [cQ om]; exact ht1, by rw [dA om]; exact fD hp1 om, om⟩, by show vs.length - (i + 1) < vs.length - i; omega⟩
   rw [hpe]
   exact lD he1 om (by rw [← hpe, ← hue, hde]; split <;> omega)
  refine Wn <| aT J <| aZ <| aQ <| aS J ?_
  have hi' : i = vs.length := by omega
  subst hi'
  rw [List.take_of_length_le (Nat.le_refl _)] at he1
  obtain ⟨u, hue⟩ : ∃ u, u = us1.getD (k - 1 + vs.length) default := ⟨_, rfl⟩
  have hul1 : u < 4294967296 := by rw [hue]; exact bH hd1 om
  obtain ⟨d, hde⟩ : ∃ d, d = (u + 4294967296 - c - b) % 4294967296 := ⟨_, rfl⟩
  have hd4 : d < 4294967296 := by omega
  refine Rg 12 J <| Um J J <| Um J J <| Um J J <| aA (cI (((k - 1 + vs.length : Nat) : Int)) (aR J J om) om) J <| aA (dF (j := k - 1 + vs.length) J J J J om om J) J <| aA (gL (f := d32) (us := us1) (j := k - 1 + vs.length) J J g0 (fun _ => rfl) J (by decide) om J) J <| aA (cI ((u : Int)) (cK J J J) (by rw [IntKind.wrap_u64]; omega)) J <| Um J J <| aA (gO J J) J <| Um J J <| aA (cI (((((u + 18446744073709551616 - c - b) % 18446744073709551616) : Nat) : Int)) (gO J J) om) J <| Ua J J <| Nk [6,7,8,9,10,11,13,21] J <| Rg 8 J <| Um J J <| Um J J <| Um J J <| aA (cI (((k - 1 + vs.length : Nat) : Int)) (aR J J om) om) J <| Um J J <| aA (cI ((d : Int)) (cK J J J) (by rw [IntKind.wrap_u32]; omega)) J <| aA (dF (j := k - 1 + vs.length) J J J J om om J) J <| aY (fT (f := d32) (us := us1) d J J J g0 (fun _ => rfl) J J om J) ?_
  refine Nk [6,7,8,9,10,11,13,21] J <| aB <| Rg 3 J <| Um J J <| aA (cI (((if u < c + b then 1 else 0 : Nat) : Int)) (eM (s := 63) J J om) (by split <;> omega)) J <| aA (eR J J) J <| aW (fun h184 => ?_) (fun h184 => ?_)
  rotate_left
  ·have hneg : c + b ≤ u := by
    rcases Nat.lt_or_ge u (c + b) with h | h
    ·rw [if_pos h] at h184; simp at h184
    ·exact h
   have hs2 := jI (o := 0) (d := d) he1 om (by rw [← hue]; omega)
   rw [Nat.mul_zero, Nat.add_zero] at hs2
   refine Wn <| aT J <| aD ?_
   have hlF : (us1.set (k - 1 + vs.length) d).length = us.length := by rw [List.length_set]; exact hl1
   have hdF : Dg 4294967296 (us1.set (k - 1 + vs.length) d) := hd1.set _ hd4
   have hltF := oK (by decide) hV0 om om (by rw [cQ om]; exact ht1) hs2 hG2
   have hUF := gB (qs := qs) (j := k - 1) om (by rw [show k - 1 + 1 = k by omega]; exact hU) hs2
   refine aH (z := 6) J <| Um J J <| Um J J <| Um J J <| aA (cI ((q1 : Int)) (cK J J J) (by rw [IntKind.wrap_u32]; omega)) J <| aA (dF (j := k - 1) J J J J om om J) J <| aY (fT (f := d32) (us := qs) q1 J J J (g1 (by decide) (g1 (by decide) g0)) (fun _ => rfl) J J om J) <| Wn <| aF <| Ck [6,7,8,9,10,11] J <| aH (z := 3) J <| Um J J <| aA (cI (((k - 1 : Nat) : Int) - 1) (bV J J om) om) J <| Ua J J <| Wn <| aG <| ⟨⟨k - 1, (us1.set (k - 1 + vs.length) d), qs.set (k - 1) q1⟩, ⟨rfl, congrArg some (by rw [List.length_set]), rfl, rfl, congrArg some (by rw [List.length_set]), rfl, trivial⟩, ⟨g1 (by decide) g0, g0, trivial⟩, ⟨by rw [hlF]; omega, by rw [hlF]; exact hul, by rw [List.length_set]; exact hql0, hdF, hqd.set _ om, hUF, hltF, om⟩, by show k - 1 < k; omega⟩
  have hneg : u < c + b := by
   rcases Nat.lt_or_ge u (c + b) with h | h
   ·exact h
   ·rw [if_neg om] at h184; simp at h184
  have hs2 := jI (o := 1) (d := d) he1 om (by rw [← hue]; omega)
  have hlT : (us1.set (k - 1 + vs.length) d).length = us.length := by rw [List.length_set]; exact hl1
  have hdT : Dg 4294967296 (us1.set (k - 1 + vs.length) d) := hd1.set _ hd4
  have htT : (us1.set (k - 1 + vs.length) d).take (k - 1) = us.take (k - 1) := by rw [cQ om]; exact ht1
  have hpT : (us1.set (k - 1 + vs.length) d).drop (k - 1 + vs.length + 1) = us.drop (k - 1 + vs.length + 1) := by rw [dA om]; exact fD hp1 om
  obtain ⟨hgt, hq1p⟩ := neg_gt (by decide) hdT om hlT hRB hpT htT hs2
  refine Wn <| aP J <| aB <| Rg 3 J <| Um J J <| aA (cI (((q1 - 1 : Nat) : Int)) (gO J J) om) J <| Ua J J <| Wn <| aB <| Rg 1 J <| Ua J J <| Wn <| aB <| aB <| Rg 3 J <| Um J J <| aA (aX J J) J <| Um J J <| Nk [6,7,8,9,10,11,13,22,187,188,189] J <| aL <| bA (α := Nat × Nat × (List Nat)) (fun ⟨i2, c2, us3⟩ => [(6, .v (.int .i64 (sh : Int))), (7, .ref (0 + 2 + 8 + 2) 1 0 us3.length), (8, .sl 1 (vs.map d32)), (9, .v (.int .i64 (vs.length : Int))), (10, .ref (0 + 2 + 8 + 9 + 3 + 4) 1 0 qs.length), (11, .v (.int .i64 ((k : Int) - 1))), (13, .v (.int .u64 ((q1 - 1 : Nat) : Int))), (22, .v (.int .u32 (c2 : Int))), (187, .sl 1 (vs.map d32)), (188, .v (.int .i64 (vs.length : Int))), (189, .v (.int .i64 (i2 : Int)))]) (fun ⟨i2, c2, us3⟩ => [((0 + 2 + 8 + 2), { cells := (us3.map d32).flatten, sz := 1, elem := 164, st := 0 }), ((0 + 2 + 8 + 9 + 3 + 4), { cells := (qs.map d32).flatten, sz := 1, elem := 164, st := 0 })]) (fun ⟨i2, c2, us3⟩ n => i2 ≤ vs.length ∧ us3.length = us.length ∧ Dg 4294967296 us3 ∧ c2 ≤ 1 ∧ val 4294967296 us3 + 4294967296 ^ (k - 1 + i2) * c2 = val 4294967296 (us1.set (k - 1 + vs.length) d) + 4294967296 ^ (k - 1) * val 4294967296 (vs.take i2) ∧ us3.take (k - 1) = us.take (k - 1) ∧ us3.drop (k - 1 + vs.length) = (us1.set (k - 1 + vs.length) d).drop (k - 1 + vs.length) ∧ 30 ≤ n) (fun ⟨i2, c2, us3⟩ => vs.length - i2) (0, 0, (us1.set (k - 1 + vs.length) d)) ⟨rfl, congrArg some (by rw [List.length_set]), rfl, rfl, rfl, rfl, rfl, rfl, rfl, rfl, rfl, trivial⟩ ⟨g0, g1 (by decide) (g1 (by decide) g0), trivial⟩ ⟨Nat.zero_le _, hlT, hdT, by decide, by simp [val], htT, rfl, om⟩ ?_
  rintro ⟨i2, c2, us3⟩ n hM
  change WC _ _ _ _ _ (_ :: _) (_ :: _) n _
  obtain ⟨hi2, hl3, hd3, hc3, he3, ht3, hp3, hn33⟩ := hM
  refine Rg 1 J <| aA (bP J J) J <| aW (fun h190 => ?_) (fun h190 => ?_)
  ·refine Wn <| aP J <| aD <| aL <| Rg 5 J <| Um J J <| aA (bS J J J J J om J) J <| aA (dB J J J) J <| Ua J J <| Ua J J <| Nk [6,7,8,9,10,11,13,22,23,24,187,188,189] J ?_
   have hu3 : us3.getD (k - 1 + i2) default < 4294967296 := bH hd3 om
   have hv3 : vs.getD i2 default < 4294967296 := bH hvd om
   refine aH (z := 19) J <| Um J J <| Um J J <| Um J J <| aA (cI (((k - 1 + i2 : Nat) : Int)) (aR J J om) om) J <| Um J J <| Um J J <| Um J J <| aA (cI (((k - 1 + i2 : Nat) : Int)) (aR J J om) om) J <| aA (dF (j := k - 1 + i2) J J J J om om J) J <| aA (gL (f := d32) (us := us3) (j := k - 1 + i2) J J g0 (fun _ => rfl) J (by decide) om J) J <| Um J J <| Um J J <| aA (aN J (jB (us3.getD (k - 1 + i2) default) (vs.getD i2 default) c2 hu3 hv3 hc3) (by simp)) J <| Um J J <| aA (dN J J) J <| aA (dN J J) J <| aA (dF (j := k - 1 + i2) J J J J om om J) J <| aY (fT (f := d32) (us := us3) ((us3.getD (k - 1 + i2) default + vs.getD i2 default + c2) % 4294967296) J J J g0 (fun _ => rfl) J J om J) <| Ua J J <| Wn <| aF <| Ck [6,7,8,9,10,11,13,22,187,188,189] J <| aH (z := 2) J ?_
   refine aA (cI (((i2 + 1 : Nat) : Int)) (aR J J om) om) J <| Um J J <| Wn <| aG <| ⟨⟨i2 + 1, _, us3.set (k - 1 + i2) ((us3.getD (k - 1 + i2) default + vs.getD i2 default + c2) % 4294967296)⟩, ⟨rfl, congrArg some (by rw [List.length_set]), rfl, rfl, rfl, rfl, rfl, rfl, rfl, rfl, rfl, trivial⟩, ⟨g0, g1 (by decide) (g1 (by decide) g0), trivial⟩, ⟨om, by rw [List.length_set]; exact hl3, hd3.set _ om, om, jL he3 om, by rw [cQ om]; exact ht3, by rw [dA om]; exact hp3, om⟩, by show vs.length - (i2 + 1) < vs.length - i2; omega⟩
  refine Wn <| aT J <| aZ <| aQ <| aS J ?_
  have hi' : i2 = vs.length := by omega
  subst hi'
  rw [List.take_of_length_le (Nat.le_refl _)] at he3
  have hu3 : us3.getD (k - 1 + vs.length) default < 4294967296 := bH hd3 om
  refine Rg 10 J <| Um J J <| Um J J <| Um J J <| aA (cI (((k - 1 + vs.length : Nat) : Int)) (aR J J om) om) J <| aA (dF (j := k - 1 + vs.length) J J J J om om J) J <| aA (gL (f := d32) (us := us3) (j := k - 1 + vs.length) J J g0 (fun _ => rfl) J (by decide) om J) J <| Um J J <| aA (cI ((((us3.getD (k - 1 + vs.length) default + c2) % 4294967296 : Nat) : Int)) (oAdd32 J J) om) J <| aA (dF (j := k - 1 + vs.length) J J J J om om J) J <| aY (fT (f := d32) (us := us3) ((us3.getD (k - 1 + vs.length) default + c2) % 4294967296) J J J g0 (fun _ => rfl) J J om J) <| Nk [6,7,8,9,10,11,13] J ?_
  have hlF : (us3.set (k - 1 + vs.length) ((us3.getD (k - 1 + vs.length) default + c2) % 4294967296)).length = us.length := by rw [List.length_set]; exact hl3
  have hdF : Dg 4294967296 (us3.set (k - 1 + vs.length) ((us3.getD (k - 1 + vs.length) default + c2) % 4294967296)) := hd3.set _ om
  have h4 := jK he3 om
  obtain ⟨hs4, hltF⟩ := qL (by decide) hV0 hdF om hlF hRB (by rw [dA om]; exact (fD hp3 om).trans hpT) (by rw [cQ om]; exact ht3) hs2 h4 hG2 hq1p hqo hgt om
  have hUF := gB (qs := qs) (j := k - 1) om (by rw [show k - 1 + 1 = k by omega]; exact hU) hs4
  refine aH (z := 6) J <| Um J J <| Um J J <| Um J J <| aA (cI (((q1 - 1 : Nat) : Int)) (cK J J J) (by rw [IntKind.wrap_u32]; omega)) J <| aA (dF (j := k - 1) J J J J om om J) J <| aY (fT (f := d32) (us := qs) (q1 - 1) J J J (g1 (by decide) (g1 (by decide) g0)) (fun _ => rfl) J J om J) <| Wn <| aF <| aH (z := 3) J <| Um J J <| aA (cI (((k - 1 : Nat) : Int) - 1) (bV J J om) om) J <| Ua J J <| Wn <| aG <| ⟨⟨k - 1, (us3.set (k - 1 + vs.length) ((us3.getD (k - 1 + vs.length) default + c2) % 4294967296)), qs.set (k - 1) (q1 - 1)⟩, ⟨rfl, congrArg some (by rw [List.length_set]), rfl, rfl, congrArg some (by rw [List.length_set]), rfl, trivial⟩, ⟨g1 (by decide) g0, g0, trivial⟩, ⟨by rw [hlF]; omega, by rw [hlF]; exact hul, by rw [List.length_set]; exact hql0, hdF, hqd.set _ om, hUF, hltF, om⟩, by show k - 1 < k; omega⟩
 refine aJ (bF J J) J <| bK (aV kR) J <| Ck [6,7,8,9,10,11,13,14,93,94,95,96,97,98,99,100,101,102,103,104,105,106,107,108,109,110,111,112,113] J <| aP J <| aD <| cO ?_
 obtain ⟨hdc1, hdc2⟩ := lq_dec LQh hG1 hG2 (by first | exact .inl om | exact .inr om)
 refine Rg 3 J <| Um J J <| aA (cI (((qh - 1 : Nat) : Int)) (gO J J) om) J <| Ua J J <| Nk [6,7,8,9,10,11,13,14,93,94,95,96,97,98,99,100,101,102,103,104,105,106,107,108,109,110,111,112] J <| Rg 9 J <| Um J J <| Um J J <| Um J J <| aA (bV J J om) J <| aA (bS (j := vs.length - 1) J J J J om om J) J <| aA (dB J J J) J <| aA (cI ((v1 : Int)) (cK J J J) (by rw [IntKind.wrap_u64]; omega)) J <| aA (cI (((rh + v1 : Nat) : Int)) (jD J J) om) J <| Ua J J <| Nk [6,7,8,9,10,11,13,14,93,94,95,96,97,98,99,100,101,102,103,104,105,106,107,108,109,110,111,112] J <| Rg 2 J <| Um J J <| aA (fJ J J) J <| aW (fun h125 => ?_) (fun h125 => ?_)
 rotate_left
 ·refine Nk [6,7,8,9,10,11,13,14,93,94,95,96,97,98,99,100,101,102,103,104,105,106,107,108,109,110,111,112,125] J <| bZ J <| cE <| cD <| aG <| ⟨⟨qh - 1, rh + v1⟩, ⟨J, J, J, J, J, J, J, J, trivial⟩, ⟨g0, g1 (by decide) g0, trivial⟩, ⟨dec_eq hG1 hdc1, hdc2, om, om, om⟩, by show qh - 1 < qh; omega⟩
 refine Nk [6,7,8,9,10,11,13,14,93,94,95,96,97,98,99,100,101,102,103,104,105,106,107,108,109,110,111,112,125] J <| bU J <| lH <| gV J <| aQ <| aS J <| Ck [6,7,8,9,10,11,13,93,94,95,96,97,98,99,100,101,102,103,104,105,106,107,108,109,110,111,112] J ?_
 obtain ⟨hql, hqo⟩ := lq_break LQh hG1 hdc1 hG4 om hG3
 replace hG2 := hdc2
 obtain ⟨q1, hq1⟩ : ∃ q1, q1 = qh - 1 := ⟨_, rfl⟩
 rw [← hq1] at hqo hql hG2 ⊢
 refine Rg 2 J <| Ua J J <| Ua J J <| Nk [6,7,8,9,10,11,13,15,16,93,94,95,96,97,98,99,100,101,102,103,104,105,106,107,108,109,110,111,112] J <| aB <| Rg 3 J <| Um J J <| aA (aX J J) J <| Um J J <| Nk [6,7,8,9,10,11,13,15,16,93,94,95,96,97,98,99,100,101,102,103,104,105,106,107,108,109,110,111,112,126,127,128] J <| aL ?_
 refine bA (α := Nat × Nat × Nat × (List Nat)) (fun ⟨i, c, b, us1⟩ => [(6, .v (.int .i64 (sh : Int))), (7, .ref (0 + 2 + 8 + 2) 1 0 us1.length), (8, .sl 1 (vs.map d32)), (9, .v (.int .i64 (vs.length : Int))), (10, .ref (0 + 2 + 8 + 9 + 3 + 4) 1 0 qs.length), (11, .v (.int .i64 ((k : Int) - 1))), (13, .v (.int .u64 (q1 : Int))), (15, .v (.int .u64 (b : Int))), (16, .v (.int .u64 (c : Int))), (126, .sl 1 (vs.map d32)), (127, .v (.int .i64 (vs.length : Int))), (128, .v (.int .i64 (i : Int)))]) (fun ⟨i, c, b, us1⟩ => [((0 + 2 + 8 + 2), { cells := (us1.map d32).flatten, sz := 1, elem := 164, st := 0 }), ((0 + 2 + 8 + 9 + 3 + 4), { cells := (qs.map d32).flatten, sz := 1, elem := 164, st := 0 })]) (fun ⟨i, c, b, us1⟩ n => i ≤ vs.length ∧ us1.length = us.length ∧ Dg 4294967296 us1 ∧ c < 4294967296 ∧ b ≤ 1 ∧ val 4294967296 us1 + 4294967296 ^ (k - 1) * (q1 * val 4294967296 (vs.take i)) = val 4294967296 us + 4294967296 ^ (k - 1 + i) * (c + b) ∧ us1.take (k - 1) = us.take (k - 1) ∧ us1.drop (k - 1 + i) = us.drop (k - 1 + i) ∧ 30 ≤ n) (fun ⟨i, c, b, us1⟩ => vs.length - i) (0, 0, 0, us) ⟨J, J, J, J, J, J, J, J, J, J, J, J, trivial⟩ ⟨g0, g1 (by decide) g0, trivial⟩ ⟨Nat.zero_le _, rfl, hud, by decide, by decide, by simp [val], rfl, rfl, om⟩ ?_
 rintro ⟨i, c, b, us1⟩ n hL
 change WC _ _ _ _ _ (_ :: _) (_ :: _) n _
 obtain ⟨hi, hl1, hd1, hc1, hb1, he1, ht1, hp1, hn32⟩ := hL
 refine Rg 1 J <| aA (bP J J) J <| aW (fun h129 => ?_) (fun h129 => ?_)
 ·refine Wn <| aP J <| aD <| aL ?_
  have hvi : vs.getD i default < 4294967296 := bH hvd om
  have hui : us1.getD (k - 1 + i) default < 4294967296 := bH hd1 om
  have hqv := gY hql hvi
  obtain ⟨p, hpe⟩ : ∃ p, p = q1 * vs.getD i default + c := ⟨_, rfl⟩
  obtain ⟨u, hue⟩ : ∃ u, u = us1.getD (k - 1 + i) default := ⟨_, rfl⟩
  have hpb : p < 18446744073709551616 := by omega
  obtain ⟨d, hde⟩ : ∃ d, d = (u + 4294967296 - p % 4294967296 - b) % 4294967296 := ⟨_, rfl⟩
  refine Rg 5 J <| Um J J <| aA (bS J J J J J om J) J <| aA (dB J J J) J <| Ua J J <| Ua J J <| Nk [6,7,8,9,10,11,13,15,16,17,18,126,127,128] J <| Rg 7 J <| Um J J <| Um J J <| aA (cI ((vs.getD i default : Int)) (cK J J J) (by rw [IntKind.wrap_u64]; omega)) J <| aA (cI (((q1 * vs.getD i default : Nat) : Int)) (mF J J) (by rw [← Int.natCast_mul]; omega)) J <| Um J J <| aA (cI ((p : Int)) (jD J J) om) J <| Ua J J <| Nk [6,7,8,9,10,11,13,15,17,19,126,127,128] J <| Rg 3 J <| Um J J <| aA (cI (((p / 4294967296 : Nat) : Int)) (eM (s := 32) J J om) om) J <| Ua J J <| Nk [6,7,8,9,10,11,13,15,16,17,19,126,127,128] J ?_
  refine Rg 14 J <| Um J J <| Um J J <| Um J J <| aA (cI (((k - 1 + i : Nat) : Int)) (aR J J om) om) J <| aA (dF (j := k - 1 + i) J J J J om om J) J <| aA (gL (f := d32) (us := us1) (j := k - 1 + i) J J g0 (fun _ => rfl) J (by decide) om J) J <| aA (cI ((u : Int)) (cK J J J) (by rw [IntKind.wrap_u64]; omega)) J <| Um J J <| aA (cI (((p % 4294967296 : Nat) : Int)) (cK J J J) (by rw [IntKind.wrap_u32]; omega)) J <| aA (cI (((p % 4294967296 : Nat) : Int)) (cK J J J) (by rw [IntKind.wrap_u64]; omega)) J <| aA (gO J J) J <| Um J J <| aA (cI (((((u + 18446744073709551616 - p % 4294967296 - b) % 18446744073709551616) : Nat) : Int)) (gO J J) om) J <| Ua J J <| Nk [6,7,8,9,10,11,13,16,17,20,126,127,128] J <| Rg 8 J <| Um J J <| Um J J <| Um J J <| aA (cI (((k - 1 + i : Nat) : Int)) (aR J J om) om) J <| Um J J <| aA (cI ((d : Int)) (cK J J J) (by rw [IntKind.wrap_u32]; omega)) J ?_
  refine aA (dF (j := k - 1 + i) J J J J om om J) J <| aY (fT (f := d32) (us := us1) d J J J g0 (fun _ => rfl) J J om J) <| Nk [6,7,8,9,10,11,13,16,20,126,127,128] J <| aH (z := 3) J <| Um J J <| aA (cI (((if u < p % 4294967296 + b then 1 else 0 : Nat) : Int)) (eM (s := 63) J J om) (by split <;> omega)) J <| Ua J J <| Wn <| aF <| Ck [6,7,8,9,10,11,13,15,16,126,127,128] J <| aH (z := 2) J <| aA (cI (((i + 1 : Nat) : Int)) (aR J J om) om) J <| Um J J <| Wn <| aG <| ⟨⟨i + 1, p / 4294967296, if u < p % 4294967296 + b then 1 else 0, us1.set (k - 1 + i) d⟩, ⟨rfl, congrArg some (by rw [List.length_set]), rfl, rfl, rfl, rfl, rfl, rfl, rfl, rfl, rfl, rfl, trivial⟩, ⟨g0, g1 (by decide) (g1 (by decide) g0), trivial⟩, ⟨om, by rw [List.length_set]; exact hl1, hd1.set _ om, om, by split <;> omega, ?_, by rw [cQ om]; exact ht1, by rw [dA om]; exact fD hp1 om, om⟩, by show vs.length - (i + 1) < vs.length - i; omega⟩
  rw [hpe]
  exact lD he1 om (by rw [← hpe, ← hue, hde]; split <;> omega)
 refine Wn <| aT J <| aZ <| aQ <| aS J ?_
 have hi' : i = vs.length := by omega
 subst hi'
 rw [List.take_of_length_le (Nat.le_refl _)] at he1
 obtain ⟨u, hue⟩ : ∃ u, u = us1.getD (k - 1 + vs.length) default := ⟨_, rfl⟩
 have hul1 : u < 4294967296 := by rw [hue]; exact bH hd1 om
 obtain ⟨d, hde⟩ : ∃ d, d = (u + 4294967296 - c - b) % 4294967296 := ⟨_, rfl⟩
 have hd4 : d < 4294967296 := by omega
 refine Rg 12 J <| Um J J <| Um J J <| Um J J <| aA (cI (((k - 1 + vs.length : Nat) : Int)) (aR J J om) om) J <| aA (dF (j := k - 1 + vs.length) J J J J om om J) J <| aA (gL (f := d32) (us := us1) (j := k - 1 + vs.length) J J g0 (fun _ => rfl) J (by decide) om J) J <| aA (cI ((u : Int)) (cK J J J) (by rw [IntKind.wrap_u64]; omega)) J <| Um J J <| aA (gO J J) J <| Um J J <| aA (cI (((((u + 18446744073709551616 - c - b) % 18446744073709551616) : Nat) : Int)) (gO J J) om) J <| Ua J J <| Nk [6,7,8,9,10,11,13,21] J <| Rg 8 J <| Um J J <| Um J J <| Um J J <| aA (cI (((k - 1 + vs.length : Nat) : Int)) (aR J J om) om) J <| Um J J <| aA (cI ((d : Int)) (cK J J J) (by rw [IntKind.wrap_u32]; omega)) J <| aA (dF (j := k - 1 + vs.length) J J J J om om J) J <| aY (fT (f := d32) (us := us1) d J J J g0 (fun _ => rfl) J J om J) ?_
 refine Nk [6,7,8,9,10,11,13,21] J <| aB <| Rg 3 J <| Um J J <| aA (cI (((if u < c + b then 1 else 0 : Nat) : Int)) (eM (s := 63) J J om) (by split <;> omega)) J <| aA (eR J J) J <| aW (fun h184 => ?_) (fun h184 => ?_)
 rotate_left
 ·have hneg : c + b ≤ u := by
   rcases Nat.lt_or_ge u (c + b) with h | h
   ·rw [if_pos h] at h184; simp at h184
   ·exact h
  have hs2 := jI (o := 0) (d := d) he1 om (by rw [← hue]; omega)
  rw [Nat.mul_zero, Nat.add_zero] at hs2
  refine Wn <| aT J <| aD ?_
  have hlF : (us1.set (k - 1 + vs.length) d).length = us.length := by rw [List.length_set]; exact hl1
  have hdF : Dg 4294967296 (us1.set (k - 1 + vs.length) d) := hd1.set _ hd4
  have hltF := oK (by decide) hV0 om om (by rw [cQ om]; exact ht1) hs2 hG2
  have hUF := gB (qs := qs) (j := k - 1) om (by rw [show k - 1 + 1 = k by omega]; exact hU) hs2
  refine aH (z := 6) J <| Um J J <| Um J J <| Um J J <| aA (cI ((q1 : Int)) (cK J J J) (by rw [IntKind.wrap_u32]; omega)) J <| aA (dF (j := k - 1) J J J J om om J) J <| aY (fT (f := d32) (us := qs) q1 J J J (g1 (by decide) (g1 (by decide) g0)) (fun _ => rfl) J J om J) <| Wn <| aF <| Ck [6,7,8,9,10,11] J <| aH (z := 3) J <| Um J J <| aA (cI (((k - 1 : Nat) : Int) - 1) (bV J J om) om) J <| Ua J J <| Wn <| aG <| ⟨⟨k - 1, (us1.set (k - 1 + vs.length) d), qs.set (k - 1) q1⟩, ⟨rfl, congrArg some (by rw [List.length_set]), rfl, rfl, congrArg some (by rw [List.length_set]), rfl, trivial⟩, ⟨g1 (by decide) g0, g0, trivial⟩, ⟨by rw [hlF]; omega, by rw [hlF]; exact hul, by rw [List.length_set]; exact hql0, hdF, hqd.set _ om, hUF, hltF, om⟩, by show k - 1 < k; omega⟩
 have hneg : u < c + b := by
  rcases Nat.lt_or_ge u (c + b) with h | h
  ·exact h
  ·rw [if_neg om] at h184; simp at h184
 have hs2 := jI (o := 1) (d := d) he1 om (by rw [← hue]; omega)
 have hlT : (us1.set (k - 1 + vs.length) d).length = us.length := by rw [List.length_set]; exact hl1
 have hdT : Dg 4294967296 (us1.set (k - 1 + vs.length) d) := hd1.set _ hd4
 have htT : (us1.set (k - 1 + vs.length) d).take (k - 1) = us.take (k - 1) := by rw [cQ om]; exact ht1
 have hpT : (us1.set (k - 1 + vs.length) d).drop (k - 1 + vs.length + 1) = us.drop (k - 1 + vs.length + 1) := by rw [dA om]; exact fD hp1 om
 obtain ⟨hgt, hq1p⟩ := neg_gt (by decide) hdT om hlT hRB hpT htT hs2
 refine Wn <| aP J <| aB <| Rg 3 J <| Um J J <| aA (cI (((q1 - 1 : Nat) : Int)) (gO J J) om) J <| Ua J J <| Wn <| aB <| Rg 1 J <| Ua J J <| Wn <| aB <| aB <| Rg 3 J <| Um J J <| aA (aX J J) J <| Um J J <| Nk [6,7,8,9,10,11,13,22,187,188,189] J <| aL <| bA (α := Nat × Nat × (List Nat)) (fun ⟨i2, c2, us3⟩ => [(6, .v (.int .i64 (sh : Int))), (7, .ref (0 + 2 + 8 + 2) 1 0 us3.length), (8, .sl 1 (vs.map d32)), (9, .v (.int .i64 (vs.length : Int))), (10, .ref (0 + 2 + 8 + 9 + 3 + 4) 1 0 qs.length), (11, .v (.int .i64 ((k : Int) - 1))), (13, .v (.int .u64 ((q1 - 1 : Nat) : Int))), (22, .v (.int .u32 (c2 : Int))), (187, .sl 1 (vs.map d32)), (188, .v (.int .i64 (vs.length : Int))), (189, .v (.int .i64 (i2 : Int)))]) (fun ⟨i2, c2, us3⟩ => [((0 + 2 + 8 + 2), { cells := (us3.map d32).flatten, sz := 1, elem := 164, st := 0 }), ((0 + 2 + 8 + 9 + 3 + 4), { cells := (qs.map d32).flatten, sz := 1, elem := 164, st := 0 })]) (fun ⟨i2, c2, us3⟩ n => i2 ≤ vs.length ∧ us3.length = us.length ∧ Dg 4294967296 us3 ∧ c2 ≤ 1 ∧ val 4294967296 us3 + 4294967296 ^ (k - 1 + i2) * c2 = val 4294967296 (us1.set (k - 1 + vs.length) d) + 4294967296 ^ (k - 1) * val 4294967296 (vs.take i2) ∧ us3.take (k - 1) = us.take (k - 1) ∧ us3.drop (k - 1 + vs.length) = (us1.set (k - 1 + vs.length) d).drop (k - 1 + vs.length) ∧ 30 ≤ n) (fun ⟨i2, c2, us3⟩ => vs.length - i2) (0, 0, (us1.set (k - 1 + vs.length) d)) ⟨rfl, congrArg some (by rw [List.length_set]), rfl, rfl, rfl, rfl, rfl, rfl, rfl, rfl, rfl, trivial⟩ ⟨g0, g1 (by decide) (g1 (by decide) g0), trivial⟩ ⟨Nat.zero_le _, hlT, hdT, by decide, by simp [val], htT, rfl, om⟩ ?_
 rintro ⟨i2, c2, us3⟩ n hM
 change WC _ _ _ _ _ (_ :: _) (_ :: _) n _
 obtain ⟨hi2, hl3, hd3, hc3, he3, ht3, hp3, hn33⟩ := hM
 refine Rg 1 J <| aA (bP J J) J <| aW (fun h190 => ?_) (fun h190 => ?_)
 ·refine Wn <| aP J <| aD <| aL <| Rg 5 J <| Um J J <| aA (bS J J J J J om J) J <| aA (dB J J J) J <| Ua J J <| Ua J J <| Nk [6,7,8,9,10,11,13,22,23,24,187,188,189] J ?_
  have hu3 : us3.getD (k - 1 + i2) default < 4294967296 := bH hd3 om
  have hv3 : vs.getD i2 default < 4294967296 := bH hvd om
  refine aH (z := 19) J <| Um J J <| Um J J <| Um J J <| aA (cI (((k - 1 + i2 : Nat) : Int)) (aR J J om) om) J <| Um J J <| Um J J <| Um J J <| aA (cI (((k - 1 + i2 : Nat) : Int)) (aR J J om) om) J <| aA (dF (j := k - 1 + i2) J J J J om om J) J <| aA (gL (f := d32) (us := us3) (j := k - 1 + i2) J J g0 (fun _ => rfl) J (by decide) om J) J <| Um J J <| Um J J <| aA (aN J (jB (us3.getD (k - 1 + i2) default) (vs.getD i2 default) c2 hu3 hv3 hc3) (by simp)) J <| Um J J <| aA (dN J J) J <| aA (dN J J) J <| aA (dF (j := k - 1 + i2) J J J J om om J) J <| aY (fT (f := d32) (us := us3) ((us3.getD (k - 1 + i2) default + vs.getD i2 default + c2) % 4294967296) J J J g0 (fun _ => rfl) J J om J) <| Ua J J <| Wn <| aF <| Ck [6,7,8,9,10,11,13,22,187,188,189] J <| aH (z := 2) J ?_
  refine aA (cI (((i2 + 1 : Nat) : Int)) (aR J J om) om) J <| Um J J <| Wn <| aG <| ⟨⟨i2 + 1, _, us3.set (k - 1 + i2) ((us3.getD (k - 1 + i2) default + vs.getD i2 default + c2) % 4294967296)⟩, ⟨rfl, congrArg some (by rw [List.length_set]), rfl, rfl, rfl, rfl, rfl, rfl, rfl, rfl, rfl, trivial⟩, ⟨g0, g1 (by decide) (g1 (by decide) g0), trivial⟩, ⟨om, by rw [List.length_set]; exact hl3, hd3.set _ om, om, jL he3 om, by rw [cQ om]; exact ht3, by rw [dA om]; exact hp3, om⟩, by show vs.length - (i2 + 1) < vs.length - i2; omega⟩
 refine Wn <| aT J <| aZ <| aQ <| aS J ?_
 have hi' : i2 = vs.length := by omega
 subst hi'
 rw [List.take_of_length_le (Nat.le_refl _)] at he3
 have hu3 : us3.getD (k - 1 + vs.length) default < 4294967296 := bH hd3 om
 refine Rg 10 J <| Um J J <| Um J J <| Um J J <| aA (cI (((k - 1 + vs.length : Nat) : Int)) (aR J J om) om) J <| aA (dF (j := k - 1 + vs.length) J J J J om om J) J <| aA (gL (f := d32) (us := us3) (j := k - 1 + vs.length) J J g0 (fun _ => rfl) J (by decide) om J) J <| Um J J <| aA (cI ((((us3.getD (k - 1 + vs.length) default + c2) % 4294967296 : Nat) : Int)) (oAdd32 J J) om) J <| aA (dF (j := k - 1 + vs.length) J J J J om om J) J <| aY (fT (f := d32) (us := us3) ((us3.getD (k - 1 + vs.length) default + c2) % 4294967296) J J J g0 (fun _ => rfl) J J om J) <| Nk [6,7,8,9,10,11,13] J ?_
 have hlF : (us3.set (k - 1 + vs.length) ((us3.getD (k - 1 + vs.length) default + c2) % 4294967296)).length = us.length := by rw [List.length_set]; exact hl3
 have hdF : Dg 4294967296 (us3.set (k - 1 + vs.length) ((us3.getD (k - 1 + vs.length) default + c2) % 4294967296)) := hd3.set _ om
 have h4 := jK he3 om
 obtain ⟨hs4, hltF⟩ := qL (by decide) hV0 hdF om hlF hRB (by rw [dA om]; exact (fD hp3 om).trans hpT) (by rw [cQ om]; exact ht3) hs2 h4 hG2 hq1p hqo hgt om
 have hUF := gB (qs := qs) (j := k - 1) om (by rw [show k - 1 + 1 = k by omega]; exact hU) hs4
 refine aH (z := 6) J <| Um J J <| Um J J <| Um J J <| aA (cI (((q1 - 1 : Nat) : Int)) (cK J J J) (by rw [IntKind.wrap_u32]; omega)) J <| aA (dF (j := k - 1) J J J J om om J) J <| aY (fT (f := d32) (us := qs) (q1 - 1) J J J (g1 (by decide) (g1 (by decide) g0)) (fun _ => rfl) J J om J) <| Wn <| aF <| aH (z := 3) J <| Um J J <| aA (cI (((k - 1 : Nat) : Int) - 1) (bV J J om) om) J <| Ua J J <| Wn <| aG <| ⟨⟨k - 1, (us3.set (k - 1 + vs.length) ((us3.getD (k - 1 + vs.length) default + c2) % 4294967296)), qs.set (k - 1) (q1 - 1)⟩, ⟨rfl, congrArg some (by rw [List.length_set]), rfl, rfl, congrArg some (by rw [List.length_set]), rfl, trivial⟩, ⟨g1 (by decide) g0, g0, trivial⟩, ⟨by rw [hlF]; omega, by rw [hlF]; exact hul, by rw [List.length_set]; exact hql0, hdF, hqd.set _ om, hUF, hltF, om⟩, by show k - 1 < k; omega⟩
end Go.Proofs.YtcblgjaomljikaaGreat
set_option maxHeartbeats 1000000
namespace Go.Proofs.YtcblgjaomljikaaGreat
open Go.Ab Go.RowKit
theorem nR (v w : Int) (hw0 : w ≠ 0) (hv : len32 v < 549755813888) (hw : len32 w < 549755813888) : Run Tryz.prog T E0 (.call 140 [lvI v, lvI w] (.tup [lvI (v.tdiv w), lvI (v.tmod w)])) := by
 obtain ⟨xs, hxs, dv, qv, tv, lxv⟩ := xs_of v
 obtain ⟨ys, hys, dw, qw, tw, lyw⟩ := xs_of w
 have bv := pA v
 have bw := pA w
 have hwa : 0 < w.natAbs := by omega
 have hyl : 0 < ys.length := by
  rcases Nat.eq_zero_or_pos ys.length with h | h
  ·rw [List.length_eq_zero_iff.1 h] at dw; simp [val] at dw; omega
  ·exact h
 refine bC Tryz.func140 J J (cX J) ?_
 have J3 : ∀  (n : Nat) , WC Tryz.prog T E0 Tryz.f140.ntmps (codeR (codeR (codeOf Tryz.f140))) [(2, .ptr 0 0), (3, .ptr 1 0), (4, .ptr 2 0), (5, .ptr 3 0)] [(3, { cells := [.v (.int .i64 0), .sl 0 []], sz := 2, elem := 101, st := 0 }), (2, { cells := [.v (.int .i64 0), .sl 0 []], sz := 2, elem := 101, st := 0 }), (1, { cells := (lvI w).cells, sz := 2, elem := 101, st := 0 }), (0, { cells := (lvI v).cells, sz := 2, elem := 101, st := 0 })] n (Post T Tryz.f140.results.toList (.tup [lvI (v.tdiv w), lvI (v.tmod w)])) := by
  intro  n
  refine Rg 7 J <| aA (aO (l := .agg [_, _]) J J J J J) J <| aA (aN J ((hxs ▸ eV v)) (by simp)) J <| Um J J <| aA (dN J J) J <| aA (dN J J) J <| Ua J J <| Ua J J <| Wn <| Rg 7 J <| aA (aO (l := .agg [_, _]) J J J J J) J <| aA (aN J ((hys ▸ eV w)) (by simp)) J <| Um J J <| aA (dN J J) J <| aA (dN J J) J <| Ua J J <| Ua J J <| Nk [2,4,5,6,7,8,9] J <| aB <| Rg 4 J <| Um J J <| Um J J <| aA (aN J (kI 1 1 xs ys qv qw tv tw om om) (by simp)) J ?_
  refine aA (bP J J) J <| aW (fun h47 => ?_) (fun h47 => ?_)
  ·refine Wn <| aP J <| aB <| bQ (z := 4) J kR <| aJ (fH (cs := [_, _]) J J J J J) J <| aJ (aO (l := .agg [_, _]) J J J J J) J <| cU (cH (cs' := [_, _]) J J J J J J J J) <| cU (cH (cs' := [_, _]) J J J J J J J J) <| bK (aV kR) J <| aU <| post (n := 0) (.inr J) J ?_ (by simp)
   obtain ⟨e1, e2⟩ := quo_small (v := v) (w := w) (by have := Int.sign_neg_iff.1 (show ((val 4294967296 xs : Int) - val 4294967296 ys).sign < 0 from h47); omega)
   rw [e1, e2]; rfl
  refine Wn <| aT J <| aD <| aB ?_
  have hge : val 4294967296 ys ≤ val 4294967296 xs := by
   rcases Nat.lt_or_ge (val 4294967296 xs) (val 4294967296 ys) with h | h
   ·exact absurd (Int.sign_neg_iff.2 (show (val 4294967296 xs : Int) - val 4294967296 ys < 0 by omega)) h47
   ·exact h
  have hv0 : v ≠ 0 := by omega
  have hpm := sign_pm hv0 hw0
  have hp1 := sign_1 hv0
  have hll : ys.length ≤ xs.length := by
   rcases Nat.lt_or_ge xs.length ys.length with h | h
   ·have := dM (by decide) qv tw h; omega
   ·exact h
  obtain ⟨σ, hσ⟩ : ∃ σ, σ = v.sign * w.sign := ⟨_, rfl⟩
  rw [← hσ] at hpm
  refine Rg 3 J <| Um J J <| aA (aX J J) J <| aA (eR J J) J <| aW (fun h52 => ?_) (fun h52 => ?_)
  rotate_left
  ·refine Wn <| aT J <| aD ?_
   have hy2 : 2 ≤ ys.length := by omega
   obtain ⟨r, hr, qs, rs, rfl, hqd, hrd, hval, hrest, hql, hrl⟩ := long_run 1 1 xs ys qv qw tw hy2 hll om
   obtain ⟨hq1, hq2⟩ := lP (v := v) (w := w) (q := val 4294967296 qs) (r := val 4294967296 rs) (by rw [← dw, ← dv]; exact hval) (by rw [← dw]; exact hrest)
   refine Rg 8 J <| Um J J <| Um J J <| aA (aN J (hr) (by simp)) J <| Um J J <| aA (dN J J) J <| aA (dN J J) J <| Ua J J <| Ua J J <| Nk [4,5,6,8,12,13] J <| Rg 10 J <| Um J J <| Um J J <| aA (cI σ (eS J J (by rw [← hσ]; omega)) hσ.symm) J <| Um J J <| aA (aN J (eX σ 1 qs om (.inl J) hqd om) (by simp)) J <| Um J J <| Um J J <| aA (aN J (eX v.sign 1 rs om (.inl J) hrd om) (by simp)) J <| aY (cH (cs' := [_, _]) J J J J J J J J) <| aY (cH (cs' := [_, _]) J J J J J J J J) <| Wn <| aM ?_
   refine post (n := 0) (.inr J) J ?_ (by simp)
   rw [hq1, hq2, ← hσ]; rfl
  refine Wn <| aP J <| aB ?_
  have hy1 : ys.length = 1 := by omega
  have hyv : val 4294967296 ys = ys.getD 0 default := by
   obtain ⟨y, rfl⟩ := List.length_eq_one_iff.1 hy1
   simp [val]
  have hyb : ys.getD 0 default < 4294967296 := bH qw om
  obtain ⟨r, hr, ds, rest, rfl, hdd, hrest, hval, hlen⟩ := short_run 1 xs (ys.getD 0 default) qv om hyb om
  obtain ⟨hq1, hq2⟩ := lP (v := v) (w := w) (q := val 4294967296 ds) (r := rest) (by rw [← dw, ← dv, hyv]; exact hval) (by rw [← dw, hyv]; exact hrest)
  have hrd : Dg 4294967296 [rest] := by intro d hd; simp at hd; omega
  refine Rg 10 J <| Um J J <| Um J J <| aA (bS (j := 0) J J J J om om J) J <| aA (dB J J J) J <| aA (aN J (hr) (by simp)) J <| Um J J <| aA (dN J J) J <| aA (dN J J) J <| Ua J J <| Ua J J <| Nk [4,5,6,8,10,11] J <| aB <| Rg 11 J <| Um J J <| Um J J <| aA (cI σ (eS J J (by rw [← hσ]; omega)) hσ.symm) J <| Um J J <| aA (aN J (eX σ 1 ds om (.inl J) hdd om) (by simp)) J <| Um J J <| Um J J <| aA (cS (cs := [_]) (rows := [[_]]) J J (by decide) J J J) J <| aA (aN J (eX v.sign 2 [rest] om (.inr J) hrd (by simp)) (by simp)) J ?_
  refine aY (cH (cs' := [_, _]) J J J J J J J J) <| aY (cH (cs' := [_, _]) J J J J J J J J) <| Nk [4,5] J <| aU <| post (n := 0) (.inr J) J ?_ (by simp)
  rw [hq1, hq2, ← hσ]; exact congrArg (fun z => LV.tup [lvI (σ * (val 4294967296 ds : Int)), lvI (v.sign * z)]) (by simp [val])
 refine Rg 4 J <| bD (dY J J) J <| bD (dY J J) J <| bD (dX J) J <| bD (dX J) J <| Wn <| aB <| Rg 8 J <| aA (bB J J J J J) J <| aA (aO J J J J J) J <| aA (rF J J) J <| dC (fun h16 => ?_) (fun h16 => ?_)
 rotate_left
 ·refine Um J J <| K1 J J <| K1 J J <| K1 J J <| aA (bF J J) J <| Wn <| aT J <| aD <| Ck [2,3,4,5] J ?_
  exact J3 _
 refine Um J J <| aE J (bB J J J J J) J <| aE J (aO J J J J J) J <| aE J (rF J J) J <| dC (fun h20 => ?_) (fun h20 => ?_)
 rotate_left
 ·refine aA (bG J J) J <| Wn <| aT J <| aD <| Ck [2,3,4,5] J ?_
  exact J3 _
 refine aA (bG J J) J <| Wn <| aP J <| aB ?_
 have hia := dJ (pB.1 h16)
 have hiw := dJ (pB.1 h20)
 have sv := pB.1 h16
 have b1 : (v.tdiv w).natAbs ≤ v.natAbs := by rw [Int.natAbs_tdiv]; exact Nat.div_le_self _ _
 have b2 : (v.tmod w).natAbs ≤ v.natAbs := by rw [Int.natAbs_tmod]; exact Nat.mod_le _ _
 unfold small at sv
 refine bQ (z := 14) J kR <| aJ (bB J J J J J) J <| aJ (cI v (aO J J J J J) hia) J <| aJ (bB J J J J J) J <| aJ (cI w (aO J J J J J) hiw) J <| aJ (jV J J hw0 om) J <| aJ (fH (cs := [_, _]) J J J J J) J <| aJ (bB J J J J J) J <| aJ (cI v (aO J J J J J) hia) J <| aJ (bB J J J J J) J <| aJ (cI w (aO J J J J J) hiw) J <| aJ (oRem J J hw0) J <| aJ (fH (cs := [_, _]) J J J J J) J <| cU (cH (cs' := [_, _]) J J J J J J J J) <| cU (cH (cs' := [_, _]) J J J J J J J J) <| bK (aV kR) J <| Ck [4,5] J <| aU <| post (n := 0) (.inr J) J ?_ (by simp)
 rw [jC (v := v.tdiv w) (by unfold small; omega), jC (v := v.tmod w) (by unfold small; omega)]; rfl
theorem gcd_run (v w : Int) (hv : len32 v < 549755813888) (hw : len32 w < 549755813888) : Run Tryz.prog T E0 (.call 137 [lvI v, lvI w] (lvI (v.gcd w : Nat))) := by
 refine bC Tryz.func137 J J (cX J) <| Rg 3 J <| bD (dY J J) J <| bD (dY J J) J <| bD (dX J) J <| Wn <| bQ (z := 6) J kR <| aJ (aO (l := .agg [_, _]) J J J J J) J <| aJ (aN J (abs_run _) (by simp)) J <| aJ (aO (l := .agg [_, _]) J J J J J) J <| aJ (aN J (abs_run _) (by simp)) J <| cU (cH (cs' := [_, _]) J J J J J J J J) <| cU (cH (cs' := [_, _]) J J J J J J J J) <| bK (aV kR) J <| aL <| bA (α := Nat × Nat) (fun ⟨a, b⟩ => [(2, .ptr 0 0), (3, .ptr 1 0), (4, .ptr 2 0)]) (fun ⟨a, b⟩ => [(0, { cells := (lvI (a : Int)).cells, sz := 2, elem := 101, st := 0 }), (1, { cells := (lvI (b : Int)).cells, sz := 2, elem := 101, st := 0 }), (2, { cells := [.v (.int .i64 0), .sl 0 []], sz := 2, elem := 101, st := 0 })]) (fun ⟨a, b⟩ n => Nat.gcd a b = v.gcd w ∧ len32 (a : Int) < 549755813888 ∧ len32 (b : Int) < 549755813888 ∧ 3 ≤ n) (fun ⟨a, b⟩ => b) (v.natAbs, w.natAbs) ⟨J, J, J, trivial⟩ ⟨J, J, J, trivial⟩ ⟨rfl, by rw [len32_nat]; exact hv, by rw [len32_nat]; exact hw, om⟩ ?_
 rintro ⟨a, b⟩ n hF
 change WC _ _ _ _ _ (_ :: _) (_ :: _) n _
 obtain ⟨hg, hla, hlb, hn3⟩ := hF
 refine aB <| Rg 3 J <| aA (aO (l := .agg [_, _]) J J J J J) J <| aA (aN J (jG _) (by simp)) J <| aA (fS J J) J <| aW (fun h13 => ?_) (fun h13 => ?_)
 rotate_left
 ·refine Wn <| aT J <| aZ <| aQ <| aS J <| Rg 2 J <| aA (aO (l := .agg [_, _]) J J J J J) J <| aY (cH (cs' := [_, _]) J J J J J J J J) <| Wn <| aM <| post (n := 0) (.inr J) J ?_ (by simp)
  have hb0 : b = 0 := by
   have := Int.sign_eq_zero_iff_zero (a := (b : Int)); omega
  subst hb0
  rw [Nat.gcd_zero_right] at hg
  rw [← hg]; rfl
 refine Wn <| aP J <| aD <| cO ?_
 have hb0 : 0 < b := by
  rcases Nat.eq_zero_or_pos b with h | h
  ·subst h; simp at h13
  ·exact h
 have hm : (a : Int).tmod b = ((a % b : Nat) : Int) := by rw [Int.tmod_eq_emod_of_nonneg om]; simp
 have hlm : len32 ((a % b : Nat) : Int) < 549755813888 := by rw [← hm]; have := len32_tmod (a : Int) (b : Int); omega
 refine Rg 10 J <| aA (aO (l := .agg [_, _]) J J J J J) J <| aA (aO (l := .agg [_, _]) J J J J J) J <| aA (aN J (nR (a : Int) (b : Int) om hla hlb) (by simp)) J <| Um J J <| aA (dN J J) J <| aA (bL (b := lvI ((a % b : Nat) : Int)) (dN J J) (by rw [hm])) J <| bD (dX J) J <| bD (dX J) J <| aY (cH (cs' := [_, _]) J J J (g1 om g0) J J J J) <| aY (cH (cs' := [_, _]) J J J (g1 om g0) J J J J) <| Wn <| dQ (z := 4) J kR <| aJ (aO (l := .agg [_, _]) J J (g1 om (g1 om (g1 om (g1 om (g1 (by decide) g0))))) J J) J <| aJ (aO (l := .agg [_, _]) J J g0 J J) J <| cU (cH (cs' := [_, _]) J J J (g1 om (g1 om (g1 om (g1 om g0)))) J J J J) <| cU (cH (cs' := [_, _]) J J J (g1 (by decide) (g1 om (g1 om (g1 om (g1 om (g1 (by decide) g0)))))) J J J J) <| bK (aV kR) J <| cD <| aG <| ⟨⟨b, a % b⟩, ⟨J, J, J, trivial⟩, ⟨g1 (by decide) g0, g0, g1 (by decide) (g1 (by decide) (g1 om (g1 om (g1 om (g1 om (g1 (by decide) (g1 (by decide) g0))))))), trivial⟩, ⟨by rw [← hg, Nat.gcd_comm b, ← Nat.gcd_rec b a, Nat.gcd_comm], hlb, hlm, om⟩, Nat.mod_lt _ hb0⟩
theorem oR (v w : Int) (hw0 : w ≠ 0) (hv : len32 v < 549755813888) (hw : len32 w < 549755813888) : Run Tryz.prog T E0 (.call 111 [lvI v, lvI w] (lvX (Rat.divInt v w, false))) := by
 have hgp : 0 < v.gcd w := Int.gcd_pos_of_ne_zero_right _ hw0
 obtain ⟨hL1, hL2⟩ := lQ (a := v) hw0
 have hlg : len32 ((v.gcd w : Nat) : Int) < 549755813888 := by
  have h1 : v.gcd w ≤ w.natAbs := Nat.le_of_dvd om (Nat.gcd_dvd_right _ _)
  have := mJ (v := ((v.gcd w : Nat) : Int)) (w := w) (by simpa using h1)
  omega
 obtain ⟨g, hg⟩ : ∃ g : Int, g = (v.gcd w : Nat) := ⟨_, rfl⟩
 rw [← hg] at hL1 hL2 hlg
 refine bC Tryz.func111 J J (cX J) ?_
 have J5 : ∀ (a b : Int) (ha : a = v.tdiv g) (hb : b = w.tdiv g) (n : Nat) , WC Tryz.prog T E0 Tryz.f111.ntmps (codeR (codeR (codeOf Tryz.f111))) [(2, .ptr 0 0), (3, .ptr 1 0), (4, .ptr 2 0)] [(0, { cells := (lvI a).cells, sz := 2, elem := 101, st := 0 }), (1, { cells := (lvI b).cells, sz := 2, elem := 101, st := 0 }), (2, { cells := [.v (.int .i64 0), .sl 0 [], .v (.int .i64 0), .sl 0 []], sz := 4, elem := 103, st := 0 })] n (Post T Tryz.f111.results.toList (lvX (Rat.divInt v w, false))) := by
  intro a b ha hb n
  subst ha hb
  refine aB <| Rg 3 J <| aA (aO (l := .agg [_, _]) J J J J J) J <| aA (aN J (jG _) (by simp)) J <| aA (bP J J) J <| aW (fun h31 => ?_) (fun h31 => ?_)
  rotate_left
  ·refine Wn <| aT J <| aD <| Rg 4 J <| aA (aO (l := .agg [_, _]) J J J J J) J <| aA (aO (l := .agg [_, _]) J J J J J) J <| aA (fH (cs := [_, _, _, _]) J J J J J) J <| aY (cH (cs' := [_, _, _, _]) J J J J J J J J) <| Wn <| aM <| post (n := 0) (.inr J) J ?_ (by simp)
   obtain ⟨h1, h2⟩ := hL2 (by have := @Int.sign_neg_iff (w.tdiv g); omega)
   rw [lvX_f, ← h1, ← h2]; rfl
  refine Wn <| aP J <| bQ (z := 6) J kR <| aJ (aO (l := .agg [_, _]) J J J J J) J <| aJ (aN J (qC _) (by simp)) J <| aJ (aO (l := .agg [_, _]) J J J J J) J <| aJ (aN J (qC _) (by simp)) J <| cU (cH (cs' := [_, _]) J J J J J J J J) <| cU (cH (cs' := [_, _]) J J J J J J J J) <| bK (aV kR) J <| Rg 4 J <| aA (aO (l := .agg [_, _]) J J J J J) J <| aA (aO (l := .agg [_, _]) J J J J J) J <| aA (fH (cs := [_, _, _, _]) J J J J J) J <| aY (cH (cs' := [_, _, _, _]) J J J J J J J J) <| Wn <| aM <| post (n := 0) (.inr J) J ?_ (by simp)
  obtain ⟨h1, h2⟩ := hL1 (Int.sign_neg_iff.1 h31)
  rw [lvX_f, ← h1, ← h2]; rfl
 refine Rg 3 J <| bD (dY J J) J <| bD (dY J J) J <| bD (dX J) J <| Wn <| aB <| Rg 5 J <| aA (aO (l := .agg [_, _]) J J J J J) J <| aA (aO (l := .agg [_, _]) J J J J J) J <| aA (aN J (hg ▸ gcd_run v w hv hw) (by simp)) J <| bD (dX J) J <| aY (cH (cs' := [_, _]) J J J J J J J J) <| Wn <| aB <| Rg 8 J <| aA (bB J J J J J) J <| aA (aO J J J J J) J <| aA (fS J J) J <| aW (fun h11 => ?_) (fun h11 => ?_)
 ·refine Um J J <| K1 J J <| K1 J J <| K1 J J <| aA (bG J J) J <| Nk [2,3,4,5,16] J <| aP J <| aB <| Rg 7 J <| aA (aO (l := .agg [_, _]) J J J J J) J <| aA (aO (l := .agg [_, _]) J J J J J) J <| aA (aN J (nR v g om hv hlg) (by simp)) J <| Um J J <| aA (dN J J) J <| aA (dN J J) J <| aY (cH (cs' := [_, _]) J J J J J J J J) <| Wn <| Rg 7 J <| aA (aO (l := .agg [_, _]) J J J J J) J <| aA (aO (l := .agg [_, _]) J J J J J) J <| aA (aN J (nR w g om hw hlg) (by simp)) J <| Um J J <| aA (dN J J) J ?_
  refine aA (dN J J) J <| aY (cH (cs' := [_, _]) J J J J J J J J) <| Nk [2,3,4] J <| Ck [2,3,4] J <| eL _ ?_ (J5 _ _ J J _)
  exact ⟨J, J, J, trivial⟩
 refine Um J J <| aE J (bB J J J J J) J <| aE J (aO J J J J J) J <| aE J (oNilN J J) J <| dC (fun h15 => ?_) (fun h15 => ?_)
 rotate_left
 ·refine aA (bF J J) J <| Nk [2,3,4,5,16] J <| aT J <| aD <| Ck [2,3,4] J ?_
  have h1 : g = 1 := by
   have := dJ (qX.1 h15); omega
  have e1 : v = v.tdiv g := by rw [h1]; simp
  have e2 : w = w.tdiv g := by rw [h1]; simp
  refine eL _ ?_ (J5 _ _ e1 e2 _)
  exact ⟨J, J, J, trivial⟩
 refine aA (bF J J) J <| Nk [2,3,4,5,16] J <| aP J <| aB <| Rg 7 J <| aA (aO (l := .agg [_, _]) J J J J J) J <| aA (aO (l := .agg [_, _]) J J J J J) J <| aA (aN J (nR v g om hv hlg) (by simp)) J <| Um J J <| aA (dN J J) J <| aA (dN J J) J <| aY (cH (cs' := [_, _]) J J J J J J J J) <| Wn <| Rg 7 J <| aA (aO (l := .agg [_, _]) J J J J J) J <| aA (aO (l := .agg [_, _]) J J J J J) J <| aA (aN J (nR w g om hw hlg) (by simp)) J <| Um J J <| aA (dN J J) J <| aA (dN J J) J <| aY (cH (cs' := [_, _]) J J J J J J J J) <| Nk [2,3,4] J ?_
 refine Ck [2,3,4] J <| eL _ ?_ (J5 _ _ J J _)
 exact ⟨J, J, J, trivial⟩
theorem isw_run (x : X) : Run Tryz.prog T E0 (.call 119 [lvX x] (.v (.bool (xw x)))) := by
 refine bC Tryz.func119 J J (cX J) <| Rg 2 J <| bD (dY J J) J <| Ua J J <| Wn <| Rg 11 J <| aA (bB J J J J J) J <| aA (bB J J J J J) J <| aA (aO J J J J J) J <| aA (rF J J) J <| dC (fun h6 => ?_) (fun h6 => ?_)
 ·refine Um J J <| aE J (bB J J J J J) J <| aE J (bB J J J J J) J <| aE J (aO J J J J J) J <| aE J (mO J J) J <| aA (bG J J) J <| Ua J J <| Wn <| aM <| post (n := 0) (.inr J) J ?_ (by simp)
  have h1 : decide (ia (xlow x) ≤ 1) = xw x := by
   rw [dJ (pB.1 h6)]; exact decide_eq_decide.2 (xlow_one x)
  exact congrArg (fun z => LV.v (.bool z)) h1
 refine Um J J <| K1 J J <| K1 J J <| K1 J J <| K1 J J <| aA (bF J J) J <| Ua J J <| Wn <| aM <| post (n := 0) (.inr J) J ?_ (by simp)
 have h1 : false = xw x := by
  have h2 := ik_ne.1 h6
  have h3 := xlow_one x
  have h4 : ¬ x.1.den = 1 := fun k => h2 (by have := h3.2 k; have := xlow_nonneg x; unfold small; omega)
  unfold xw; rw [decide_eq_false h4]
 exact congrArg (fun z => LV.v (.bool z)) h1
theorem gE (x : X) : Run Tryz.prog T E0 (.call 120 [lvX x] (lvI (x.1.den : Int))) := by
 refine bC Tryz.func120 J J (cX J) <| Rg 2 J <| bD (dY J J) J <| bD (dX J) J <| Wn <| aB <| Rg 4 J <| aA (bB J J J J J) J <| aA (aO (l := .agg [_, _]) J J J J J) J <| aA (aN J (jG _) (by simp)) J <| aA (eR J J) J <| aW (fun h6 => ?_) (fun h6 => ?_)
 ·refine Wn <| aP J <| aB <| Rg 2 J <| aA (aN J (one_run) (by simp)) J <| aY (cH (cs' := [_, _]) J J J J J J J J) <| Wn <| aU <| post (n := 0) (.inr J) J ?_ (by simp)
  rw [xlow_zero (Int.sign_eq_zero_iff_zero.1 h6)]; rfl
 refine Wn <| aT J <| aD <| Rg 3 J <| aA (bB J J J J J) J <| aA (aO (l := .agg [_, _]) J J J J J) J <| aY (cH (cs' := [_, _]) J J J J J J J J) <| Wn <| aM <| post (n := 0) (.inr J) J ?_ (by simp)
 rw [← xlow_ne (fun k => h6 (by rw [k]; rfl))]; rfl
theorem top_run (x : X) : Run Tryz.prog T E0 (.call 123 [lvX x] (lvI x.1.num)) := by
 refine bC Tryz.func123 J J (cX J) <| Rg 2 J <| bD (dY J J) J <| bD (dX J) J <| Wn <| Rg 3 J <| aA (bB J J J J J) J <| aA (aO (l := .agg [_, _]) J J J J J) J <| aY (cH (cs' := [_, _]) J J J J J J J J) <| Wn <| aM <| post (n := 0) (.inr J) J ?_ (by simp)
 rfl
theorem rsign_run (x : X) : Run Tryz.prog T E0 (.call 94 [lvX x] (.v (.int .i64 x.1.num.sign))) := by
 refine bC Tryz.func94 J J (cX J) <| Rg 2 J <| bD (dY J J) J <| Ua J J <| Wn <| Rg 4 J <| aA (bB J J J J J) J <| aA (aO (l := .agg [_, _]) J J J J J) J <| aA (aN J (jG x.1.num) (by simp)) J <| Ua J J <| Wn <| aM ?_
 exact post (n := 0) (.inr J) J J (by simp)
theorem rneg_run (x : X) : Run Tryz.prog T E0 (.call 143 [lvX x] (lvX (xneg x))) := by
 refine bC Tryz.func143 J J (cX J) <| Rg 2 J <| bD (dY J J) J <| bD (dX J) J <| Wn <| bQ (z := 7) J kR <| aJ (bB J J J J J) J <| aJ (aO (l := .agg [_, _]) J J J J J) J <| aJ (aN J (qC x.1.num) (by simp)) J <| aJ (bB J J J J J) J <| aJ (aO (l := .agg [_, _]) J J J J J) J <| aJ (fH (cs := [_, _, _, _]) J J J J J) J <| cU (cH (cs' := [_, _, _, _]) J J J J J J J J) <| bK (aV kR) J <| aM <| post (n := 0) (.inr J) J ?_ (by simp)
 rw [lvX_neg]; rfl
theorem whole_run (v : Int) (hv : I64 v) : Run Tryz.prog T E0 (.call 88 [.v (.int .i64 v)] (lvX (xint v))) := by
 unfold I64 at hv
 refine bC Tryz.func88 J J (cX J) <| Rg 1 J <| bD (dX J) J <| Wn <| Rg 4 J <| Um J J <| aA (aN J (jW _ om) (by simp)) J <| aA (fH (cs := [_, _, _, _]) J J J J J) J <| aY (cH (cs' := [_, _, _, _]) J J J J J J J J) <| Wn <| aM <| post (n := 0) (.inr J) J ?_ (by simp)
 rw [lvX_int]; rfl
theorem nS (x y : X) (hx : Bd 68719476736 x.1) (hy : Bd 68719476736 y.1) : Run Tryz.prog T E0 (.call 77 [lvX x, lvX y] (lvX (xadd x y))) := by
 obtain ⟨hx1, hx2⟩ := hx
 obtain ⟨hy1, hy2⟩ := hy
 have m1 := eD x.1.num y.1.den
 have m2 := eD y.1.num x.1.den
 have m3 := len32_add (x.1.num * y.1.den) (y.1.num * x.1.den)
 have m4 := eD x.1.den y.1.den
 refine bC Tryz.func77 J J (cX J) <| Rg 3 J <| bD (dY J J) J <| bD (dY J J) J <| bD (dX J) J <| Wn <| aB <| Rg 6 J <| aA (aO (l := .agg [_, _, _, _]) J J J J J) J <| aA (aN J (isw_run x) (by simp)) J <| dC (fun h6 => ?_) (fun h6 => ?_)
 rotate_left
 ·refine Um J J <| K1 J J <| K1 J J <| aA (bF J J) J <| Wn <| aT J <| aD <| bQ (z := 18) J kR <| aJ (bB J J J J J) J <| aJ (aO (l := .agg [_, _]) J J J J J) J <| aJ (aO (l := .agg [_, _, _, _]) J J J J J) J <| aJ (aN J (gE y) (by simp)) J <| aJ (aN J (iU x.1.num y.1.den om om) (by simp)) J <| aJ (bB J J J J J) J <| aJ (aO (l := .agg [_, _]) J J J J J) J <| aJ (aO (l := .agg [_, _, _, _]) J J J J J) J <| aJ (aN J (gE x) (by simp)) J <| aJ (aN J (iU y.1.num x.1.den om om) (by simp)) J <| aJ (aN J (pS (x.1.num * y.1.den) (y.1.num * x.1.den) om om) (by simp)) J <| aJ (aO (l := .agg [_, _, _, _]) J J J J J) J <| aJ (aN J (gE x) (by simp)) J <| aJ (aO (l := .agg [_, _, _, _]) J J J J J) J <| aJ (aN J (gE y) (by simp)) J <| aJ (aN J (iU x.1.den y.1.den om om) (by simp)) J ?_
  refine aJ (aN J (oR (x.1.num * y.1.den + y.1.num * x.1.den) (x.1.den * y.1.den) (Int.mul_ne_zero (iG _) (iG _)) om om) (by simp)) J <| cU (cH (cs' := [_, _, _, _]) J J J J J J J J) <| bK (aV kR) J <| Ck [4] J <| aM <| post (n := 0) (.inr J) J ?_ (by simp)
  rw [xadd_f (by rw [h6]; rfl)]; rfl
 refine Um J J <| aE J (aO (l := .agg [_, _, _, _]) J J J J J) J <| aE J (aN J (isw_run y) (by simp)) J <| dC (fun h9 => ?_) (fun h9 => ?_)
 ·refine aA (bG J J) J <| Wn <| aP J <| aB <| Rg 7 J <| aA (bB J J J J J) J <| aA (aO (l := .agg [_, _]) J J J J J) J <| aA (bB J J J J J) J <| aA (aO (l := .agg [_, _]) J J J J J) J <| aA (aN J (pS x.1.num y.1.num om om) (by simp)) J <| aA (fH (cs := [_, _, _, _]) J J J J J) J <| aY (cH (cs' := [_, _, _, _]) J J J J J J J J) <| Nk [4] J <| aU <| post (n := 0) (.inr J) J ?_ (by simp)
  rw [xadd_w h6 h9]; rfl
 refine aA (bG J J) J <| Wn <| aT J <| aD <| bQ (z := 18) J kR <| aJ (bB J J J J J) J <| aJ (aO (l := .agg [_, _]) J J J J J) J <| aJ (aO (l := .agg [_, _, _, _]) J J J J J) J <| aJ (aN J (gE y) (by simp)) J <| aJ (aN J (iU x.1.num y.1.den om om) (by simp)) J <| aJ (bB J J J J J) J <| aJ (aO (l := .agg [_, _]) J J J J J) J <| aJ (aO (l := .agg [_, _, _, _]) J J J J J) J <| aJ (aN J (gE x) (by simp)) J <| aJ (aN J (iU y.1.num x.1.den om om) (by simp)) J <| aJ (aN J (pS (x.1.num * y.1.den) (y.1.num * x.1.den) om om) (by simp)) J <| aJ (aO (l := .agg [_, _, _, _]) J J J J J) J <| aJ (aN J (gE x) (by simp)) J <| aJ (aO (l := .agg [_, _, _, _]) J J J J J) J <| aJ (aN J (gE y) (by simp)) J <| aJ (aN J (iU x.1.den y.1.den om om) (by simp)) J <| aJ (aN J (oR (x.1.num * y.1.den + y.1.num * x.1.den) (x.1.den * y.1.den) (Int.mul_ne_zero (iG _) (iG _)) om om) (by simp)) J <| cU (cH (cs' := [_, _, _, _]) J J J J J J J J) <| bK (aV kR) J ?_
 refine Ck [4] J <| aM <| post (n := 0) (.inr J) J ?_ (by simp)
 rw [xadd_f (by rw [h6, h9]; rfl)]; rfl
theorem nI (a : NM) (h1 : I64 a.1) (h2 : I64 a.2) (h0 : a.2 ≠ 0) : Run Tryz.prog T E0 (.call 68 [lvM a] (lvX (Rat.divInt a.1 a.2, false))) := by
 unfold I64 at h1 h2
 have m1 := eG (v := a.1) om
 have m2 := eG (v := a.2) om
 refine bC Tryz.func68 J J (cX J) <| Rg 2 J <| bD (dY J J) J <| bD (dX J) J <| Wn <| bQ (z := 8) J kR <| aJ (bB J J J J J) J <| aJ (aO J J J J J) J <| aJ (aN J (jW _ om) (by simp)) J <| aJ (bB J J J J J) J <| aJ (aO J J J J J) J <| aJ (aN J (jW _ om) (by simp)) J <| aJ (aN J (oR a.1 a.2 h0 om om) (by simp)) J <| cU (cH (cs' := [_, _, _, _]) J J J J J J J J) <| bK (aV kR) J <| aM <| post (n := 0) (.inr J) J ?_ (by simp)
 rfl
theorem mM (a : NM) (h1 : I64 a.1) (h2 : I64 a.2) : Run Tryz.prog T E0 (.call 104 [lvM a] (.v (.bool (decide (VN a))))) := by
 unfold I64 at h1 h2
 have m1 := eG (v := a.1) om
 have m2 := eG (v := a.2) om
 refine bC Tryz.func104 J J (cX J) <| Rg 2 J <| bD (dY J J) J <| Ua J J <| Wn <| aB <| Rg 18 J <| aA (bB J J J J J) J <| aA (aO J J J J J) J <| aA (bP J J) J <| aW (fun h7 => ?_) (fun h7 => ?_)
 ·refine Um J J <| K1 J J <| K1 J J <| K1 J J <| aA (bG J J) J <| Um J J <| K1 J J <| K1 J J <| K1 J J <| aA (bG J J) J <| Um J J <| K1 J J <| K1 J J <| K1 J J <| aA (bG J J) J <| Nk [1,22] J <| aP J <| aB ?_
  have hV : ¬ VN a := by unfold VN; omega
  refine Rg 1 J <| Ua J J <| Wn <| aU <| post (n := 0) (.inr J) J ?_ (by simp)
  exact congrArg (fun z => LV.v (.bool z)) (decide_eq_false hV).symm
 refine Um J J <| aE J (bB J J J J J) J <| aE J (aO J J J J J) J <| aE J (dG J J) J <| aW (fun h11 => ?_) (fun h11 => ?_)
 ·refine aA (bF J J) J <| Um J J <| K1 J J <| K1 J J <| K1 J J <| aA (bG J J) J <| Um J J <| K1 J J <| K1 J J <| K1 J J <| aA (bG J J) J <| Nk [1,22] J <| aP J <| aB ?_
  have hV : ¬ VN a := by unfold VN; omega
  refine Rg 1 J <| Ua J J <| Wn <| aU <| post (n := 0) (.inr J) J ?_ (by simp)
  exact congrArg (fun z => LV.v (.bool z)) (decide_eq_false hV).symm
 refine aA (bF J J) J <| Um J J <| aE J (bB J J J J J) J <| aE J (aO J J J J J) J <| aE J (dG J J) J <| aW (fun h16 => ?_) (fun h16 => ?_)
 ·refine aA (bF J J) J <| Um J J <| K1 J J <| K1 J J <| K1 J J <| aA (bG J J) J <| Nk [1,22] J <| aP J <| aB ?_
  have hV : ¬ VN a := by unfold VN; omega
  refine Rg 1 J <| Ua J J <| Wn <| aU <| post (n := 0) (.inr J) J ?_ (by simp)
  exact congrArg (fun z => LV.v (.bool z)) (decide_eq_false hV).symm
 refine aA (bF J J) J <| Um J J <| aE J (bB J J J J J) J <| aE J (aO J J J J J) J <| aE J (bP J J) J <| aW (fun h21 => ?_) (fun h21 => ?_)
 ·refine aA (bF J J) J <| Nk [1,22] J <| aP J <| aB ?_
  have hV : ¬ VN a := by unfold VN; omega
  refine Rg 1 J <| Ua J J <| Wn <| aU <| post (n := 0) (.inr J) J ?_ (by simp)
  exact congrArg (fun z => LV.v (.bool z)) (decide_eq_false hV).symm
 refine aA (bF J J) J <| Nk [1,22] J <| aT J <| aD ?_
 have hg1 : a.1.gcd a.2 ≤ a.2.natAbs := Nat.le_of_dvd om (Nat.gcd_dvd_right _ _)
 refine bQ (z := 13) J kR <| aJ (bB J J J J J) J <| aJ (aO J J J J J) J <| aJ (aN J (jW _ om) (by simp)) J <| aJ (bB J J J J J) J <| aJ (aO J J J J J) J <| aJ (aN J (jW _ om) (by simp)) J <| aJ (aN J (gcd_run a.1 a.2 om om) (by simp)) J <| aJ (aN J (nB (a.1.gcd a.2 : Nat) 1152921504606846976 om) (by simp)) J <| Dm J J <| aJ (dN J J) J <| aJ (dN J J) J <| aJ (kU J) J <| aJ (kU J) J <| bK (aV kR) J <| Ck [3] J <| Rg 3 J <| Um J J <| aA (eR J J) J <| Ua J J <| Wn <| aM <| post (n := 0) (.inr J) J ?_ (by simp)
 have hV : (decide ((if -1152921504606846976 ≤ ((a.1.gcd a.2 : Nat) : Int) ∧ ((a.1.gcd a.2 : Nat) : Int) ≤ 1152921504606846976 then ((a.1.gcd a.2 : Nat) : Int) else 0) = 1)) = decide (VN a) := by
  rw [if_pos om]; apply decide_eq_decide.2; unfold VN; omega
 exact congrArg (fun z => LV.v (.bool z)) hV
theorem nout_run (x : X) : Run Tryz.prog T E0 (.call 80 [lvX x] (lvO (outN x.1))) := by
 refine bC Tryz.func80 J J (cX J) <| Rg 3 J <| bD (dY J J) J <| bD (dX J) J <| Ua J J <| Wn <| Rg 8 J <| aA (aO (l := .agg [_, _, _, _]) J J J J J) J <| aA (aN J (top_run x) (by simp)) J <| aA (aN J (nB x.1.num 1152921504606846976 om) (by simp)) J <| Um J J <| aA (dN J J) J <| aA (dN J J) J <| dC (fun h13 => ?_) (fun h13 => ?_)
 rotate_left
 ·refine Ua J J <| Ua J J <| Wn <| Rg 8 J <| aA (aO (l := .agg [_, _, _, _]) J J J J J) J <| aA (aN J (gE x) (by simp)) J <| aA (aN J (nB x.1.den 1152921504606846976 om) (by simp)) J <| Um J J <| aA (dN J J) J <| aA (dN J J) J <| dC (fun h19 => ?_) (fun h19 => ?_)
  ·refine Ua J J <| Ua J J <| Nk [2,4,5,6,7] J <| aB <| Rg 6 J <| Um J J <| aA (cW J) J <| Um J J <| K1 J J <| K1 J J <| aA (bG J J) J <| Wn <| aP J <| aB ?_
   have hV : outN x.1 = none := by
    unfold outN; rw [if_neg]; simp at *; omega
   refine Rg 3 J <| aA (fH (cs := [_, _]) J J J J J) J <| aY (cH (cs' := [_, _]) J J J J J J J J) <| Ua J J <| Wn <| aU <| post (n := 0) (.inr J) J ?_ (by simp)
   first | (rw [hV]; rfl) | (rw [hV, if_pos k1, if_pos k2]; rfl)
  refine Ua J J <| Ua J J <| Nk [2,4,5,6,7] J <| aB <| Rg 6 J <| Um J J <| aA (cW J) J <| Um J J <| K1 J J <| K1 J J <| aA (bG J J) J <| Wn <| aP J <| aB ?_
  have hV : outN x.1 = none := by
   unfold outN; rw [if_neg]; simp at *; omega
  refine Rg 3 J <| aA (fH (cs := [_, _]) J J J J J) J <| aY (cH (cs' := [_, _]) J J J J J J J J) <| Ua J J <| Wn <| aU <| post (n := 0) (.inr J) J ?_ (by simp)
  first | (rw [hV]; rfl) | (rw [hV, if_pos k1, if_pos k2]; rfl)
 refine Ua J J <| Ua J J <| Wn <| Rg 8 J <| aA (aO (l := .agg [_, _, _, _]) J J J J J) J <| aA (aN J (gE x) (by simp)) J <| aA (aN J (nB x.1.den 1152921504606846976 om) (by simp)) J <| Um J J <| aA (dN J J) J <| aA (dN J J) J <| dC (fun h19 => ?_) (fun h19 => ?_)
 rotate_left
 ·refine Ua J J <| Ua J J <| Nk [2,4,5,6,7] J <| aB <| Rg 6 J <| Um J J <| aA (cW J) J <| Um J J <| aE J (dU J) J <| aE J (cW J) J <| aA (bF J J) J <| Wn <| aP J <| aB ?_
  have hV : outN x.1 = none := by
   unfold outN; rw [if_neg]; simp at *; omega
  refine Rg 3 J <| aA (fH (cs := [_, _]) J J J J J) J <| aY (cH (cs' := [_, _]) J J J J J J J J) <| Ua J J <| Wn <| aU <| post (n := 0) (.inr J) J ?_ (by simp)
  first | (rw [hV]; rfl) | (rw [hV, if_pos k1, if_pos k2]; rfl)
 refine Ua J J <| Ua J J <| Nk [2,4,5,6,7] J <| aB <| Rg 6 J <| Um J J <| aA (cW J) J <| Um J J <| aE J (dU J) J <| aE J (cW J) J <| aA (bF J J) J <| Wn <| aT J <| aD ?_
 have k1 := of_decide_eq_true h13
 have k2 := of_decide_eq_true h19
 have hV : outN x.1 = some (x.1.num, (x.1.den : Int)) := by
  unfold outN; rw [if_pos ⟨k1, k2.2⟩]
 refine Rg 5 J <| Um J J <| Um J J <| aA (fH (cs := [_, _]) J J J J J) J <| aY (cH (cs' := [_, _]) J J J J J J J J) <| Ua J J <| Nk [2,3] J <| aM <| post (n := 0) (.inr J) J ?_ (by simp)
 first | (rw [hV]; rfl) | (rw [hV, if_pos k1, if_pos k2]; rfl)
end Go.Proofs.YtcblgjaomljikaaGreat
namespace Go.Proofs.YtcblgjaomljikaaGreat
open Go.Ab Go.RowKit
theorem hJ (v : Int) (hv : I64 v) : Run Tryz.prog T E0 (.call 72 [.v (.int .i64 v)] (lvN v)) := by
 unfold I64 at hv
 refine bC Tryz.func72 J J (cX J) <| Rg 1 J <| bD (dX J) J <| Wn <| aB <| Rg 6 J <| Um J J <| aA (dG J J) J <| aW (fun h7 => ?_) (fun h7 => ?_)
 rotate_left
 ·refine Um J J <| K1 J J <| K1 J J <| aA (bF J J) J <| Wn <| aT J <| aD ?_
  have hns : ¬ smallN v := by unfold smallN; omega
  have hm1 : 2305843009213693952 ≤ v.natAbs := by unfold smallN at hns; omega
  have hm2 : v.natAbs ≤ 9223372036854775808 := by omega
  have hdg := of_big hm1 hm2
  have e1 : v.tmod 1073741824 = v.sign * ((v.natAbs % 1073741824 : Nat) : Int) ∧ v.tdiv 1073741824 = v.sign * ((v.natAbs / 1073741824 : Nat) : Int) := by
   have := lP (v := v) (w := 1073741824) (q := v.natAbs / 1073741824) (r := v.natAbs % 1073741824) (by simp; omega) (by simp; omega)
   refine ⟨this.2, ?_⟩
   rw [this.1, show Int.sign 1073741824 = 1 from rfl, Int.mul_one]
  obtain ⟨σ, hσ⟩ : ∃ σ, σ = v.sign := ⟨_, rfl⟩
  have hs1 : σ = 1 ∨ σ = -1 := by rw [hσ]; exact sign_1 om
  rw [← hσ] at e1
  obtain ⟨d0, hd0⟩ : ∃ d, d = v.natAbs % 1073741824 := ⟨_, rfl⟩
  obtain ⟨m1, hm1'⟩ : ∃ d, d = v.natAbs / 1073741824 := ⟨_, rfl⟩
  rw [← hd0, ← hm1'] at e1 hdg
  refine Rg 6 J <| Um J J <| aA (cI (σ * (d0 : Int)) (oRem J J (by decide)) e1.1) J <| Um J J <| aA (cI (σ * (m1 : Int)) (jV J J (by decide) (by rw [e1.2]; rcases hs1 with h | h <;> rw [h] <;> omega)) e1.2) J <| Ua J J <| Ua J J <| Wn <| Rg 6 J <| Um J J <| Um J J <| aA (eY J (by rcases hs1 with h | h <;> rw [h] <;> omega)) J <| aA (cI ((d0 : Int)) (oMax J J) (by rcases hs1 with h | h <;> rw [h] <;> split <;> omega)) J <| aA (cS (cs := [_]) (rows := [[_]]) J J (by decide) J J J) J <| Ua J J <| Nk [0,2,4,5] J <| aL <| iA <| aB <| Rg 2 J <| Um J J <| aA (fS J J) J <| aW (fun h24 => ?_) (fun h24 => ?_)
  rotate_left
  ·rcases hs1 with h | h <;> rw [h] at h24 <;> omega
  refine Wn <| aP J <| aD <| cO ?_
  have e2 : (σ * (m1 : Int)).tmod 1073741824 = σ * ((m1 % 1073741824 : Nat) : Int) ∧ (σ * (m1 : Int)).tdiv 1073741824 = σ * ((m1 / 1073741824 : Nat) : Int) := by
   rcases hs1 with rfl | rfl
   ·simp only [Int.one_mul]; rw [Int.tmod_eq_emod_of_nonneg om, Int.tdiv_eq_ediv_of_nonneg om]; exact ⟨by simp, by simp⟩
   ·simp only [Int.neg_mul, Int.one_mul, Int.neg_tmod, Int.neg_tdiv]; rw [Int.tmod_eq_emod_of_nonneg om, Int.tdiv_eq_ediv_of_nonneg om]; exact ⟨by simp, by simp⟩
  obtain ⟨d1, hd1⟩ : ∃ d, d = m1 % 1073741824 := ⟨_, rfl⟩
  obtain ⟨m2, hm2'⟩ : ∃ d, d = m1 / 1073741824 := ⟨_, rfl⟩
  rw [← hd1, ← hm2'] at e2 hdg
  refine Rg 6 J <| Um J J <| aA (cI (σ * (d1 : Int)) (oRem J J (by decide)) e2.1) J <| Um J J <| aA (cI (σ * (m2 : Int)) (jV J J (by decide) (by rw [e2.2]; rcases hs1 with h | h <;> rw [h] <;> omega)) e2.2) J <| Ua J J <| Ua J J <| Wn <| aH (z := 8) J <| Um J J <| Um J J <| Um J J <| aA (eY J (by rcases hs1 with h | h <;> rw [h] <;> omega)) J <| aA (cI ((d1 : Int)) (oMax J J) (by rcases hs1 with h | h <;> rw [h] <;> split <;> omega)) J <| aA (cS (cs := [_]) (rows := [[_]]) J J (by decide) J J J) J <| bD (oApS (xs := [d64 d0]) (rows := [d64 d1]) J J J J J (by decide) (by intro r hr; simp at hr; subst hr; rfl) (by intro r hr; simp at hr; subst hr; rfl) (Nat.lt_succ_self 0) (by show (2 * (1 + 1) + 256) * 8 ≤ 2 ^ 48; decide) (by show 1 + 1 < 2 ^ 62; decide)) J <| Ua J J <| Wn <| cD <| kC <| iA <| aB <| Rg 2 J <| Um J J ?_
  refine aA (fS J J) J <| aW (fun h24 => ?_) (fun h24 => ?_)
  rotate_left
  ·rcases hs1 with h | h <;> rw [h] at h24 <;> omega
  refine Nk [0,2,4,5,24] J <| aP J <| aD <| cO ?_
  have e3 : (σ * (m2 : Int)).tmod 1073741824 = σ * (m2 : Int) ∧ (σ * (m2 : Int)).tdiv 1073741824 = 0 := by
   have hb : m2 < 1073741824 := by omega
   rcases hs1 with rfl | rfl
   ·simp only [Int.one_mul]; rw [Int.tmod_eq_emod_of_nonneg om, Int.tdiv_eq_ediv_of_nonneg om]; omega
   ·simp only [Int.neg_mul, Int.one_mul, Int.neg_tmod, Int.neg_tdiv]; rw [Int.tmod_eq_emod_of_nonneg om, Int.tdiv_eq_ediv_of_nonneg om]; omega
  refine Rg 6 J <| Um J J <| aA (cI (σ * (m2 : Int)) (oRem J J (by decide)) e3.1) J <| Um J J <| aA (cI 0 (jV J J (by decide) (by rw [e3.2]; omega)) e3.2) J <| Ua J J <| Ua J J <| Wn <| aH (z := 8) J <| Um J J <| Um J J <| Um J J <| aA (eY J (by rcases hs1 with h | h <;> rw [h] <;> omega)) J <| aA (cI ((m2 : Int)) (oMax J J) (by rcases hs1 with h | h <;> rw [h] <;> split <;> omega)) J <| aA (cS (cs := [_]) (rows := [[_]]) J J (by decide) J J J) J <| bD (oApM (f := d64) (us := [d0, d1]) (u := m2) J J J J J (fun _ => rfl) (by decide) g0 (by show (2 * (2 + 1) + 256) * 8 ≤ 2 ^ 48; decide) (by show 2 + 1 < 2 ^ 62; decide)) J <| Ua J J <| Wn <| cD <| kC <| iA <| aB <| Rg 2 J <| Um J J ?_
  refine aA (fS J J) J <| aW (fun h24 => ?_) (fun h24 => ?_)
  ·exact absurd J h24
  refine Nk [0,2,4,5,24] J <| aT J <| aZ <| unr_exit <| aS J <| Rg 5 J <| Um J J <| aA (bP J J) J <| Um J J <| aA (fH (cs := [_, _, _]) J J J J J) J <| aY (cH (cs' := [_, _, _]) J J J J J J J J) <| Wn <| aM ?_
  have hr : lvN v = .agg [.v (.int .i64 0), .v (.bool (decide (v < 0))), .sl 1 [d64 d0, d64 d1, d64 m2]] := by rw [qA hns, hdg]; rfl
  rw [hr]
  exact postRef3 (n := 0) [d64 d0, d64 d1, d64 m2] (.inr J) J J (g1 (by decide) g0) (by show (0 : Nat) ≠ 2; decide) J (by decide) J (by intro r hr; simp at hr; rcases hr with rfl | rfl | rfl <;> rfl) (by simp [d64])
 refine Um J J <| aE J (dU J) J <| aE J (bP J J) J <| aW (fun h10 => ?_) (fun h10 => ?_)
 ·refine aA (bG J J) J <| Wn <| aP J <| aB <| Rg 3 J <| Um J J <| aA (fH (cs := [_, _, _]) J J J J J) J <| aY (cH (cs' := [_, _, _]) J J J J J J J J) <| Wn <| aU <| post (n := 0) (.inr J) J ?_ (by simp)
  rw [dR (by unfold smallN; omega)]; rfl
 refine aA (bG J J) J <| Wn <| aT J <| aD ?_
 have hns : ¬ smallN v := by unfold smallN; omega
 have hm1 : 2305843009213693952 ≤ v.natAbs := by unfold smallN at hns; omega
 have hm2 : v.natAbs ≤ 9223372036854775808 := by omega
 have hdg := of_big hm1 hm2
 have e1 : v.tmod 1073741824 = v.sign * ((v.natAbs % 1073741824 : Nat) : Int) ∧ v.tdiv 1073741824 = v.sign * ((v.natAbs / 1073741824 : Nat) : Int) := by
  have := lP (v := v) (w := 1073741824) (q := v.natAbs / 1073741824) (r := v.natAbs % 1073741824) (by simp; omega) (by simp; omega)
  refine ⟨this.2, ?_⟩
  rw [this.1, show Int.sign 1073741824 = 1 from rfl, Int.mul_one]
 obtain ⟨σ, hσ⟩ : ∃ σ, σ = v.sign := ⟨_, rfl⟩
 have hs1 : σ = 1 ∨ σ = -1 := by rw [hσ]; exact sign_1 om
 rw [← hσ] at e1
 obtain ⟨d0, hd0⟩ : ∃ d, d = v.natAbs % 1073741824 := ⟨_, rfl⟩
 obtain ⟨m1, hm1'⟩ : ∃ d, d = v.natAbs / 1073741824 := ⟨_, rfl⟩
 rw [← hd0, ← hm1'] at e1 hdg
 refine Rg 6 J <| Um J J <| aA (cI (σ * (d0 : Int)) (oRem J J (by decide)) e1.1) J <| Um J J <| aA (cI (σ * (m1 : Int)) (jV J J (by decide) (by rw [e1.2]; rcases hs1 with h | h <;> rw [h] <;> omega)) e1.2) J <| Ua J J <| Ua J J <| Wn <| Rg 6 J <| Um J J <| Um J J <| aA (eY J (by rcases hs1 with h | h <;> rw [h] <;> omega)) J <| aA (cI ((d0 : Int)) (oMax J J) (by rcases hs1 with h | h <;> rw [h] <;> split <;> omega)) J <| aA (cS (cs := [_]) (rows := [[_]]) J J (by decide) J J J) J <| Ua J J <| Nk [0,2,4,5] J <| aL <| iA <| aB <| Rg 2 J <| Um J J <| aA (fS J J) J <| aW (fun h24 => ?_) (fun h24 => ?_)
 rotate_left
 ·rcases hs1 with h | h <;> rw [h] at h24 <;> omega
 refine Wn <| aP J <| aD <| cO ?_
 have e2 : (σ * (m1 : Int)).tmod 1073741824 = σ * ((m1 % 1073741824 : Nat) : Int) ∧ (σ * (m1 : Int)).tdiv 1073741824 = σ * ((m1 / 1073741824 : Nat) : Int) := by
  rcases hs1 with rfl | rfl
  ·simp only [Int.one_mul]; rw [Int.tmod_eq_emod_of_nonneg om, Int.tdiv_eq_ediv_of_nonneg om]; exact ⟨by simp, by simp⟩
  ·simp only [Int.neg_mul, Int.one_mul, Int.neg_tmod, Int.neg_tdiv]; rw [Int.tmod_eq_emod_of_nonneg om, Int.tdiv_eq_ediv_of_nonneg om]; exact ⟨by simp, by simp⟩
 obtain ⟨d1, hd1⟩ : ∃ d, d = m1 % 1073741824 := ⟨_, rfl⟩
 obtain ⟨m2, hm2'⟩ : ∃ d, d = m1 / 1073741824 := ⟨_, rfl⟩
 rw [← hd1, ← hm2'] at e2 hdg
 refine Rg 6 J <| Um J J <| aA (cI (σ * (d1 : Int)) (oRem J J (by decide)) e2.1) J <| Um J J <| aA (cI (σ * (m2 : Int)) (jV J J (by decide) (by rw [e2.2]; rcases hs1 with h | h <;> rw [h] <;> omega)) e2.2) J <| Ua J J <| Ua J J <| Wn <| aH (z := 8) J <| Um J J <| Um J J <| Um J J <| aA (eY J (by rcases hs1 with h | h <;> rw [h] <;> omega)) J <| aA (cI ((d1 : Int)) (oMax J J) (by rcases hs1 with h | h <;> rw [h] <;> split <;> omega)) J <| aA (cS (cs := [_]) (rows := [[_]]) J J (by decide) J J J) J <| bD (oApS (xs := [d64 d0]) (rows := [d64 d1]) J J J J J (by decide) (by intro r hr; simp at hr; subst hr; rfl) (by intro r hr; simp at hr; subst hr; rfl) (Nat.lt_succ_self 0) (by show (2 * (1 + 1) + 256) * 8 ≤ 2 ^ 48; decide) (by show 1 + 1 < 2 ^ 62; decide)) J <| Ua J J <| Wn <| cD <| kC <| iA <| aB <| Rg 2 J <| Um J J ?_
 refine aA (fS J J) J <| aW (fun h24 => ?_) (fun h24 => ?_)
 rotate_left
 ·rcases hs1 with h | h <;> rw [h] at h24 <;> omega
 refine Nk [0,2,4,5,24] J <| aP J <| aD <| cO ?_
 have e3 : (σ * (m2 : Int)).tmod 1073741824 = σ * (m2 : Int) ∧ (σ * (m2 : Int)).tdiv 1073741824 = 0 := by
  have hb : m2 < 1073741824 := by omega
  rcases hs1 with rfl | rfl
  ·simp only [Int.one_mul]; rw [Int.tmod_eq_emod_of_nonneg om, Int.tdiv_eq_ediv_of_nonneg om]; omega
  ·simp only [Int.neg_mul, Int.one_mul, Int.neg_tmod, Int.neg_tdiv]; rw [Int.tmod_eq_emod_of_nonneg om, Int.tdiv_eq_ediv_of_nonneg om]; omega
 refine Rg 6 J <| Um J J <| aA (cI (σ * (m2 : Int)) (oRem J J (by decide)) e3.1) J <| Um J J <| aA (cI 0 (jV J J (by decide) (by rw [e3.2]; omega)) e3.2) J <| Ua J J <| Ua J J <| Wn <| aH (z := 8) J <| Um J J <| Um J J <| Um J J <| aA (eY J (by rcases hs1 with h | h <;> rw [h] <;> omega)) J <| aA (cI ((m2 : Int)) (oMax J J) (by rcases hs1 with h | h <;> rw [h] <;> split <;> omega)) J <| aA (cS (cs := [_]) (rows := [[_]]) J J (by decide) J J J) J <| bD (oApM (f := d64) (us := [d0, d1]) (u := m2) J J J J J (fun _ => rfl) (by decide) g0 (by show (2 * (2 + 1) + 256) * 8 ≤ 2 ^ 48; decide) (by show 2 + 1 < 2 ^ 62; decide)) J <| Ua J J <| Wn <| cD <| kC <| iA <| aB <| Rg 2 J <| Um J J ?_
 refine aA (fS J J) J <| aW (fun h24 => ?_) (fun h24 => ?_)
 ·exact absurd J h24
 refine Nk [0,2,4,5,24] J <| aT J <| aZ <| unr_exit <| aS J <| Rg 5 J <| Um J J <| aA (bP J J) J <| Um J J <| aA (fH (cs := [_, _, _]) J J J J J) J <| aY (cH (cs' := [_, _, _]) J J J J J J J J) <| Wn <| aM ?_
 have hr : lvN v = .agg [.v (.int .i64 0), .v (.bool (decide (v < 0))), .sl 1 [d64 d0, d64 d1, d64 m2]] := by rw [qA hns, hdg]; rfl
 rw [hr]
 exact postRef3 (n := 0) [d64 d0, d64 d1, d64 m2] (.inr J) J J (g1 (by decide) g0) (by show (0 : Nat) ≠ 2; decide) J (by decide) J (by intro r hr; simp at hr; rcases hr with rfl | rfl | rfl <;> rfl) (by simp [d64])
theorem ntrim_run (k : Nat) (ds : List Nat) (hk : k ≤ 2) (hl : ds.length < 4611686018427387904) : Run Tryz.prog T E0 (.call 156 [.sl k (ds.map d64)] (.sl (if k = 0 then 0 else 1) ((trim ds).map d64))) := by
 refine bC Tryz.func156 J J (cX J) <| Rg 1 J <| Ua J J <| Wn <| aL <| bA (α := Nat × (List Nat)) (fun ⟨k1, es⟩ => [(0, .sl k1 (es.map d64))]) (fun ⟨k1, es⟩ => []) (fun ⟨k1, es⟩ n => (k1 = k ∨ k = 2 ∧ k1 = 1) ∧ trim es = trim ds ∧ es.length < 4611686018427387904) (fun ⟨k1, es⟩ => es.length) (k, ds) ⟨J, trivial⟩ trivial ⟨.inl J, rfl, hl⟩ ?_
 rintro ⟨k1, es⟩ n hF
 change WC _ _ _ _ _ (_ :: _) ([]) n _
 obtain ⟨hk1, hds, hel⟩ := hF
 refine aB <| Rg 12 J <| Um J J <| aA (aX J J) J <| aA (dG J J) J <| aW (fun h5 => ?_) (fun h5 => ?_)
 rotate_left
 ·refine Um J J <| K1 J J <| K1 J J <| K1 J J <| K1 J J <| K1 J J <| K1 J J <| K1 J J <| aA (bF J J) J <| Wn <| aT J <| aZ <| aQ <| aS J <| Rg 2 J <| Um J J <| Ua J J <| Nk [2] J <| aM <| rH (n := 0) (.inr J) J ?_ (by simp)
  have ht : trim es = es := iD om
  rw [← hds, ht]
  rcases hk1 with rfl | ⟨rfl, rfl⟩
  ·have : k1 = 0 ∨ k1 = 1 ∨ k1 = 2 := by omega
   rcases this with rfl | rfl | rfl
   ·exact .same _
   ·exact .same _
   ·exact .two _
  ·exact .same _
 refine Um J J <| aE J (dU J) J <| aE J (dU J) J <| aE J (aX J J) J <| aE J (bV J J om) J <| aE J (bS (j := es.length - 1) J J J J om om J) J <| aE J (dB J J J) J <| aE J (eR J J) J <| aW (fun h13 => ?_) (fun h13 => ?_)
 ·refine aA (bG J J) J <| Wn <| aP J <| aD <| cO <| aH (z := 6) J <| Um J J <| Um J J <| aA (aX J J) J <| aA (bV J J om) J <| aA (oSlH (j := es.length - 1) J J J eZ J om (by simp)) J <| Ua J J <| Wn <| cD <| aG <| ⟨⟨if k1 = 2 then 1 else k1, es.take (es.length - 1)⟩, ⟨congrArg some ?_, trivial⟩, trivial, ⟨?_, ?_, ?_⟩, ?_⟩
  ·have h9 : es.length - 1 < es.length := by omega
   simp [h9]
  ·split <;> omega
  ·rw [oV om om]; exact hds
  ·simp; omega
  ·simp; omega
 refine aA (bG J J) J <| Wn <| aT J <| aZ <| aQ <| aS J <| Rg 2 J <| Um J J <| Ua J J <| Nk [2] J <| aM <| rH (n := 0) (.inr J) J ?_ (by simp)
 have ht : trim es = es := iD om
 rw [← hds, ht]
 rcases hk1 with rfl | ⟨rfl, rfl⟩
 ·have : k1 = 0 ∨ k1 = 1 ∨ k1 = 2 := by omega
  rcases this with rfl | rfl | rfl
  ·exact .same _
  ·exact .same _
  ·exact .two _
 ·exact .same _
theorem iB (v : Int) : Run Tryz.prog T E0 (.call 113 [lvN v] (.sl (if (dgs 1073741824 v.natAbs).length = 0 then 0 else 1) ((dgs 1073741824 v.natAbs).map d64))) := by
 have hb := pE v
 refine bC Tryz.func113 J J (cX J) <| Rg 2 J <| bD (dY J J) J <| Ua J J <| Wn <| aB <| Rg 4 J <| aA (bB J J J J J) J <| aA (aO J J J J J) J <| aA (aX J J) J <| aA (dG J J) J <| aW (fun h8 => ?_) (fun h8 => ?_)
 ·refine Wn <| aP J <| aB <| Rg 3 J <| aA (bB J J J J J) J <| aA (aO J J J J J) J <| Ua J J <| Wn <| aU <| post (n := 0) (.inr J) J ?_ (by simp)
  have hs : ¬ smallN v := lK.1 h8
  have h1 : ¬ (dgs 1073741824 v.natAbs).length = 0 := by rw [← nH hs]; omega
  rw [if_neg h1, nH hs, nk_big hs]; rfl
 refine Wn <| aT J <| aD <| Rg 1 J <| Ua J J <| Wn <| aB ?_
 have hs : smallN v := gZ.1 om
 have hna := dW hs
 unfold smallN at hs
 refine Rg 7 J <| aA (bB J J J J J) J <| aA (aO J J J J J) J <| aA (bB J J J J J) J <| aA (aO J J J J J) J <| aA (eY J om) J <| aA (cI (((v.natAbs : Nat) : Int)) (oMax J J) (by rw [hna]; split <;> omega)) J <| Ua J J <| Nk [3,4] J <| aL <| bA (α := Nat × Nat × (List Nat)) (fun ⟨m, q, ds⟩ => [(3, outV q 1 (ds.map d64)), (4, .v (.int .i64 (m : Int)))]) (fun ⟨m, q, ds⟩ => outH q 1 3 (ds.map d64) []) (fun ⟨m, q, ds⟩ n => dgs 1073741824 v.natAbs = ds ++ dgs 1073741824 m ∧ m < 2305843009213693952 ∧ ds.length ≤ 3 ∧ m * 1073741824 ^ ds.length ≤ 2305843009213693952) (fun ⟨m, q, ds⟩ => m) (v.natAbs, 0, []) ⟨J, J, trivial⟩ trivial ⟨rfl, om, by simp, by simp; omega⟩ ?_
 rintro ⟨m, q, ds⟩ n hF
 change WC _ _ _ _ _ (_ :: _) (outH _ _ _ _ _) n _
 obtain ⟨hds, hm, hdl, hml⟩ := hF
 refine aB <| Rg 2 J <| Um J J <| aA (dG J J) J <| aW (fun h18 => ?_) (fun h18 => ?_)
 rotate_left
 ·refine Wn <| aT J <| aZ <| aQ <| aS J <| Rg 2 J <| Um J J <| Ua J J <| Wn <| aM ?_
  have h0 : m = 0 := by omega
  subst h0
  rw [gI, List.append_nil] at hds
  rw [hds, ← kW]
  exact nQ (n := 0) (.inr J) J (by decide) eZ cV
 refine Wn <| aP J <| aD <| aL <| aH (z := 6) J <| Um J J <| Um J J <| aA (gM (b := 1073741824) J J (by decide)) J <| aA (cS (cs := [_]) (rows := [[_]]) J J (by decide) J J J) J <| cY (te := ti3) (f := d64) (q := q) (us := ds) J J J J J (fun _ => rfl) (by decide) (by show (2 * (ds.length + 1) + 256) * 8 ≤ _; omega) om J J J <| Ua J J <| Wn <| aF <| aH (z := 3) J <| Um J J <| aA (fY (b := 1073741824) J J (by decide) om) J <| Ua J J <| Wn <| aG <| ⟨⟨m / 1073741824, _, ds ++ [m % 1073741824]⟩, ⟨J, J, trivial⟩, cN, ⟨list_step (by decide) hds om, om, by have := list_len hml om; simp; omega, by rw [List.length_append, List.length_singleton]; exact list_bd hml⟩, by show m / 1073741824 < m; omega⟩
theorem iC (b : Bool) (k : Nat) (ds : List Nat) (hk : k = 1 ∨ k = 0 ∧ ds.length = 0) (hd : Dg 1073741824 ds) (hl : ds.length < 4611686018427387904) : Run Tryz.prog T E0 (.call 114 [.v (.bool b), .sl k (ds.map d64)] (lvN (if b = true then -(val 1073741824 ds : Int) else val 1073741824 ds))) := by
 refine bC Tryz.func114 J J (cX J) <| Rg 1 J <| bD (dX J) J <| Wn <| aL <| bA (α := Nat × (List Nat)) (fun ⟨k1, es⟩ => [(0, .v (.bool b)), (1, .sl k1 (es.map d64)), (4, .ptr (0 + 0) 0)]) (fun ⟨k1, es⟩ => [(0, { cells := [.v (.int .i64 0), .v (.bool false), .sl 0 []], sz := 3, elem := 62, st := 0 })]) (fun ⟨k1, es⟩ n => k1 = k ∧ trim es = trim ds ∧ es.length ≤ ds.length) (fun ⟨k1, es⟩ => es.length) (k, ds) ⟨J, J, J, trivial⟩ ⟨J, trivial⟩ ⟨rfl, rfl, Nat.le_refl _⟩ ?_
 rintro ⟨k1, es⟩ n hF
 change WC _ _ _ _ _ (_ :: _) (_ :: _) n _
 obtain ⟨hk1, hds, hel⟩ := hF
 refine aB <| Rg 12 J <| Um J J <| aA (aX J J) J <| aA (dG J J) J <| aW (fun h9 => ?_) (fun h9 => ?_)
 rotate_left
 ·refine Um J J <| K1 J J <| K1 J J <| K1 J J <| K1 J J <| K1 J J <| K1 J J <| K1 J J <| aA (bF J J) J <| Nk [0,1,4,11,12,13,14,15,16,17,18] J <| aT J <| aZ <| aQ <| aS J <| aB ?_
  have hte : trim es = es := iD om
  have hed : Dg 1073741824 es := by rw [← hte, hds]; exact lV hd
  have hev : val 1073741824 es = val 1073741824 ds := by rw [← hte, hds, fZ]
  have het : Trm es := by rw [← hte]; exact lW _
  refine Rg 14 J <| Um J J <| aA (aX J J) J <| aA (dG J J) J <| aW (fun h26 => ?_) (fun h26 => ?_)
  ·refine Um J J <| K1 J J <| K1 J J <| K1 J J <| K1 J J <| K1 J J <| K1 J J <| K1 J J <| K1 J J <| K1 J J <| aA (bG J J) J <| Nk [0,1,4,37] J <| aP J <| aB ?_
   have hbig := nF het om
   refine Rg 4 J <| Um J J <| Um J J <| aA (fH (cs := [_, _, _]) J J J J J) J <| aY (cH (cs' := [_, _, _]) J J J J J J J J) <| Wn <| aU ?_
   have hr : lvN (if b = true then -(val 1073741824 ds : Int) else val 1073741824 ds) = .agg [.v (.int .i64 0), .v (.bool b), .sl 1 (es.map d64)] := by
    rw [← hev, nE hed hbig, hte]
   have hk2 : k1 = 1 := by omega
   subst hk2
   refine post (n := 0) (.inr J) J ?_ (by simp)
   rw [hr]; rfl
  refine Um J J <| aE J (dU J) J <| aE J (aX J J) J <| aE J (eR J J) J <| aW (fun h30 => ?_) (fun h30 => ?_)
  rotate_left
  ·refine aE J (dU J) J <| K1 J J <| K1 J J <| K1 J J <| K1 J J <| aE J (bF J J) J <| aA (bF J J) J <| Nk [0,1,4,37] J <| aT J <| aD ?_
   have hsm := jS hed om
   refine Rg 1 J <| Ua J J <| Wn <| aB <| Rg 4 J <| Um J J <| aA (aX J J) J <| aA (bV J J om) J <| Ua J J <| Wn <| aL <| bA (α := Nat × Nat) (fun ⟨j, m⟩ => [(0, .v (.bool b)), (1, .sl k1 (es.map d64)), (4, .ptr (0 + 0) 0), (5, .v (.int .i64 (m : Int))), (6, .v (.int .i64 ((j : Int) - 1)))]) (fun ⟨j, m⟩ => [(0, { cells := [.v (.int .i64 0), .v (.bool false), .sl 0 []], sz := 3, elem := 62, st := 0 })]) (fun ⟨j, m⟩ n => j ≤ es.length ∧ m = val 1073741824 (es.drop j)) (fun ⟨j, m⟩ => j) (es.length, 0) ⟨J, J, J, J, J, trivial⟩ ⟨J, trivial⟩ ⟨Nat.le_refl _, by rw [List.drop_length]; rfl⟩ ?_
   rintro ⟨j, m⟩ n hG
   change WC _ _ _ _ _ (_ :: _) (_ :: _) n _
   obtain ⟨hj, hm⟩ := hG
   refine aB <| Rg 2 J <| Um J J <| aA (fJ J J) J <| aW (fun h45 => ?_) (fun h45 => ?_)
   ·refine Wn <| aP J <| aD <| aL ?_
    have hmv : es.getD (j - 1) default + 1073741824 * m = val 1073741824 (es.drop (j - 1)) := by rw [hm, nG (k := j - 1) om, show j - 1 + 1 = j by omega]
    have hle := iX 1073741824 es (j - 1) (by decide)
    refine aH (z := 8) J <| Um J J <| aA (eS J J om) J <| Um J J <| Um J J <| aA (bS (j := j - 1) J J J J om om J) J <| aA (dB J J J) J <| aA (cI (((es.getD (j - 1) default + 1073741824 * m : Nat) : Int)) (aR J J om) om) J <| Ua J J <| Wn <| aF <| aH (z := 3) J <| Um J J <| aA (cI (((j - 1 : Nat) : Int) - 1) (bV J J om) om) J <| Ua J J <| Wn <| aG <| ⟨⟨j - 1, es.getD (j - 1) default + 1073741824 * m⟩, ⟨J, J, J, J, J, trivial⟩, ⟨J, trivial⟩, ⟨om, hmv⟩, by show j - 1 < j; omega⟩
   refine Wn <| aT J <| aZ <| aQ <| aS J <| aB ?_
   have hj0 : j = 0 := by omega
   subst hj0
   rw [List.drop_zero] at hm
   refine Rg 1 J <| Um J J <| dC (fun h55 => ?_) (fun h55 => ?_)
   rotate_left
   ·refine Wn <| aT J <| aD <| Rg 3 J <| Um J J <| aA (fH (cs := [_, _, _]) J J J J J) J <| aY (cH (cs' := [_, _, _]) J J J J J J J J) <| Wn <| aM <| post (n := 0) (.inr J) J ?_ (by simp)
    rw [if_neg (by rw [h55]; decide), ← hev, ← hm, dR (by unfold smallN; omega)]; rfl
   refine Wn <| aP J <| Rg 3 J <| Um J J <| aA (eY J om) J <| Ua J J <| Wn <| Rg 3 J <| Um J J <| aA (fH (cs := [_, _, _]) J J J J J) J <| aY (cH (cs' := [_, _, _]) J J J J J J J J) <| Wn <| aM <| post (n := 0) (.inr J) J ?_ (by simp)
   rw [if_pos h55, ← hev, ← hm, dR (by unfold smallN; omega)]; rfl
  refine aE J (dU J) J <| aE J (dU J) J <| aE J (bS (j := 2) J J J J om om J) J <| aE J (dB J J J) J <| aE J (fJ J J) J <| aW (fun h35 => ?_) (fun h35 => ?_)
  ·refine aE J (bG J J) J <| aA (bF J J) J <| Nk [0,1,4,37] J <| aP J <| aB ?_
   have hbig := nF het om
   refine Rg 4 J <| Um J J <| Um J J <| aA (fH (cs := [_, _, _]) J J J J J) J <| aY (cH (cs' := [_, _, _]) J J J J J J J J) <| Wn <| aU ?_
   have hr : lvN (if b = true then -(val 1073741824 ds : Int) else val 1073741824 ds) = .agg [.v (.int .i64 0), .v (.bool b), .sl 1 (es.map d64)] := by
    rw [← hev, nE hed hbig, hte]
   have hk2 : k1 = 1 := by omega
   subst hk2
   refine post (n := 0) (.inr J) J ?_ (by simp)
   rw [hr]; rfl
  refine aE J (bG J J) J <| aA (bF J J) J <| Nk [0,1,4,37] J <| aT J <| aD ?_
  have hsm := jS hed om
  refine Rg 1 J <| Ua J J <| Wn <| aB <| Rg 4 J <| Um J J <| aA (aX J J) J <| aA (bV J J om) J <| Ua J J <| Wn <| aL <| bA (α := Nat × Nat) (fun ⟨j, m⟩ => [(0, .v (.bool b)), (1, .sl k1 (es.map d64)), (4, .ptr (0 + 0) 0), (5, .v (.int .i64 (m : Int))), (6, .v (.int .i64 ((j : Int) - 1)))]) (fun ⟨j, m⟩ => [(0, { cells := [.v (.int .i64 0), .v (.bool false), .sl 0 []], sz := 3, elem := 62, st := 0 })]) (fun ⟨j, m⟩ n => j ≤ es.length ∧ m = val 1073741824 (es.drop j)) (fun ⟨j, m⟩ => j) (es.length, 0) ⟨J, J, J, J, J, trivial⟩ ⟨J, trivial⟩ ⟨Nat.le_refl _, by rw [List.drop_length]; rfl⟩ ?_
  rintro ⟨j, m⟩ n hG
  change WC _ _ _ _ _ (_ :: _) (_ :: _) n _
  obtain ⟨hj, hm⟩ := hG
  refine aB <| Rg 2 J <| Um J J <| aA (fJ J J) J <| aW (fun h45 => ?_) (fun h45 => ?_)
  ·refine Wn <| aP J <| aD <| aL ?_
   have hmv : es.getD (j - 1) default + 1073741824 * m = val 1073741824 (es.drop (j - 1)) := by rw [hm, nG (k := j - 1) om, show j - 1 + 1 = j by omega]
   have hle := iX 1073741824 es (j - 1) (by decide)
   refine aH (z := 8) J <| Um J J <| aA (eS J J om) J <| Um J J <| Um J J <| aA (bS (j := j - 1) J J J J om om J) J <| aA (dB J J J) J <| aA (cI (((es.getD (j - 1) default + 1073741824 * m : Nat) : Int)) (aR J J om) om) J <| Ua J J <| Wn <| aF <| aH (z := 3) J <| Um J J <| aA (cI (((j - 1 : Nat) : Int) - 1) (bV J J om) om) J <| Ua J J <| Wn <| aG <| ⟨⟨j - 1, es.getD (j - 1) default + 1073741824 * m⟩, ⟨J, J, J, J, J, trivial⟩, ⟨J, trivial⟩, ⟨om, hmv⟩, by show j - 1 < j; omega⟩
  refine Wn <| aT J <| aZ <| aQ <| aS J <| aB ?_
  have hj0 : j = 0 := by omega
  subst hj0
  rw [List.drop_zero] at hm
  refine Rg 1 J <| Um J J <| dC (fun h55 => ?_) (fun h55 => ?_)
  rotate_left
  ·refine Wn <| aT J <| aD <| Rg 3 J <| Um J J <| aA (fH (cs := [_, _, _]) J J J J J) J <| aY (cH (cs' := [_, _, _]) J J J J J J J J) <| Wn <| aM <| post (n := 0) (.inr J) J ?_ (by simp)
   rw [if_neg (by rw [h55]; decide), ← hev, ← hm, dR (by unfold smallN; omega)]; rfl
  refine Wn <| aP J <| Rg 3 J <| Um J J <| aA (eY J om) J <| Ua J J <| Wn <| Rg 3 J <| Um J J <| aA (fH (cs := [_, _, _]) J J J J J) J <| aY (cH (cs' := [_, _, _]) J J J J J J J J) <| Wn <| aM <| post (n := 0) (.inr J) J ?_ (by simp)
  rw [if_pos h55, ← hev, ← hm, dR (by unfold smallN; omega)]; rfl
 refine Um J J <| aE J (dU J) J <| aE J (dU J) J <| aE J (aX J J) J <| aE J (bV J J om) J <| aE J (bS (j := es.length - 1) J J J J om om J) J <| aE J (dB J J J) J <| aE J (eR J J) J <| aW (fun h17 => ?_) (fun h17 => ?_)
 ·refine aA (bG J J) J <| Nk [0,1,4,11,12,13,14,15,16,17,18] J <| aP J <| aD <| cO <| aH (z := 6) J <| Um J J <| Um J J <| aA (aX J J) J <| aA (bV J J om) J <| aA (oSlH (j := es.length - 1) J J J eZ J om (by simp)) J <| Ua J J <| Wn <| cD <| aG <| ⟨⟨k1, es.take (es.length - 1)⟩, ⟨rfl, congrArg some ?_, rfl, trivial⟩, ⟨J, trivial⟩, ⟨hk1, ?_, ?_⟩, ?_⟩
  ·have h9 : ¬ k1 = 2 := by omega
   simp [h9]
  ·rw [oV om om]; exact hds
  ·simp; omega
  ·simp; omega
 refine aA (bG J J) J <| Nk [0,1,4,11,12,13,14,15,16,17,18] J <| aT J <| aZ <| aQ <| aS J <| aB ?_
 have hte : trim es = es := iD om
 have hed : Dg 1073741824 es := by rw [← hte, hds]; exact lV hd
 have hev : val 1073741824 es = val 1073741824 ds := by rw [← hte, hds, fZ]
 have het : Trm es := by rw [← hte]; exact lW _
 refine Rg 14 J <| Um J J <| aA (aX J J) J <| aA (dG J J) J <| aW (fun h26 => ?_) (fun h26 => ?_)
 ·refine Um J J <| K1 J J <| K1 J J <| K1 J J <| K1 J J <| K1 J J <| K1 J J <| K1 J J <| K1 J J <| K1 J J <| aA (bG J J) J <| Nk [0,1,4,37] J <| aP J <| aB ?_
  have hbig := nF het om
  refine Rg 4 J <| Um J J <| Um J J <| aA (fH (cs := [_, _, _]) J J J J J) J <| aY (cH (cs' := [_, _, _]) J J J J J J J J) <| Wn <| aU ?_
  have hr : lvN (if b = true then -(val 1073741824 ds : Int) else val 1073741824 ds) = .agg [.v (.int .i64 0), .v (.bool b), .sl 1 (es.map d64)] := by
   rw [← hev, nE hed hbig, hte]
  have hk2 : k1 = 1 := by omega
  subst hk2
  refine post (n := 0) (.inr J) J ?_ (by simp)
  rw [hr]; rfl
 refine Um J J <| aE J (dU J) J <| aE J (aX J J) J <| aE J (eR J J) J <| aW (fun h30 => ?_) (fun h30 => ?_)
 rotate_left
 ·refine aE J (dU J) J <| K1 J J <| K1 J J <| K1 J J <| K1 J J <| aE J (bF J J) J <| aA (bF J J) J <| Nk [0,1,4,37] J <| aT J <| aD ?_
  have hsm := jS hed om
  refine Rg 1 J <| Ua J J <| Wn <| aB <| Rg 4 J <| Um J J <| aA (aX J J) J <| aA (bV J J om) J <| Ua J J <| Wn <| aL <| bA (α := Nat × Nat) (fun ⟨j, m⟩ => [(0, .v (.bool b)), (1, .sl k1 (es.map d64)), (4, .ptr (0 + 0) 0), (5, .v (.int .i64 (m : Int))), (6, .v (.int .i64 ((j : Int) - 1)))]) (fun ⟨j, m⟩ => [(0, { cells := [.v (.int .i64 0), .v (.bool false), .sl 0 []], sz := 3, elem := 62, st := 0 })]) (fun ⟨j, m⟩ n => j ≤ es.length ∧ m = val 1073741824 (es.drop j)) (fun ⟨j, m⟩ => j) (es.length, 0) ⟨J, J, J, J, J, trivial⟩ ⟨J, trivial⟩ ⟨Nat.le_refl _, by rw [List.drop_length]; rfl⟩ ?_
  rintro ⟨j, m⟩ n hG
  change WC _ _ _ _ _ (_ :: _) (_ :: _) n _
  obtain ⟨hj, hm⟩ := hG
  refine aB <| Rg 2 J <| Um J J <| aA (fJ J J) J <| aW (fun h45 => ?_) (fun h45 => ?_)
  ·refine Wn <| aP J <| aD <| aL ?_
   have hmv : es.getD (j - 1) default + 1073741824 * m = val 1073741824 (es.drop (j - 1)) := by rw [hm, nG (k := j - 1) om, show j - 1 + 1 = j by omega]
   have hle := iX 1073741824 es (j - 1) (by decide)
   refine aH (z := 8) J <| Um J J <| aA (eS J J om) J <| Um J J <| Um J J <| aA (bS (j := j - 1) J J J J om om J) J <| aA (dB J J J) J <| aA (cI (((es.getD (j - 1) default + 1073741824 * m : Nat) : Int)) (aR J J om) om) J <| Ua J J <| Wn <| aF <| aH (z := 3) J <| Um J J <| aA (cI (((j - 1 : Nat) : Int) - 1) (bV J J om) om) J <| Ua J J <| Wn <| aG <| ⟨⟨j - 1, es.getD (j - 1) default + 1073741824 * m⟩, ⟨J, J, J, J, J, trivial⟩, ⟨J, trivial⟩, ⟨om, hmv⟩, by show j - 1 < j; omega⟩
  refine Wn <| aT J <| aZ <| aQ <| aS J <| aB ?_
  have hj0 : j = 0 := by omega
  subst hj0
  rw [List.drop_zero] at hm
  refine Rg 1 J <| Um J J <| dC (fun h55 => ?_) (fun h55 => ?_)
  rotate_left
  ·refine Wn <| aT J <| aD <| Rg 3 J <| Um J J <| aA (fH (cs := [_, _, _]) J J J J J) J <| aY (cH (cs' := [_, _, _]) J J J J J J J J) <| Wn <| aM <| post (n := 0) (.inr J) J ?_ (by simp)
   rw [if_neg (by rw [h55]; decide), ← hev, ← hm, dR (by unfold smallN; omega)]; rfl
  refine Wn <| aP J <| Rg 3 J <| Um J J <| aA (eY J om) J <| Ua J J <| Wn <| Rg 3 J <| Um J J <| aA (fH (cs := [_, _, _]) J J J J J) J <| aY (cH (cs' := [_, _, _]) J J J J J J J J) <| Wn <| aM <| post (n := 0) (.inr J) J ?_ (by simp)
  rw [if_pos h55, ← hev, ← hm, dR (by unfold smallN; omega)]; rfl
 refine aE J (dU J) J <| aE J (dU J) J <| aE J (bS (j := 2) J J J J om om J) J <| aE J (dB J J J) J <| aE J (fJ J J) J <| aW (fun h35 => ?_) (fun h35 => ?_)
 ·refine aE J (bG J J) J <| aA (bF J J) J <| Nk [0,1,4,37] J <| aP J <| aB ?_
  have hbig := nF het om
  refine Rg 4 J <| Um J J <| Um J J <| aA (fH (cs := [_, _, _]) J J J J J) J <| aY (cH (cs' := [_, _, _]) J J J J J J J J) <| Wn <| aU ?_
  have hr : lvN (if b = true then -(val 1073741824 ds : Int) else val 1073741824 ds) = .agg [.v (.int .i64 0), .v (.bool b), .sl 1 (es.map d64)] := by
   rw [← hev, nE hed hbig, hte]
  have hk2 : k1 = 1 := by omega
  subst hk2
  refine post (n := 0) (.inr J) J ?_ (by simp)
  rw [hr]; rfl
 refine aE J (bG J J) J <| aA (bF J J) J <| Nk [0,1,4,37] J <| aT J <| aD ?_
 have hsm := jS hed om
 refine Rg 1 J <| Ua J J <| Wn <| aB <| Rg 4 J <| Um J J <| aA (aX J J) J <| aA (bV J J om) J <| Ua J J <| Wn <| aL <| bA (α := Nat × Nat) (fun ⟨j, m⟩ => [(0, .v (.bool b)), (1, .sl k1 (es.map d64)), (4, .ptr (0 + 0) 0), (5, .v (.int .i64 (m : Int))), (6, .v (.int .i64 ((j : Int) - 1)))]) (fun ⟨j, m⟩ => [(0, { cells := [.v (.int .i64 0), .v (.bool false), .sl 0 []], sz := 3, elem := 62, st := 0 })]) (fun ⟨j, m⟩ n => j ≤ es.length ∧ m = val 1073741824 (es.drop j)) (fun ⟨j, m⟩ => j) (es.length, 0) ⟨J, J, J, J, J, trivial⟩ ⟨J, trivial⟩ ⟨Nat.le_refl _, by rw [List.drop_length]; rfl⟩ ?_
 rintro ⟨j, m⟩ n hG
 change WC _ _ _ _ _ (_ :: _) (_ :: _) n _
 obtain ⟨hj, hm⟩ := hG
 refine aB <| Rg 2 J <| Um J J <| aA (fJ J J) J <| aW (fun h45 => ?_) (fun h45 => ?_)
 ·refine Wn <| aP J <| aD <| aL ?_
  have hmv : es.getD (j - 1) default + 1073741824 * m = val 1073741824 (es.drop (j - 1)) := by rw [hm, nG (k := j - 1) om, show j - 1 + 1 = j by omega]
  have hle := iX 1073741824 es (j - 1) (by decide)
  refine aH (z := 8) J <| Um J J <| aA (eS J J om) J <| Um J J <| Um J J <| aA (bS (j := j - 1) J J J J om om J) J <| aA (dB J J J) J <| aA (cI (((es.getD (j - 1) default + 1073741824 * m : Nat) : Int)) (aR J J om) om) J <| Ua J J <| Wn <| aF <| aH (z := 3) J <| Um J J <| aA (cI (((j - 1 : Nat) : Int) - 1) (bV J J om) om) J <| Ua J J <| Wn <| aG <| ⟨⟨j - 1, es.getD (j - 1) default + 1073741824 * m⟩, ⟨J, J, J, J, J, trivial⟩, ⟨J, trivial⟩, ⟨om, hmv⟩, by show j - 1 < j; omega⟩
 refine Wn <| aT J <| aZ <| aQ <| aS J <| aB ?_
 have hj0 : j = 0 := by omega
 subst hj0
 rw [List.drop_zero] at hm
 refine Rg 1 J <| Um J J <| dC (fun h55 => ?_) (fun h55 => ?_)
 rotate_left
 ·refine Wn <| aT J <| aD <| Rg 3 J <| Um J J <| aA (fH (cs := [_, _, _]) J J J J J) J <| aY (cH (cs' := [_, _, _]) J J J J J J J J) <| Wn <| aM <| post (n := 0) (.inr J) J ?_ (by simp)
  rw [if_neg (by rw [h55]; decide), ← hev, ← hm, dR (by unfold smallN; omega)]; rfl
 refine Wn <| aP J <| Rg 3 J <| Um J J <| aA (eY J om) J <| Ua J J <| Wn <| Rg 3 J <| Um J J <| aA (fH (cs := [_, _, _]) J J J J J) J <| aY (cH (cs' := [_, _, _]) J J J J J J J J) <| Wn <| aM <| post (n := 0) (.inr J) J ?_ (by simp)
 rw [if_pos h55, ← hev, ← hm, dR (by unfold smallN; omega)]; rfl
theorem dV (v : Int) : Run Tryz.prog T E0 (.call 115 [lvN v] (.v (.int .i64 v.sign))) := by
 refine bC Tryz.func115 J J (cX J) <| Rg 2 J <| bD (dY J J) J <| Ua J J <| Wn <| aL <| Rg 14 J <| aA (bB J J J J J) J <| aA (aO J J J J J) J <| aA (aX J J) J <| aA (dG J J) J <| aW (fun h7 => ?_) (fun h7 => ?_)
 rotate_left
 ·refine Um J J <| K1 J J <| K1 J J <| aA (bF J J) J <| Um J J <| aE J (bB J J J J J) J <| aE J (aO J J J J J) J <| aE J (bP J J) J <| aW (fun h15 => ?_) (fun h15 => ?_)
  ·refine aA (bF J J) J <| Ua J J <| Nk [1,3] J <| bU J <| Rg 1 J <| Ua J J <| Wn <| aM <| aK <| post (n := 0) (.inr J) J (congrArg (fun z => LV.v (.int .i64 z)) ?_) (by simp)
   exact (Int.sign_eq_neg_one_of_neg ((signN v).1 (by first | exact .inl ⟨h7, h10⟩ | exact .inr h15))).symm
  refine aA (bF J J) J <| Ua J J <| Nk [1,3] J <| bZ J ?_
  have hn : ¬ v < 0 := fun k => by
   rcases (signN v).2 k with ⟨k1, k2⟩ | k1
   ·first | omega | (rw [k2] at h10; cases h10)
   ·omega
  refine Rg 10 J <| aA (bB J J J J J) J <| aA (aO J J J J J) J <| aA (aX J J) J <| aA (dG J J) J <| aW (fun h21 => ?_) (fun h21 => ?_)
  ·refine Um J J <| K1 J J <| K1 J J <| K1 J J <| aA (bG J J) J <| Ua J J <| Wn <| bU J <| Rg 1 J <| Ua J J <| Wn <| aM <| aK <| post (n := 0) (.inr J) J (congrArg (fun z => LV.v (.int .i64 z)) ?_) (by simp)
   exact (Int.sign_eq_one_of_pos ((signP v hn).1 (.inl h21))).symm
  refine Um J J <| aE J (bB J J J J J) J <| aE J (aO J J J J J) J <| aE J (dG J J) J <| aW (fun h25 => ?_) (fun h25 => ?_)
  ·refine aA (bF J J) J <| Ua J J <| Wn <| bU J <| Rg 1 J <| Ua J J <| Wn <| aM <| aK <| post (n := 0) (.inr J) J (congrArg (fun z => LV.v (.int .i64 z)) ?_) (by simp)
   exact (Int.sign_eq_one_of_pos ((signP v hn).1 (.inr h25))).symm
  refine aA (bF J J) J <| Ua J J <| Wn <| bZ J <| cE <| aF <| Rg 1 J <| Ua J J <| Wn <| aM <| post (n := 0) (.inr J) J (congrArg (fun z => LV.v (.int .i64 z)) ?_) (by simp)
  have hp : ¬ 0 < v := fun k => by
   rcases (signP v hn).2 k with k1 | k1 <;> omega
  have h0 : v = 0 := by omega
  subst h0; rfl
 refine Um J J <| aE J (bB J J J J J) J <| aE J (aO J J J J J) J <| dC (fun h10 => ?_) (fun h10 => ?_)
 ·refine aA (bG J J) J <| Um J J <| K1 J J <| K1 J J <| K1 J J <| aA (bG J J) J <| Ua J J <| Nk [1,3] J <| bU J <| Rg 1 J <| Ua J J <| Wn <| aM <| aK <| post (n := 0) (.inr J) J (congrArg (fun z => LV.v (.int .i64 z)) ?_) (by simp)
  exact (Int.sign_eq_neg_one_of_neg ((signN v).1 (by first | exact .inl ⟨h7, h10⟩ | exact .inr h15))).symm
 refine aA (bG J J) J <| Um J J <| aE J (bB J J J J J) J <| aE J (aO J J J J J) J <| aE J (bP J J) J <| aW (fun h15 => ?_) (fun h15 => ?_)
 ·refine aA (bF J J) J <| Ua J J <| Nk [1,3] J <| bU J <| Rg 1 J <| Ua J J <| Wn <| aM <| aK <| post (n := 0) (.inr J) J (congrArg (fun z => LV.v (.int .i64 z)) ?_) (by simp)
  exact (Int.sign_eq_neg_one_of_neg ((signN v).1 (by first | exact .inl ⟨h7, h10⟩ | exact .inr h15))).symm
 refine aA (bF J J) J <| Ua J J <| Nk [1,3] J <| bZ J ?_
 have hn : ¬ v < 0 := fun k => by
  rcases (signN v).2 k with ⟨k1, k2⟩ | k1
  ·first | omega | (rw [k2] at h10; cases h10)
  ·omega
 refine Rg 10 J <| aA (bB J J J J J) J <| aA (aO J J J J J) J <| aA (aX J J) J <| aA (dG J J) J <| aW (fun h21 => ?_) (fun h21 => ?_)
 ·refine Um J J <| K1 J J <| K1 J J <| K1 J J <| aA (bG J J) J <| Ua J J <| Wn <| bU J <| Rg 1 J <| Ua J J <| Wn <| aM <| aK <| post (n := 0) (.inr J) J (congrArg (fun z => LV.v (.int .i64 z)) ?_) (by simp)
  exact (Int.sign_eq_one_of_pos ((signP v hn).1 (.inl h21))).symm
 refine Um J J <| aE J (bB J J J J J) J <| aE J (aO J J J J J) J <| aE J (dG J J) J <| aW (fun h25 => ?_) (fun h25 => ?_)
 ·refine aA (bF J J) J <| Ua J J <| Wn <| bU J <| Rg 1 J <| Ua J J <| Wn <| aM <| aK <| post (n := 0) (.inr J) J (congrArg (fun z => LV.v (.int .i64 z)) ?_) (by simp)
  exact (Int.sign_eq_one_of_pos ((signP v hn).1 (.inr h25))).symm
 refine aA (bF J J) J <| Ua J J <| Wn <| bZ J <| cE <| aF <| Rg 1 J <| Ua J J <| Wn <| aM <| post (n := 0) (.inr J) J (congrArg (fun z => LV.v (.int .i64 z)) ?_) (by simp)
 have hp : ¬ 0 < v := fun k => by
  rcases (signP v hn).2 k with k1 | k1 <;> omega
 have h0 : v = 0 := by omega
 subst h0; rfl
theorem iL (v : Int) : Run Tryz.prog T E0 (.call 131 [lvN v] (lvN (-v))) := by
 have hb := pE v
 refine bC Tryz.func131 J J (cX J) <| Rg 2 J <| bD (dY J J) J <| bD (dX J) J <| Wn <| Rg 16 J <| aA (bB J J J J J) J <| aA (aO J J J J J) J <| aA (eY J om) J <| aA (bB J J J J J) J <| aA (aO J J J J J) J <| aA (aX J J) J <| aA (dG J J) J <| aW (fun h9 => ?_) (fun h9 => ?_)
 ·refine Um J J <| aE J (bB J J J J J) J <| aE J (aO J J J J J) J <| aE J (cW J) J <| aA (bG J J) J <| aA (bB J J J J J) J <| aA (aO J J J J J) J <| aA (fH (cs := [_, _, _]) J J J J J) J <| aY (cH (cs' := [_, _, _]) J J J J J J J J) <| Nk [2] J <| aM <| post (n := 0) (.inr J) J ?_ (by simp)
  rw [lvN_neg, decide_eq_true h9, Bool.true_and]; rfl
 refine Um J J <| K1 J J <| K1 J J <| K1 J J <| aA (bF J J) J <| aA (bB J J J J J) J <| aA (aO J J J J J) J <| aA (fH (cs := [_, _, _]) J J J J J) J <| aY (cH (cs' := [_, _, _]) J J J J J J J J) <| Nk [2] J <| aM <| post (n := 0) (.inr J) J ?_ (by simp)
 rw [lvN_neg, decide_eq_false h9, Bool.false_and]; rfl
theorem jU (k1 k2 : Nat) (xs ys : List Nat) (hx : Dg 1073741824 xs) (hy : Dg 1073741824 ys) (tx : Trm xs) (ty : Trm ys) (lx : xs.length < 4611686018427387904) (ly : ys.length < 4611686018427387904) : Run Tryz.prog T E0 (.call 117 [.sl k1 (xs.map d64), .sl k2 (ys.map d64)] (.v (.int .i64 ((val 1073741824 xs : Int) - val 1073741824 ys).sign))) := by
 refine bC Tryz.func117 J J (cX J) <| Rg 1 J <| Ua J J <| Wn <| aB <| Rg 5 J <| Um J J <| aA (aX J J) J <| Um J J <| aA (aX J J) J <| aA (fS J J) J <| aW (fun h10 => ?_) (fun h10 => ?_)
 ·refine Wn <| aP J <| aB <| aB <| Rg 5 J <| Um J J <| aA (aX J J) J <| Um J J <| aA (aX J J) J <| aA (bP J J) J <| aW (fun h15 => ?_) (fun h15 => ?_)
  ·refine Wn <| aP J <| aB <| Rg 1 J <| Ua J J <| Wn <| aU <| post (n := 0) (.inr J) J (congrArg (fun z => LV.v (.int .i64 z)) ?_) (by simp)
   have := dM (B := 1073741824) (by decide) hx ty om
   exact (Int.sign_eq_neg_one_of_neg om).symm
  refine Wn <| aT J <| aD <| aB <| Rg 1 J <| Ua J J <| Wn <| aU <| post (n := 0) (.inr J) J (congrArg (fun z => LV.v (.int .i64 z)) ?_) (by simp)
  have := dM (B := 1073741824) (by decide) hy tx om
  exact (Int.sign_eq_one_of_pos om).symm
 have hlen : xs.length = ys.length := by omega
 refine Wn <| aT J <| aD <| aB <| Rg 4 J <| Um J J <| aA (aX J J) J <| aA (bV J J om) J <| Ua J J <| Wn <| aL <| bA (α := Nat) (fun k => [(0, .sl k1 (xs.map d64)), (1, .sl k2 (ys.map d64)), (5, .v (.int .i64 ((k : Int) - 1)))]) (fun k => []) (fun k n => k ≤ xs.length ∧ xs.drop k = ys.drop k) (fun k => k) (xs.length) ⟨J, J, J, trivial⟩ trivial ⟨Nat.le_refl _, by rw [List.drop_length, hlen, List.drop_length]⟩ ?_
 rintro k n hF
 change WC _ _ _ _ _ (_ :: _) ([]) n _
 obtain ⟨hk, hd⟩ := hF
 refine aB <| Rg 2 J <| Um J J <| aA (fJ J J) J <| aW (fun h20 => ?_) (fun h20 => ?_)
 rotate_left
 ·refine Wn <| aT J <| aZ <| aQ <| aS J <| Rg 1 J <| Ua J J <| Wn <| aM <| post (n := 0) (.inr J) J (congrArg (fun z => LV.v (.int .i64 z)) ?_) (by simp)
  have h0 : k = 0 := by omega
  subst h0
  simp only [List.drop_zero] at hd
  subst hd
  simp
 refine Wn <| aP J <| aD <| aL <| aB <| bQ (z := 9) J kR <| Dm J J <| Dm J J <| aJ (bS (j := k - 1) J J J J om om J) J <| aJ (dB J J J) J <| Dm J J <| Dm J J <| aJ (bS (j := k - 1) J J J J om om J) J <| aJ (dB J J J) J <| aJ (bP J J) J <| lZ (fun h31 => ?_) (fun h31 => ?_)
 ·refine bK (aV kR) J <| aP J <| aB <| Rg 1 J <| Ua J J <| Nk [4] J <| aU <| aK <| bE <| aK <| post (n := 0) (.inr J) J (congrArg (fun z => LV.v (.int .i64 z)) ?_) (by simp)
  have hj : k - 1 + 1 = k := by omega
  have := lX (B := 1073741824) (ys := ys) (by decide) hx (k := k - 1) om om (by rw [hj]; exact hd) om
  exact (Int.sign_eq_neg_one_of_neg om).symm
 refine bK (aV kR) J <| aT J <| aD <| bQ (z := 9) J kR <| Dm J J <| Dm J J <| aJ (bS (j := k - 1) J J J J om om J) J <| aJ (dB J J J) J <| Dm J J <| Dm J J <| aJ (bS (j := k - 1) J J J J om om J) J <| aJ (dB J J J) J <| aJ (dG J J) J <| lZ (fun h40 => ?_) (fun h40 => ?_)
 ·refine bK (aV kR) J <| Ck [0,1,5,40] J <| bU J <| Rg 1 J <| Ua J J <| Wn <| aM <| aK <| bE <| aK <| post (n := 0) (.inr J) J (congrArg (fun z => LV.v (.int .i64 z)) ?_) (by simp)
  have hj : k - 1 + 1 = k := by omega
  have := lX (B := 1073741824) (ys := xs) (by decide) hy (k := k - 1) om om (by rw [hj]; exact hd.symm) om
  exact (Int.sign_eq_one_of_pos om).symm
 refine bK (aV kR) J <| Ck [0,1,5,40] J <| bZ J <| cE <| aF <| aH (z := 3) J <| Um J J <| aA (cI (((k - 1 : Nat) : Int) - 1) (bV J J om) om) J <| Ua J J <| Wn <| aG ?_
 have hj : k - 1 + 1 = k := by omega
 refine ⟨k - 1, ⟨J, J, J, trivial⟩, trivial, ⟨om, ?_⟩, by show k - 1 < k; omega⟩
 rw [bN (by omega : k - 1 < xs.length), bN (by omega : k - 1 < ys.length), hj, hd]
 congr 1; omega
theorem nsum_run (k1 k2 : Nat) (xs ys : List Nat) (hx : Dg 1073741824 xs) (hy : Dg 1073741824 ys) (lx : xs.length < 1099511627776) (ly : ys.length < 1099511627776) : ∃ r, Run Tryz.prog T E0 (.call 116 [.sl k1 (xs.map d64), .sl k2 (ys.map d64)] r) ∧ ∃ ds, r = .sl (if ds.length = 0 then 0 else 1) (ds.map d64) ∧ Dg 1073741824 ds ∧ val 1073741824 ds = val 1073741824 xs + val 1073741824 ys ∧ ds.length ≤ max xs.length ys.length + 1 := by
 refine gX Tryz.func116 J J (cX J) <| Rg 1 J <| Ua J J <| Wn <| Rg 1 J <| Ua J J <| Wn <| Rg 1 J <| Ua J J <| Wn <| aB <| Rg 1 J <| Ua J J <| Wn <| aL <| bA (α := Nat × Nat × (List Nat)) (fun ⟨c, q, ds⟩ => [(0, .sl k1 (xs.map d64)), (1, .sl k2 (ys.map d64)), (5, outV q 1 (ds.map d64)), (6, .v (.int .i64 (c : Int))), (7, .v (.int .i64 (ds.length : Int)))]) (fun ⟨c, q, ds⟩ => outH q 1 3 (ds.map d64) []) (fun ⟨c, q, ds⟩ n => ds.length ≤ max xs.length ys.length + 1 ∧ (ds.length = max xs.length ys.length + 1 → c = 0) ∧ Dg 1073741824 ds ∧ c ≤ 1 ∧ val 1073741824 ds + 1073741824 ^ ds.length * c = val 1073741824 (xs.take ds.length) + val 1073741824 (ys.take ds.length)) (fun ⟨c, q, ds⟩ => max xs.length ys.length + 2 - ds.length) (0, 0, []) ⟨J, J, J, J, J, trivial⟩ trivial ⟨by simp, by simp, by intro d hd; simp at hd, om, by simp [val]⟩ ?_
 rintro ⟨c, q, ds⟩ n hF
 change WC _ _ _ _ _ (_ :: _) (outH _ _ _ _ _) n _
 obtain ⟨hl1, hl2, hdd, hc, hi⟩ := hF
 refine aB <| Rg 14 J <| Um J J <| Um J J <| aA (aX J J) J <| aA (bP J J) J <| aW (fun h11 => ?_) (fun h11 => ?_)
 ·refine Um J J <| K1 J J <| K1 J J <| K1 J J <| K1 J J <| aA (bG J J) J <| Um J J <| K1 J J <| K1 J J <| aA (bG J J) J <| Nk [0,1,5,6,7,13,14,15,16,19,20,21] J <| aP J <| aD <| aL <| aB <| Rg 4 J <| Um J J <| Um J J <| aA (aX J J) J <| aA (bP J J) J <| aW (fun h27 => ?_) (fun h27 => ?_)
  rotate_left
  ·refine Nk [0,1,5,6,7,13,14,15,16,19,20,27] J <| aT J <| aD <| aB <| Rg 4 J <| Um J J <| Um J J <| aA (aX J J) J <| aA (bP J J) J <| aW (fun h37 => ?_) (fun h37 => ?_)
   rotate_left
   ·refine Nk [0,1,5,6,7,13,14,15,16,19,20,37] J <| aT J <| aD <| Rg 6 J <| Um J J <| Um J J <| aA (gM (b := 1073741824) J J (by decide)) J <| aA (cS (cs := [_]) (rows := [[_]]) J J (by decide) J J J) J <| cY (te := ti3) (f := d64) (q := q) (us := ds) J J J J J (fun _ => rfl) (by decide) (by show (2 * (ds.length + 1) + 256) * 8 ≤ _; omega) om J J J <| Ua J J <| Nk [0,1,5,6,7,13,14,15,16,19,20] J <| aH (z := 3) J <| Um J J <| aA (fY (b := 1073741824) J J (by decide) om) J <| Ua J J <| Wn <| aF <| aH (z := 3) J <| Um J J <| aA (cI (((ds.length + 1 : Nat) : Int)) (aR J J om) om) J <| Ua J J <| cR ?_
    refine aG <| ⟨⟨(c) / 1073741824, _, ds ++ [(c) % 1073741824]⟩, ⟨rfl, rfl, rfl, rfl, congrArg some (by simp), trivial⟩, cN, ⟨by simp; omega, by simp; omega, hdd.snoc (Nat.mod_lt _ (by decide)), om, dK hi (dE om).symm (dE om).symm om⟩, by simp; omega⟩
   refine Nk [0,1,5,6,7,13,14,15,16,19,20,37] J <| aP J ?_
   have hyl : ys.getD ds.length default < 1073741824 := bH hy om
   refine Rg 7 J <| Um J J <| Um J J <| Um J J <| aA (bS J J J J J om J) J <| aA (dB J J J) J <| aA (cI (((c + ys.getD ds.length default : Nat) : Int)) (aR J J om) om) J <| Ua J J <| Nk [0,1,5,6,7,13,14,15,16,19,20] J <| Rg 6 J <| Um J J <| Um J J <| aA (gM (b := 1073741824) J J (by decide)) J <| aA (cS (cs := [_]) (rows := [[_]]) J J (by decide) J J J) J <| cY (te := ti3) (f := d64) (q := q) (us := ds) J J J J J (fun _ => rfl) (by decide) (by show (2 * (ds.length + 1) + 256) * 8 ≤ _; omega) om J J J <| Ua J J <| Nk [0,1,5,6,7,13,14,15,16,19,20] J <| aH (z := 3) J <| Um J J <| aA (fY (b := 1073741824) J J (by decide) om) J <| Ua J J <| cR ?_
   refine aF <| aH (z := 3) J <| Um J J <| aA (cI (((ds.length + 1 : Nat) : Int)) (aR J J om) om) J <| Ua J J <| Wn <| aG <| ⟨⟨(c + ys.getD ds.length default) / 1073741824, _, ds ++ [(c + ys.getD ds.length default) % 1073741824]⟩, ⟨rfl, rfl, rfl, rfl, congrArg some (by simp), trivial⟩, cN, ⟨by simp; omega, by simp; omega, hdd.snoc (Nat.mod_lt _ (by decide)), om, dK hi (dE om).symm J om⟩, by simp; omega⟩
  refine Nk [0,1,5,6,7,13,14,15,16,19,20,27] J <| aP J ?_
  have hxl : xs.getD ds.length default < 1073741824 := bH hx om
  refine Rg 7 J <| Um J J <| Um J J <| Um J J <| aA (bS J J J J J om J) J <| aA (dB J J J) J <| aA (cI (((c + xs.getD ds.length default : Nat) : Int)) (aR J J om) om) J <| Ua J J <| Nk [0,1,5,6,7,13,14,15,16,19,20] J <| aB <| Rg 4 J <| Um J J <| Um J J <| aA (aX J J) J <| aA (bP J J) J <| aW (fun h37 => ?_) (fun h37 => ?_)
  rotate_left
  ·refine Nk [0,1,5,6,7,13,14,15,16,19,20,37] J <| aT J <| aD <| Rg 6 J <| Um J J <| Um J J <| aA (gM (b := 1073741824) J J (by decide)) J <| aA (cS (cs := [_]) (rows := [[_]]) J J (by decide) J J J) J <| cY (te := ti3) (f := d64) (q := q) (us := ds) J J J J J (fun _ => rfl) (by decide) (by show (2 * (ds.length + 1) + 256) * 8 ≤ _; omega) om J J J <| Ua J J <| Nk [0,1,5,6,7,13,14,15,16,19,20] J <| aH (z := 3) J <| Um J J <| aA (fY (b := 1073741824) J J (by decide) om) J <| Ua J J <| Wn <| aF <| aH (z := 3) J <| Um J J <| aA (cI (((ds.length + 1 : Nat) : Int)) (aR J J om) om) J <| Ua J J <| cR ?_
   refine aG <| ⟨⟨(c + xs.getD ds.length default) / 1073741824, _, ds ++ [(c + xs.getD ds.length default) % 1073741824]⟩, ⟨rfl, rfl, rfl, rfl, congrArg some (by simp), trivial⟩, cN, ⟨by simp; omega, by simp; omega, hdd.snoc (Nat.mod_lt _ (by decide)), om, dK hi J (dE om).symm om⟩, by simp; omega⟩
  refine Nk [0,1,5,6,7,13,14,15,16,19,20,37] J <| aP J ?_
  have hyl : ys.getD ds.length default < 1073741824 := bH hy om
  refine Rg 7 J <| Um J J <| Um J J <| Um J J <| aA (bS J J J J J om J) J <| aA (dB J J J) J <| aA (cI (((c + xs.getD ds.length default + ys.getD ds.length default : Nat) : Int)) (aR J J om) om) J <| Ua J J <| Nk [0,1,5,6,7,13,14,15,16,19,20] J <| Rg 6 J <| Um J J <| Um J J <| aA (gM (b := 1073741824) J J (by decide)) J <| aA (cS (cs := [_]) (rows := [[_]]) J J (by decide) J J J) J <| cY (te := ti3) (f := d64) (q := q) (us := ds) J J J J J (fun _ => rfl) (by decide) (by show (2 * (ds.length + 1) + 256) * 8 ≤ _; omega) om J J J <| Ua J J <| Nk [0,1,5,6,7,13,14,15,16,19,20] J <| aH (z := 3) J <| Um J J <| aA (fY (b := 1073741824) J J (by decide) om) J <| Ua J J <| cR ?_
  refine aF <| aH (z := 3) J <| Um J J <| aA (cI (((ds.length + 1 : Nat) : Int)) (aR J J om) om) J <| Ua J J <| Wn <| aG <| ⟨⟨(c + xs.getD ds.length default + ys.getD ds.length default) / 1073741824, _, ds ++ [(c + xs.getD ds.length default + ys.getD ds.length default) % 1073741824]⟩, ⟨rfl, rfl, rfl, rfl, congrArg some (by simp), trivial⟩, cN, ⟨by simp; omega, by simp; omega, hdd.snoc (Nat.mod_lt _ (by decide)), om, dK hi J J om⟩, by simp; omega⟩
 refine Um J J <| aE J (dU J) J <| aE J (dU J) J <| aE J (aX J J) J <| aE J (bP J J) J <| aW (fun h16 => ?_) (fun h16 => ?_)
 ·refine aA (bF J J) J <| Um J J <| K1 J J <| K1 J J <| aA (bG J J) J <| Nk [0,1,5,6,7,13,14,15,16,19,20,21] J <| aP J <| aD <| aL <| aB <| Rg 4 J <| Um J J <| Um J J <| aA (aX J J) J <| aA (bP J J) J <| aW (fun h27 => ?_) (fun h27 => ?_)
  rotate_left
  ·refine Nk [0,1,5,6,7,13,14,15,16,19,20,27] J <| aT J <| aD <| aB <| Rg 4 J <| Um J J <| Um J J <| aA (aX J J) J <| aA (bP J J) J <| aW (fun h37 => ?_) (fun h37 => ?_)
   rotate_left
   ·refine Nk [0,1,5,6,7,13,14,15,16,19,20,37] J <| aT J <| aD <| Rg 6 J <| Um J J <| Um J J <| aA (gM (b := 1073741824) J J (by decide)) J <| aA (cS (cs := [_]) (rows := [[_]]) J J (by decide) J J J) J <| cY (te := ti3) (f := d64) (q := q) (us := ds) J J J J J (fun _ => rfl) (by decide) (by show (2 * (ds.length + 1) + 256) * 8 ≤ _; omega) om J J J <| Ua J J <| Nk [0,1,5,6,7,13,14,15,16,19,20] J <| aH (z := 3) J <| Um J J <| aA (fY (b := 1073741824) J J (by decide) om) J <| Ua J J <| Wn <| aF <| aH (z := 3) J <| Um J J <| aA (cI (((ds.length + 1 : Nat) : Int)) (aR J J om) om) J <| Ua J J <| cR ?_
    refine aG <| ⟨⟨(c) / 1073741824, _, ds ++ [(c) % 1073741824]⟩, ⟨rfl, rfl, rfl, rfl, congrArg some (by simp), trivial⟩, cN, ⟨by simp; omega, by simp; omega, hdd.snoc (Nat.mod_lt _ (by decide)), om, dK hi (dE om).symm (dE om).symm om⟩, by simp; omega⟩
   refine Nk [0,1,5,6,7,13,14,15,16,19,20,37] J <| aP J ?_
   have hyl : ys.getD ds.length default < 1073741824 := bH hy om
   refine Rg 7 J <| Um J J <| Um J J <| Um J J <| aA (bS J J J J J om J) J <| aA (dB J J J) J <| aA (cI (((c + ys.getD ds.length default : Nat) : Int)) (aR J J om) om) J <| Ua J J <| Nk [0,1,5,6,7,13,14,15,16,19,20] J <| Rg 6 J <| Um J J <| Um J J <| aA (gM (b := 1073741824) J J (by decide)) J <| aA (cS (cs := [_]) (rows := [[_]]) J J (by decide) J J J) J <| cY (te := ti3) (f := d64) (q := q) (us := ds) J J J J J (fun _ => rfl) (by decide) (by show (2 * (ds.length + 1) + 256) * 8 ≤ _; omega) om J J J <| Ua J J <| Nk [0,1,5,6,7,13,14,15,16,19,20] J <| aH (z := 3) J <| Um J J <| aA (fY (b := 1073741824) J J (by decide) om) J <| Ua J J <| cR ?_
   refine aF <| aH (z := 3) J <| Um J J <| aA (cI (((ds.length + 1 : Nat) : Int)) (aR J J om) om) J <| Ua J J <| Wn <| aG <| ⟨⟨(c + ys.getD ds.length default) / 1073741824, _, ds ++ [(c + ys.getD ds.length default) % 1073741824]⟩, ⟨rfl, rfl, rfl, rfl, congrArg some (by simp), trivial⟩, cN, ⟨by simp; omega, by simp; omega, hdd.snoc (Nat.mod_lt _ (by decide)), om, dK hi (dE om).symm J om⟩, by simp; omega⟩
  refine Nk [0,1,5,6,7,13,14,15,16,19,20,27] J <| aP J ?_
  have hxl : xs.getD ds.length default < 1073741824 := bH hx om
  refine Rg 7 J <| Um J J <| Um J J <| Um J J <| aA (bS J J J J J om J) J <| aA (dB J J J) J <| aA (cI (((c + xs.getD ds.length default : Nat) : Int)) (aR J J om) om) J <| Ua J J <| Nk [0,1,5,6,7,13,14,15,16,19,20] J <| aB <| Rg 4 J <| Um J J <| Um J J <| aA (aX J J) J <| aA (bP J J) J <| aW (fun h37 => ?_) (fun h37 => ?_)
  rotate_left
  ·refine Nk [0,1,5,6,7,13,14,15,16,19,20,37] J <| aT J <| aD <| Rg 6 J <| Um J J <| Um J J <| aA (gM (b := 1073741824) J J (by decide)) J <| aA (cS (cs := [_]) (rows := [[_]]) J J (by decide) J J J) J <| cY (te := ti3) (f := d64) (q := q) (us := ds) J J J J J (fun _ => rfl) (by decide) (by show (2 * (ds.length + 1) + 256) * 8 ≤ _; omega) om J J J <| Ua J J <| Nk [0,1,5,6,7,13,14,15,16,19,20] J <| aH (z := 3) J <| Um J J <| aA (fY (b := 1073741824) J J (by decide) om) J <| Ua J J <| Wn <| aF <| aH (z := 3) J <| Um J J <| aA (cI (((ds.length + 1 : Nat) : Int)) (aR J J om) om) J <| Ua J J <| cR ?_
   refine aG <| ⟨⟨(c + xs.getD ds.length default) / 1073741824, _, ds ++ [(c + xs.getD ds.length default) % 1073741824]⟩, ⟨rfl, rfl, rfl, rfl, congrArg some (by simp), trivial⟩, cN, ⟨by simp; omega, by simp; omega, hdd.snoc (Nat.mod_lt _ (by decide)), om, dK hi J (dE om).symm om⟩, by simp; omega⟩
  refine Nk [0,1,5,6,7,13,14,15,16,19,20,37] J <| aP J ?_
  have hyl : ys.getD ds.length default < 1073741824 := bH hy om
  refine Rg 7 J <| Um J J <| Um J J <| Um J J <| aA (bS J J J J J om J) J <| aA (dB J J J) J <| aA (cI (((c + xs.getD ds.length default + ys.getD ds.length default : Nat) : Int)) (aR J J om) om) J <| Ua J J <| Nk [0,1,5,6,7,13,14,15,16,19,20] J <| Rg 6 J <| Um J J <| Um J J <| aA (gM (b := 1073741824) J J (by decide)) J <| aA (cS (cs := [_]) (rows := [[_]]) J J (by decide) J J J) J <| cY (te := ti3) (f := d64) (q := q) (us := ds) J J J J J (fun _ => rfl) (by decide) (by show (2 * (ds.length + 1) + 256) * 8 ≤ _; omega) om J J J <| Ua J J <| Nk [0,1,5,6,7,13,14,15,16,19,20] J <| aH (z := 3) J <| Um J J <| aA (fY (b := 1073741824) J J (by decide) om) J <| Ua J J <| cR ?_
  refine aF <| aH (z := 3) J <| Um J J <| aA (cI (((ds.length + 1 : Nat) : Int)) (aR J J om) om) J <| Ua J J <| Wn <| aG <| ⟨⟨(c + xs.getD ds.length default + ys.getD ds.length default) / 1073741824, _, ds ++ [(c + xs.getD ds.length default + ys.getD ds.length default) % 1073741824]⟩, ⟨rfl, rfl, rfl, rfl, congrArg some (by simp), trivial⟩, cN, ⟨by simp; omega, by simp; omega, hdd.snoc (Nat.mod_lt _ (by decide)), om, dK hi J J om⟩, by simp; omega⟩
 refine aA (bF J J) J <| Um J J <| aE J (dU J) J <| aE J (dG J J) J <| aW (fun h20 => ?_) (fun h20 => ?_)
 rotate_left
 ·refine aA (bF J J) J <| Nk [0,1,5,6,7,13,14,15,16,19,20,21] J <| aT J <| aZ <| aQ <| aS J <| Rg 2 J <| Um J J <| Ua J J <| Wn <| aM <| ⟨outR (ds.map d64), ⟨ds, kW _ _, hdd, ?_, hl1⟩, nQ (n := 0) (.inr J) J (by decide) eZ cV⟩
  have hc0 : c = 0 := by omega
  rw [hc0, Nat.mul_zero, Nat.add_zero, List.take_of_length_le om, List.take_of_length_le om] at hi
  exact hi
 refine aA (bF J J) J <| Nk [0,1,5,6,7,13,14,15,16,19,20,21] J <| aP J <| aD <| aL <| aB <| Rg 4 J <| Um J J <| Um J J <| aA (aX J J) J <| aA (bP J J) J <| aW (fun h27 => ?_) (fun h27 => ?_)
 rotate_left
 ·refine Nk [0,1,5,6,7,13,14,15,16,19,20,27] J <| aT J <| aD <| aB <| Rg 4 J <| Um J J <| Um J J <| aA (aX J J) J <| aA (bP J J) J <| aW (fun h37 => ?_) (fun h37 => ?_)
  rotate_left
  ·refine Nk [0,1,5,6,7,13,14,15,16,19,20,37] J <| aT J <| aD <| Rg 6 J <| Um J J <| Um J J <| aA (gM (b := 1073741824) J J (by decide)) J <| aA (cS (cs := [_]) (rows := [[_]]) J J (by decide) J J J) J <| cY (te := ti3) (f := d64) (q := q) (us := ds) J J J J J (fun _ => rfl) (by decide) (by show (2 * (ds.length + 1) + 256) * 8 ≤ _; omega) om J J J <| Ua J J <| Nk [0,1,5,6,7,13,14,15,16,19,20] J <| aH (z := 3) J <| Um J J <| aA (fY (b := 1073741824) J J (by decide) om) J <| Ua J J <| Wn <| aF <| aH (z := 3) J <| Um J J <| aA (cI (((ds.length + 1 : Nat) : Int)) (aR J J om) om) J <| Ua J J <| cR ?_
   refine aG <| ⟨⟨(c) / 1073741824, _, ds ++ [(c) % 1073741824]⟩, ⟨rfl, rfl, rfl, rfl, congrArg some (by simp), trivial⟩, cN, ⟨by simp; omega, by simp; omega, hdd.snoc (Nat.mod_lt _ (by decide)), om, dK hi (dE om).symm (dE om).symm om⟩, by simp; omega⟩
  refine Nk [0,1,5,6,7,13,14,15,16,19,20,37] J <| aP J ?_
  have hyl : ys.getD ds.length default < 1073741824 := bH hy om
  refine Rg 7 J <| Um J J <| Um J J <| Um J J <| aA (bS J J J J J om J) J <| aA (dB J J J) J <| aA (cI (((c + ys.getD ds.length default : Nat) : Int)) (aR J J om) om) J <| Ua J J <| Nk [0,1,5,6,7,13,14,15,16,19,20] J <| Rg 6 J <| Um J J <| Um J J <| aA (gM (b := 1073741824) J J (by decide)) J <| aA (cS (cs := [_]) (rows := [[_]]) J J (by decide) J J J) J <| cY (te := ti3) (f := d64) (q := q) (us := ds) J J J J J (fun _ => rfl) (by decide) (by show (2 * (ds.length + 1) + 256) * 8 ≤ _; omega) om J J J <| Ua J J <| Nk [0,1,5,6,7,13,14,15,16,19,20] J <| aH (z := 3) J <| Um J J <| aA (fY (b := 1073741824) J J (by decide) om) J <| Ua J J <| cR ?_
  refine aF <| aH (z := 3) J <| Um J J <| aA (cI (((ds.length + 1 : Nat) : Int)) (aR J J om) om) J <| Ua J J <| Wn <| aG <| ⟨⟨(c + ys.getD ds.length default) / 1073741824, _, ds ++ [(c + ys.getD ds.length default) % 1073741824]⟩, ⟨rfl, rfl, rfl, rfl, congrArg some (by simp), trivial⟩, cN, ⟨by simp; omega, by simp; omega, hdd.snoc (Nat.mod_lt _ (by decide)), om, dK hi (dE om).symm J om⟩, by simp; omega⟩
 refine Nk [0,1,5,6,7,13,14,15,16,19,20,27] J <| aP J ?_
 have hxl : xs.getD ds.length default < 1073741824 := bH hx om
 refine Rg 7 J <| Um J J <| Um J J <| Um J J <| aA (bS J J J J J om J) J <| aA (dB J J J) J <| aA (cI (((c + xs.getD ds.length default : Nat) : Int)) (aR J J om) om) J <| Ua J J <| Nk [0,1,5,6,7,13,14,15,16,19,20] J <| aB <| Rg 4 J <| Um J J <| Um J J <| aA (aX J J) J <| aA (bP J J) J <| aW (fun h37 => ?_) (fun h37 => ?_)
 rotate_left
 ·refine Nk [0,1,5,6,7,13,14,15,16,19,20,37] J <| aT J <| aD <| Rg 6 J <| Um J J <| Um J J <| aA (gM (b := 1073741824) J J (by decide)) J <| aA (cS (cs := [_]) (rows := [[_]]) J J (by decide) J J J) J <| cY (te := ti3) (f := d64) (q := q) (us := ds) J J J J J (fun _ => rfl) (by decide) (by show (2 * (ds.length + 1) + 256) * 8 ≤ _; omega) om J J J <| Ua J J <| Nk [0,1,5,6,7,13,14,15,16,19,20] J <| aH (z := 3) J <| Um J J <| aA (fY (b := 1073741824) J J (by decide) om) J <| Ua J J <| Wn <| aF <| aH (z := 3) J <| Um J J <| aA (cI (((ds.length + 1 : Nat) : Int)) (aR J J om) om) J <| Ua J J <| cR ?_
  refine aG <| ⟨⟨(c + xs.getD ds.length default) / 1073741824, _, ds ++ [(c + xs.getD ds.length default) % 1073741824]⟩, ⟨rfl, rfl, rfl, rfl, congrArg some (by simp), trivial⟩, cN, ⟨by simp; omega, by simp; omega, hdd.snoc (Nat.mod_lt _ (by decide)), om, dK hi J (dE om).symm om⟩, by simp; omega⟩
 refine Nk [0,1,5,6,7,13,14,15,16,19,20,37] J <| aP J ?_
 have hyl : ys.getD ds.length default < 1073741824 := bH hy om
 refine Rg 7 J <| Um J J <| Um J J <| Um J J <| aA (bS J J J J J om J) J <| aA (dB J J J) J <| aA (cI (((c + xs.getD ds.length default + ys.getD ds.length default : Nat) : Int)) (aR J J om) om) J <| Ua J J <| Nk [0,1,5,6,7,13,14,15,16,19,20] J <| Rg 6 J <| Um J J <| Um J J <| aA (gM (b := 1073741824) J J (by decide)) J <| aA (cS (cs := [_]) (rows := [[_]]) J J (by decide) J J J) J <| cY (te := ti3) (f := d64) (q := q) (us := ds) J J J J J (fun _ => rfl) (by decide) (by show (2 * (ds.length + 1) + 256) * 8 ≤ _; omega) om J J J <| Ua J J <| Nk [0,1,5,6,7,13,14,15,16,19,20] J <| aH (z := 3) J <| Um J J <| aA (fY (b := 1073741824) J J (by decide) om) J <| Ua J J <| cR ?_
 refine aF <| aH (z := 3) J <| Um J J <| aA (cI (((ds.length + 1 : Nat) : Int)) (aR J J om) om) J <| Ua J J <| Wn <| aG <| ⟨⟨(c + xs.getD ds.length default + ys.getD ds.length default) / 1073741824, _, ds ++ [(c + xs.getD ds.length default + ys.getD ds.length default) % 1073741824]⟩, ⟨rfl, rfl, rfl, rfl, congrArg some (by simp), trivial⟩, cN, ⟨by simp; omega, by simp; omega, hdd.snoc (Nat.mod_lt _ (by decide)), om, dK hi J J om⟩, by simp; omega⟩
theorem ndiff_run (k1 k2 : Nat) (xs ys : List Nat) (hx : Dg 1073741824 xs) (hy : Dg 1073741824 ys) (lx : xs.length < 1099511627776) (hle : ys.length ≤ xs.length) (hv : val 1073741824 ys ≤ val 1073741824 xs) : ∃ r, Run Tryz.prog T E0 (.call 118 [.sl k1 (xs.map d64), .sl k2 (ys.map d64)] r) ∧ ∃ ds, r = .sl (if ds.length = 0 then 0 else 1) (ds.map d64) ∧ Dg 1073741824 ds ∧ val 1073741824 ds = val 1073741824 xs - val 1073741824 ys ∧ ds.length = xs.length := by
 refine gX Tryz.func118 J J (cX J) <| Rg 1 J <| Ua J J <| Wn <| Rg 1 J <| Ua J J <| Wn <| Rg 1 J <| Ua J J <| Wn <| aB <| Rg 3 J <| Um J J <| aA (aX J J) J <| Um J J <| Wn <| aL <| bA (α := Nat × Nat × (List Nat)) (fun ⟨c, q, ds⟩ => [(0, .sl k1 (xs.map d64)), (1, .sl k2 (ys.map d64)), (5, outV q 1 (ds.map d64)), (6, .v (.int .i64 (-(c : Int)))), (9, .v (.int .i64 (xs.length : Int))), (10, .v (.int .i64 (ds.length : Int)))]) (fun ⟨c, q, ds⟩ => outH q 1 3 (ds.map d64) []) (fun ⟨c, q, ds⟩ n => ds.length ≤ xs.length ∧ Dg 1073741824 ds ∧ c ≤ 1 ∧ val 1073741824 (xs.take ds.length) + 1073741824 ^ ds.length * c = val 1073741824 ds + val 1073741824 (ys.take ds.length)) (fun ⟨c, q, ds⟩ => xs.length - ds.length) (0, 0, []) ⟨J, J, J, J, J, J, trivial⟩ trivial ⟨Nat.zero_le _, by intro d hd; simp at hd, om, by simp [val]⟩ ?_
 rintro ⟨c, q, ds⟩ n hF
 change WC _ _ _ _ _ (_ :: _) (outH _ _ _ _ _) n _
 obtain ⟨hdl, hdd, hc, hi⟩ := hF
 refine Rg 1 J <| aA (bP J J) J <| aW (fun h11 => ?_) (fun h11 => ?_)
 rotate_left
 ·refine Wn <| aT J <| aZ <| aQ <| aS J <| Rg 2 J <| Um J J <| Ua J J <| Wn <| aM <| ⟨outR (ds.map d64), ⟨ds, kW _ _, hdd, ?_, om⟩, nQ (n := 0) (.inr J) J (by decide) eZ cV⟩
  have hl : ds.length = xs.length := by omega
  rw [List.take_of_length_le om, List.take_of_length_le om] at hi
  have hlt := dL (B := 1073741824) (by decide) hdd
  rcases (show c = 0 ∨ c = 1 by omega) with rfl | rfl
  ·omega
  ·omega
 refine Wn <| aP J <| aD <| aL <| Rg 2 J <| Um J J <| Ua J J <| cR ?_
 have hxl : xs.getD ds.length default < 1073741824 := bH hx om
 refine Rg 7 J <| Um J J <| Um J J <| Um J J <| aA (bS J J J J J om J) J <| aA (dB J J J) J <| aA (cI (((xs.getD ds.length default : Nat) : Int) - c) (aR J J om) om) J <| Ua J J <| Nk [0,1,5,6,7,9,10] J <| aB <| Rg 4 J <| Um J J <| Um J J <| aA (aX J J) J <| aA (bP J J) J <| aW (fun h22 => ?_) (fun h22 => ?_)
 rotate_left
 ·refine Wn <| aT J <| aD <| Rg 2 J <| Um J J <| aA (bP J J) J <| aW (fun h30 => ?_) (fun h30 => ?_)
  rotate_left
  ·refine Wn <| bZ J <| Rg 5 J <| Um J J <| aA (cI (((xs.getD ds.length default - 0 - c : Nat) : Int)) (dU J) om) J <| aA (cS (cs := [_]) (rows := [[_]]) J J (by decide) J J J) J <| cY (te := ti3) (f := d64) (q := q) (us := ds) J J J J J (fun _ => rfl) (by decide) (by show (2 * (ds.length + 1) + 256) * 8 ≤ _; omega) om J J J <| Ua J J <| Nk [0,1,5,9,10] J <| aH (z := 1) J <| Ua J J <| Wn <| aF <| aH (z := 2) J <| aA (cI (((ds.length + 1 : Nat) : Int)) (aR J J om) om) J <| Um J J <| Wn <| aG <| ⟨⟨0, _, ds ++ [(xs.getD ds.length default - 0 - c)]⟩, ⟨rfl, rfl, rfl, rfl, rfl, congrArg some (by simp), trivial⟩, cN, ⟨by simp; omega, hdd.snoc om, om, iS hi J (dE om).symm om om⟩, by simp; omega⟩
  refine Wn <| bU J <| Rg 6 J <| Um J J <| Um J J <| aA (cI (((xs.getD ds.length default + 1073741824 - 0 - c : Nat) : Int)) (aR J J om) om) J <| aA (cS (cs := [_]) (rows := [[_]]) J J (by decide) J J J) J <| cY (te := ti3) (f := d64) (q := q) (us := ds) J J J J J (fun _ => rfl) (by decide) (by show (2 * (ds.length + 1) + 256) * 8 ≤ _; omega) om J J J <| Ua J J <| Nk [0,1,5,9,10] J <| aH (z := 1) J <| Ua J J <| Wn <| aF <| aH (z := 2) J <| aA (cI (((ds.length + 1 : Nat) : Int)) (aR J J om) om) J <| Um J J <| Wn <| aG <| ⟨⟨1, _, ds ++ [(xs.getD ds.length default + 1073741824 - 0 - c)]⟩, ⟨rfl, rfl, rfl, rfl, rfl, congrArg some (by simp), trivial⟩, cN, ⟨by simp; omega, hdd.snoc om, om, iT hi J (dE om).symm om om⟩, by simp; omega⟩
 refine Wn <| aP J ?_
 have hyl : ys.getD ds.length default < 1073741824 := bH hy om
 refine Rg 7 J <| Um J J <| Um J J <| Um J J <| aA (bS J J J J J om J) J <| aA (dB J J J) J <| aA (cI (((xs.getD ds.length default : Nat) : Int) - c - ((ys.getD ds.length default : Nat) : Int)) (bV J J om) om) J <| Ua J J <| Nk [0,1,5,6,9,10] J <| Rg 2 J <| Um J J <| aA (bP J J) J <| aW (fun h30 => ?_) (fun h30 => ?_)
 rotate_left
 ·refine Wn <| bZ J <| Rg 5 J <| Um J J <| aA (cI (((xs.getD ds.length default - ys.getD ds.length default - c : Nat) : Int)) (dU J) om) J <| aA (cS (cs := [_]) (rows := [[_]]) J J (by decide) J J J) J <| cY (te := ti3) (f := d64) (q := q) (us := ds) J J J J J (fun _ => rfl) (by decide) (by show (2 * (ds.length + 1) + 256) * 8 ≤ _; omega) om J J J <| Ua J J <| Wn <| aH (z := 1) J <| Ua J J <| Wn <| aF <| aH (z := 2) J <| aA (cI (((ds.length + 1 : Nat) : Int)) (aR J J om) om) J <| Um J J <| Wn <| aG <| ⟨⟨0, _, ds ++ [(xs.getD ds.length default - ys.getD ds.length default - c)]⟩, ⟨rfl, rfl, rfl, rfl, rfl, congrArg some (by simp), trivial⟩, cN, ⟨by simp; omega, hdd.snoc om, om, iS hi J J om om⟩, by simp; omega⟩
 refine Wn <| bU J <| Rg 6 J <| Um J J <| Um J J <| aA (cI (((xs.getD ds.length default + 1073741824 - ys.getD ds.length default - c : Nat) : Int)) (aR J J om) om) J <| aA (cS (cs := [_]) (rows := [[_]]) J J (by decide) J J J) J <| cY (te := ti3) (f := d64) (q := q) (us := ds) J J J J J (fun _ => rfl) (by decide) (by show (2 * (ds.length + 1) + 256) * 8 ≤ _; omega) om J J J <| Ua J J <| Wn <| aH (z := 1) J <| Ua J J <| Wn <| aF <| aH (z := 2) J <| aA (cI (((ds.length + 1 : Nat) : Int)) (aR J J om) om) J <| Um J J <| Wn <| aG <| ⟨⟨1, _, ds ++ [(xs.getD ds.length default + 1073741824 - ys.getD ds.length default - c)]⟩, ⟨rfl, rfl, rfl, rfl, rfl, congrArg some (by simp), trivial⟩, cN, ⟨by simp; omega, hdd.snoc om, om, iT hi J J om om⟩, by simp; omega⟩
end Go.Proofs.YtcblgjaomljikaaGreat
set_option maxHeartbeats 4000000
namespace Go.Proofs.YtcblgjaomljikaaGreat
open Go.Ab Go.RowKit
theorem nL (k0 : Nat) (xs : List Nat) (y : Nat) (hx : Dg 1073741824 xs) (hy : 0 < y) (hy2 : y < 1073741824) (lx : xs.length < 1099511627776) : ∃ r, Run Tryz.prog T E0 (.call 154 [.sl k0 (xs.map d64), .v (.int .i64 (y : Int))] r) ∧ ∃ ds rest, r = .tup [.sl 1 (ds.map d64), .v (.int .i64 ((rest : Nat) : Int))] ∧ Dg 1073741824 ds ∧ rest < y ∧ val 1073741824 ds * y + rest = val 1073741824 xs ∧ ds.length = xs.length := by
 refine gX Tryz.func154 J J (cX J) <| Rg 2 J <| Ua J J <| Ua J J <| Wn <| Rg 4 J <| Um J J <| aA (aX J J) J <| bD (oMk (a := xs.length) (b := xs.length) J J J J om om (by decide) om (by show 8 * xs.length ≤ _; omega) om) J <| Ua J J <| Wn <| aB <| Rg 4 J <| Um J J <| aA (aX J J) J <| aA (bV J J om) J <| Ua J J <| Wn <| aL <| bA (α := Nat × Nat × (List Nat)) (fun ⟨k, rest, us⟩ => [(0, .sl k0 (xs.map d64)), (1, .v (.int .i64 (y : Int))), (4, .ref (0 + 2 + 2) 1 0 us.length), (5, .v (.int .i64 (rest : Int))), (6, .v (.int .i64 ((k : Int) - 1)))]) (fun ⟨k, rest, us⟩ => [(0 + 2 + 2, { cells := (us.map d64).flatten, sz := 1, elem := 3, st := 0 })]) (fun ⟨k, rest, us⟩ n => k ≤ xs.length ∧ us.length = xs.length ∧ Dg 1073741824 us ∧ rest < y ∧ val 1073741824 (us.drop k) * y + rest = val 1073741824 (xs.drop k)) (fun ⟨k, rest, us⟩ => k) (xs.length, 0, List.replicate xs.length 0) ⟨rfl, rfl, congrArg some (by rw [List.length_replicate]; rfl), rfl, rfl, trivial⟩ ⟨g0.trans (by rw [List.map_replicate]; rfl), trivial⟩ ⟨Nat.le_refl _, by simp, by intro d hd; simp at hd; rw [hd.2]; decide, hy, by simp [val]⟩ ?_
 rintro ⟨k, rest, us⟩ n hF
 change WC _ _ _ _ _ (_ :: _) (_ :: _) n _
 obtain ⟨hk, hul, hud, hrest, huv⟩ := hF
 refine aB <| Rg 2 J <| Um J J <| aA (fJ J J) J <| aW (fun h14 => ?_) (fun h14 => ?_)
 rotate_left
 ·refine Wn <| aT J <| aZ <| aQ <| aS J <| Rg 4 J <| Um J J <| Um J J <| Ua J J <| Ua J J <| Wn <| aM <| ⟨.tup [.sl 1 (us.map d64), .v (.int .i64 (rest : Int))], ⟨us, rest, rfl, hud, hrest, ?_, hul⟩, postA (n := 0) [(0 + 2 + 2, { cells := (us.map d64).flatten, sz := 1, elem := 3, st := 1 })] (.inr J) J (.own _ (by simp) J (by show (0 : Nat) ≠ 2; decide) J (by decide) (by simp [keys]) J eZ cV (.data (by simp) .nil)) (by intro p hp; simp at hp; subst hp; exact ⟨_, rfl, by show (0 : Nat) ≠ 2; decide, rfl⟩)⟩
  have h0 : k = 0 := by omega
  subst h0
  simpa using huv
 refine Wn <| aP J <| aD <| aL ?_
 have hxl : xs.getD (k - 1) default < 1073741824 := bH hx om
 have hq : (rest * 1073741824 + xs.getD (k - 1) default) / y < 1073741824 := by
  rw [Nat.div_lt_iff_lt_mul hy]; have := Nat.mul_le_mul_left 1073741824 (show rest + 1 ≤ y from hrest); omega
 refine Rg 8 J <| Um J J <| aA (cI (((rest * 1073741824 : Nat) : Int)) (eS J J om) om) J <| Um J J <| Um J J <| aA (bS (j := k - 1) J J J J om om J) J <| aA (dB J J J) J <| aA (cI ((((rest * 1073741824 + xs.getD (k - 1) default) : Nat) : Int)) (aR J J om) om) J <| Ua J J <| Wn <| dQ (z := 11) J kR <| Dm J J <| Dm J J <| Dm J J <| Dm J J <| aJ (fY (a := (rest * 1073741824 + xs.getD (k - 1) default)) (b := y) J J hy om) J <| Dm J J <| Dm J J <| aJ (gM (a := (rest * 1073741824 + xs.getD (k - 1) default)) (b := y) J J hy) J <| aJ (dF (j := k - 1) J J J J om om J) J <| cU (fT (f := d64) (us := us) ((rest * 1073741824 + xs.getD (k - 1) default) / y) J J J g0 (fun _ => rfl) J J om J) <| aJ (kU J) J <| bK (aV kR) J <| aF ?_
 refine Ck [0,1,4,5,6] J <| aH (z := 3) J <| Um J J <| aA (cI (((k - 1 : Nat) : Int) - 1) (bV J J om) om) J <| Ua J J <| Wn <| aG ?_
 have hj : k - 1 + 1 = k := by omega
 refine ⟨⟨k - 1, (rest * 1073741824 + xs.getD (k - 1) default) % y, us.set (k - 1) ((rest * 1073741824 + xs.getD (k - 1) default) / y)⟩, ⟨rfl, rfl, congrArg some (by rw [List.length_set]), rfl, rfl, trivial⟩, ⟨g0, trivial⟩, ⟨om, by rw [List.length_set]; exact hul, hud.set _ hq, Nat.mod_lt _ hy, ?_⟩, by show k - 1 < k; omega⟩
 exact rN hy (by rw [hj]; exact huv) om om
theorem pF (k0 : Nat) (xs : List Nat) (n0 : Nat) (hx : Dg 1073741824 xs) (hn : n0 < 1073741824) (lx : xs.length < 1099511627776) : ∃ r, Run Tryz.prog T E0 (.call 155 [.sl k0 (xs.map d64), .v (.int .i64 (n0 : Int))] r) ∧ ∃ ds, r = .sl 1 (ds.map d64) ∧ Dg 1073741824 ds ∧ val 1073741824 ds = val 1073741824 xs * n0 ∧ ds.length = xs.length + 1 := by
 refine gX Tryz.func155 J J (cX J) <| Rg 1 J <| Ua J J <| Wn <| Rg 1 J <| Ua J J <| Wn <| Rg 1 J <| Ua J J <| Wn <| aB <| Rg 3 J <| Um J J <| aA (aX J J) J <| Um J J <| Wn <| aL <| bA (α := Nat × Nat × (List Nat)) (fun ⟨c, q, ds⟩ => [(1, .v (.int .i64 (n0 : Int))), (5, outV q 1 (ds.map d64)), (6, .v (.int .i64 (c : Int))), (9, .sl k0 (xs.map d64)), (10, .v (.int .i64 (xs.length : Int))), (11, .v (.int .i64 (ds.length : Int)))]) (fun ⟨c, q, ds⟩ => outH q 1 3 (ds.map d64) []) (fun ⟨c, q, ds⟩ n => ds.length ≤ xs.length ∧ Dg 1073741824 ds ∧ c < 1073741824 ∧ val 1073741824 ds + 1073741824 ^ ds.length * c = val 1073741824 (xs.take ds.length) * n0) (fun ⟨c, q, ds⟩ => xs.length - ds.length) (0, 0, []) ⟨J, J, J, J, J, J, trivial⟩ trivial ⟨Nat.zero_le _, by intro d hd; simp at hd, om, by simp [val]⟩ ?_
 rintro ⟨c, q, ds⟩ n hF
 change WC _ _ _ _ _ (_ :: _) (outH _ _ _ _ _) n _
 obtain ⟨hl1, hdd, hc, hi⟩ := hF
 refine Rg 1 J <| aA (bP J J) J <| aW (fun h12 => ?_) (fun h12 => ?_)
 rotate_left
 ·refine Wn <| aT J <| aZ <| aQ <| aS J ?_
  have hl : ds.length = xs.length := by omega
  rw [List.take_of_length_le om] at hi
  refine Rg 5 J <| Um J J <| Um J J <| aA (cS (cs := [_]) (rows := [[_]]) J J (by decide) J J J) J <| cY (te := ti3) (f := d64) (q := q) (us := ds) J J J J J (fun _ => rfl) (by decide) (by show (2 * (ds.length + 1) + 256) * 8 ≤ _; omega) om J J J <| Ua J J <| Wn <| aM ?_
  have e1 : outR ((ds ++ [c]).map d64) = .sl 1 ((ds ++ [c]).map d64) := by rw [kW, if_neg (by simp)]
  refine ⟨.sl 1 ((ds ++ [c]).map d64), ⟨ds ++ [c], rfl, hdd.snoc hc, by rw [eN, hi], by simp; omega⟩, ?_⟩
  rw [← e1]; exact nQ (n := 0) (.inr rfl) rfl (by decide) eZ cV
 refine Wn <| aP J <| aD <| aL ?_
 have hxl : xs.getD ds.length default < 1073741824 := bH hx om
 have hpq := mul30 hxl hn
 obtain ⟨p, hp⟩ : ∃ p, p = xs.getD ds.length default * n0 := ⟨_, rfl⟩
 refine Rg 3 J <| aA (bS J J J J J om J) J <| aA (dB J J J) J <| Ua J J <| Wn <| Rg 6 J <| Um J J <| Um J J <| Um J J <| aA (cI ((p : Int)) (eS J J (by rw [← Int.natCast_mul]; omega)) (by rw [hp]; simp)) J <| aA (cI (((c + p : Nat) : Int)) (aR J J om) om) J <| Ua J J <| Nk [1,5,6,9,10,11] J <| Rg 6 J <| Um J J <| Um J J <| aA (gM (a := c + p) (b := 1073741824) J J (by decide)) J <| aA (cS (cs := [_]) (rows := [[_]]) J J (by decide) J J J) J <| cY (te := ti3) (f := d64) (q := q) (us := ds) J J J J J (fun _ => rfl) (by decide) (by show (2 * (ds.length + 1) + 256) * 8 ≤ _; omega) om J J J <| Ua J J <| Wn <| aH (z := 3) J <| Um J J ?_
 refine aA (fY (a := c + p) (b := 1073741824) J J (by decide) om) J <| Ua J J <| Wn <| aF <| aH (z := 2) J <| aA (cI (((ds.length + 1 : Nat) : Int)) (aR J J om) om) J <| Um J J <| Wn <| aG <| ⟨⟨(c + p) / 1073741824, _, ds ++ [(c + p) % 1073741824]⟩, ⟨rfl, rfl, rfl, rfl, rfl, congrArg some (by simp), trivial⟩, cN, ⟨by simp; omega, hdd.snoc (Nat.mod_lt _ (by decide)), om, by rw [hp]; exact pH hi J⟩, by simp; omega⟩
theorem nscaled_own (k0 : Nat) (xs : List Nat) (n0 : Nat) (hx : Dg 1073741824 xs) (hn : n0 < 1073741824) (lx : xs.length < 1099511627776) : ∃ sz len ob, Run Tryz.prog T E0 (.callO 155 [.sl k0 (xs.map d64), .v (.int .i64 (n0 : Int))] (.ref 0 sz 0 len) ob) ∧ ∃ ds, sz = 1 ∧ len = ds.length ∧ ob = { cells := (ds.map d64).flatten, sz := 1, elem := 3, st := 0 } ∧ Dg 1073741824 ds ∧ val 1073741824 ds = val 1073741824 xs * n0 ∧ ds.length = xs.length + 1 := by
 refine mkcallO Tryz.func155 J J (cX J) <| Rg 1 J <| Ua J J <| Wn <| Rg 1 J <| Ua J J <| Wn <| Rg 1 J <| Ua J J <| Wn <| aB <| Rg 3 J <| Um J J <| aA (aX J J) J <| Um J J <| Wn <| aL <| bA (α := Nat × Nat × (List Nat)) (fun ⟨c, q, ds⟩ => [(1, .v (.int .i64 (n0 : Int))), (5, outV q 1 (ds.map d64)), (6, .v (.int .i64 (c : Int))), (9, .sl k0 (xs.map d64)), (10, .v (.int .i64 (xs.length : Int))), (11, .v (.int .i64 (ds.length : Int)))]) (fun ⟨c, q, ds⟩ => outH q 1 3 (ds.map d64) []) (fun ⟨c, q, ds⟩ n => ds.length ≤ xs.length ∧ Dg 1073741824 ds ∧ c < 1073741824 ∧ val 1073741824 ds + 1073741824 ^ ds.length * c = val 1073741824 (xs.take ds.length) * n0) (fun ⟨c, q, ds⟩ => xs.length - ds.length) (0, 0, []) ⟨J, J, J, J, J, J, trivial⟩ trivial ⟨Nat.zero_le _, by intro d hd; simp at hd, om, by simp [val]⟩ ?_
 rintro ⟨c, q, ds⟩ n hF
 change WC _ _ _ _ _ (_ :: _) (outH _ _ _ _ _) n _
 obtain ⟨hl1, hdd, hc, hi⟩ := hF
 refine Rg 1 J <| aA (bP J J) J <| aW (fun h12 => ?_) (fun h12 => ?_)
 rotate_left
 ·refine Wn <| aT J <| aZ <| aQ <| aS J ?_
  have hl : ds.length = xs.length := by omega
  rw [List.take_of_length_le om] at hi
  refine Rg 5 J <| Um J J <| Um J J <| aA (cS (cs := [_]) (rows := [[_]]) J J (by decide) J J J) J <| cY (te := ti3) (f := d64) (q := q) (us := ds) J J J J J (fun _ => rfl) (by decide) (by show (2 * (ds.length + 1) + 256) * 8 ≤ _; omega) om J J J <| Ua J J <| Wn <| aM <| ⟨1, (ds ++ [c]).length, _, ⟨ds ++ [c], rfl, rfl, rfl, hdd.snoc hc, by rw [eN, hi], by simp; omega⟩, .inr J, _, congrArg (fun z => some [z]) ((lO (by simp)).trans (by rw [List.length_map]; rfl)), by rw [bX (by simp)]; exact g0, rfl, rfl, ?_⟩
  intro c hc; obtain ⟨row, hr, hc⟩ := List.mem_flatten.1 hc; exact cV row hr c hc
 refine Wn <| aP J <| aD <| aL ?_
 have hxl : xs.getD ds.length default < 1073741824 := bH hx om
 have hpq := mul30 hxl hn
 obtain ⟨p, hp⟩ : ∃ p, p = xs.getD ds.length default * n0 := ⟨_, rfl⟩
 refine Rg 3 J <| aA (bS J J J J J om J) J <| aA (dB J J J) J <| Ua J J <| Wn <| Rg 6 J <| Um J J <| Um J J <| Um J J <| aA (cI ((p : Int)) (eS J J (by rw [← Int.natCast_mul]; omega)) (by rw [hp]; simp)) J <| aA (cI (((c + p : Nat) : Int)) (aR J J om) om) J <| Ua J J <| Nk [1,5,6,9,10,11] J <| Rg 6 J <| Um J J <| Um J J <| aA (gM (a := c + p) (b := 1073741824) J J (by decide)) J <| aA (cS (cs := [_]) (rows := [[_]]) J J (by decide) J J J) J <| cY (te := ti3) (f := d64) (q := q) (us := ds) J J J J J (fun _ => rfl) (by decide) (by show (2 * (ds.length + 1) + 256) * 8 ≤ _; omega) om J J J <| Ua J J <| Wn <| aH (z := 3) J <| Um J J ?_
 refine aA (fY (a := c + p) (b := 1073741824) J J (by decide) om) J <| Ua J J <| Wn <| aF <| aH (z := 2) J <| aA (cI (((ds.length + 1 : Nat) : Int)) (aR J J om) om) J <| Um J J <| Wn <| aG <| ⟨⟨(c + p) / 1073741824, _, ds ++ [(c + p) % 1073741824]⟩, ⟨rfl, rfl, rfl, rfl, rfl, congrArg some (by simp), trivial⟩, cN, ⟨by simp; omega, hdd.snoc (Nat.mod_lt _ (by decide)), om, by rw [hp]; exact pH hi J⟩, by simp; omega⟩
theorem ndiff_share (q0 off len q2 n0 : Nat) (o2 : Ob) (us : List Nat) (k2 : Nat) (xs ys : List Nat) (hqq : q0 ≠ q2) (hq0 : q0 < n0) (hq2 : q2 < n0) (hu : Dg 1073741824 us) (hlen : off + len ≤ us.length) (hxs : xs = (us.drop off).take len) (hy : Dg 1073741824 ys) (hle : ys.length ≤ len) (hv : val 1073741824 ys ≤ val 1073741824 xs) (hl0 : 0 < len) (lx : us.length < 1099511627776) : WC Tryz.prog T E0 Tryz.f118.ntmps (codeOf Tryz.f118) (argsEnv 0 [.ref q0 1 off len, .sl k2 (ys.map d64)]) [(q0, { cells := (us.map d64).flatten, sz := 1, elem := 3, st := 0 }), (q2, o2)] n0 (fun x e' h' n' => (x = .normal ∨ x = .ret) ∧ ∃ ls', resE e' T h' Tryz.f118.results.toList = some ls' ∧ ∃ r0 ds, resultLV ls' = .ref r0 1 0 ds.length ∧ h' = (r0, { cells := (ds.map d64).flatten, sz := 1, elem := 3, st := 0 }) :: [(q0, { cells := (us.map d64).flatten, sz := 1, elem := 3, st := 0 }), (q2, o2)] ∧ n0 ≤ r0 ∧ Dg 1073741824 ds ∧ val 1073741824 ds = val 1073741824 xs - val 1073741824 ys ∧ ds.length = len ∧ n0 ≤ n') := by
 have hxl0 : xs.length = len := by rw [hxs]; simp; omega
 have hx : Dg 1073741824 xs := by rw [hxs]; exact (hu.drop off).take len
 change WC _ _ _ _ _ [(0, .ref q0 1 off len), (1, .sl k2 (ys.map d64))] _ _ _
 refine Rg 1 J <| Ua J J <| Wn <| Rg 1 J <| Ua J J <| Wn <| Rg 1 J <| Ua J J <| Wn <| aB <| Rg 3 J <| Um J J <| aA (rE J J) J <| Um J J <| Wn <| aL <| bA (α := Nat × Nat × (List Nat)) (fun ⟨c, q, ds⟩ => [(0, .ref q0 1 off len), (1, .sl k2 (ys.map d64)), (5, outV q 1 (ds.map d64)), (6, .v (.int .i64 (-(c : Int)))), (9, .v (.int .i64 (len : Int))), (10, .v (.int .i64 (ds.length : Int)))]) (fun ⟨c, q, ds⟩ => outH q 1 3 (ds.map d64) [(q0, { cells := (us.map d64).flatten, sz := 1, elem := 3, st := 0 }), (q2, o2)]) (fun ⟨c, q, ds⟩ n => ds.length ≤ xs.length ∧ Dg 1073741824 ds ∧ c ≤ 1 ∧ val 1073741824 (xs.take ds.length) + 1073741824 ^ ds.length * c = val 1073741824 ds + val 1073741824 (ys.take ds.length) ∧ n0 ≤ q ∧ n0 ≤ n) (fun ⟨c, q, ds⟩ => xs.length - ds.length) (0, n0, []) ⟨J, J, J, J, J, J, trivial⟩ ⟨g0, g1 hqq g0, trivial⟩ ⟨Nat.zero_le _, by intro d hd; simp at hd, om, by simp [val], om, om⟩ ?_
 rintro ⟨c, q, ds⟩ n hF
 change WC _ _ _ _ _ (_ :: _) (outH _ _ _ _ _) n _
 obtain ⟨hdl, hdd, hc, hi, hq, hn⟩ := hF
 refine Rg 1 J <| aA (bP J J) J <| aW (fun h11 => ?_) (fun h11 => ?_)
 rotate_left
 ·refine Wn <| aT J <| aZ <| aQ <| aS J <| Rg 2 J <| Um J J <| Ua J J <| Wn <| aM ?_
  have hl : ds.length = xs.length := by omega
  have hne : ds.map d64 ≠ [] := by intro h; rw [List.map_eq_nil_iff] at h; rw [h] at hl; simp at hl; omega
  refine ⟨.inr J, _, rfl, q, ds, (lO hne).trans (by rw [List.length_map]), bX hne, hq, hdd, ?_, om, om⟩
  rw [List.take_of_length_le om, List.take_of_length_le om] at hi
  have hlt := dL (B := 1073741824) (by decide) hdd
  rcases (show c = 0 ∨ c = 1 by omega) with rfl | rfl
  ·omega
  ·omega
 refine Wn <| aP J <| aD <| aL <| Rg 2 J <| Um J J <| Ua J J <| cR ?_
 have hxl : xs.getD ds.length default < 1073741824 := bH hx om
 refine Rg 7 J <| Um J J <| Um J J <| Um J J <| aA (dF (j := ds.length) J J J J om om J) J <| aA (cI (((xs.getD ds.length default : Nat) : Int)) (oLdA (f := d64) (us := us) (a := off + ds.length) J J (aI om g0) (fun _ => rfl) J (by decide) om J) (by rw [hxs]; exact congrArg Int.ofNat (seg_getD om hlen))) J <| aA (cI (((xs.getD ds.length default : Nat) : Int) - c) (aR J J om) om) J <| Ua J J <| Nk [0,1,5,6,7,9,10] J <| aB <| Rg 4 J <| Um J J <| Um J J <| aA (aX J J) J <| aA (bP J J) J <| aW (fun h22 => ?_) (fun h22 => ?_)
 rotate_left
 ·refine Wn <| aT J <| aD <| Rg 2 J <| Um J J <| aA (bP J J) J <| aW (fun h30 => ?_) (fun h30 => ?_)
  rotate_left
  ·refine Wn <| bZ J <| Rg 5 J <| Um J J <| aA (cI (((xs.getD ds.length default - 0 - c : Nat) : Int)) (dU J) om) J <| aA (cS (cs := [_]) (rows := [[_]]) J J (by decide) J J J) J <| cY (te := ti3) (f := d64) (q := q) (us := ds) J J J J J (fun _ => rfl) (by decide) (by show (2 * (ds.length + 1) + 256) * 8 ≤ _; omega) om (gN om (gN om J)) (gN om (gN om J)) J <| Ua J J <| Nk [0,1,5,9,10] J <| aH (z := 1) J <| Ua J J <| Wn <| aF <| aH (z := 2) J <| aA (cI (((ds.length + 1 : Nat) : Int)) (aR J J om) om) J <| Um J J <| Wn <| aG <| ⟨⟨0, _, ds ++ [(xs.getD ds.length default - 0 - c)]⟩, ⟨rfl, rfl, rfl, rfl, rfl, congrArg some (by simp), trivial⟩, kB om om hqq, ⟨by simp; omega, hdd.snoc om, om, iS hi J (dE om).symm om om, om, om⟩, by simp; omega⟩
  refine Wn <| bU J <| Rg 6 J <| Um J J <| Um J J <| aA (cI (((xs.getD ds.length default + 1073741824 - 0 - c : Nat) : Int)) (aR J J om) om) J <| aA (cS (cs := [_]) (rows := [[_]]) J J (by decide) J J J) J <| cY (te := ti3) (f := d64) (q := q) (us := ds) J J J J J (fun _ => rfl) (by decide) (by show (2 * (ds.length + 1) + 256) * 8 ≤ _; omega) om (gN om (gN om J)) (gN om (gN om J)) J <| Ua J J <| Nk [0,1,5,9,10] J <| aH (z := 1) J <| Ua J J <| Wn <| aF <| aH (z := 2) J <| aA (cI (((ds.length + 1 : Nat) : Int)) (aR J J om) om) J <| Um J J <| Wn <| aG <| ⟨⟨1, _, ds ++ [(xs.getD ds.length default + 1073741824 - 0 - c)]⟩, ⟨rfl, rfl, rfl, rfl, rfl, congrArg some (by simp), trivial⟩, kB om om hqq, ⟨by simp; omega, hdd.snoc om, om, iT hi J (dE om).symm om om, om, om⟩, by simp; omega⟩
 refine Wn <| aP J ?_
 have hyl : ys.getD ds.length default < 1073741824 := bH hy om
 refine Rg 7 J <| Um J J <| Um J J <| Um J J <| aA (bS J J J J J om J) J <| aA (dB J J J) J <| aA (cI (((xs.getD ds.length default : Nat) : Int) - c - ((ys.getD ds.length default : Nat) : Int)) (bV J J om) om) J <| Ua J J <| Nk [0,1,5,6,9,10] J <| Rg 2 J <| Um J J <| aA (bP J J) J <| aW (fun h30 => ?_) (fun h30 => ?_)
 rotate_left
 ·refine Wn <| bZ J <| Rg 5 J <| Um J J <| aA (cI (((xs.getD ds.length default - ys.getD ds.length default - c : Nat) : Int)) (dU J) om) J <| aA (cS (cs := [_]) (rows := [[_]]) J J (by decide) J J J) J <| cY (te := ti3) (f := d64) (q := q) (us := ds) J J J J J (fun _ => rfl) (by decide) (by show (2 * (ds.length + 1) + 256) * 8 ≤ _; omega) om (gN om (gN om J)) (gN om (gN om J)) J <| Ua J J <| Wn <| aH (z := 1) J <| Ua J J <| Wn <| aF <| aH (z := 2) J <| aA (cI (((ds.length + 1 : Nat) : Int)) (aR J J om) om) J <| Um J J <| Wn <| aG <| ⟨⟨0, _, ds ++ [(xs.getD ds.length default - ys.getD ds.length default - c)]⟩, ⟨rfl, rfl, rfl, rfl, rfl, congrArg some (by simp), trivial⟩, kB om om hqq, ⟨by simp; omega, hdd.snoc om, om, iS hi J J om om, om, om⟩, by simp; omega⟩
 refine Wn <| bU J <| Rg 6 J <| Um J J <| Um J J <| aA (cI (((xs.getD ds.length default + 1073741824 - ys.getD ds.length default - c : Nat) : Int)) (aR J J om) om) J <| aA (cS (cs := [_]) (rows := [[_]]) J J (by decide) J J J) J <| cY (te := ti3) (f := d64) (q := q) (us := ds) J J J J J (fun _ => rfl) (by decide) (by show (2 * (ds.length + 1) + 256) * 8 ≤ _; omega) om (gN om (gN om J)) (gN om (gN om J)) J <| Ua J J <| Wn <| aH (z := 1) J <| Ua J J <| Wn <| aF <| aH (z := 2) J <| aA (cI (((ds.length + 1 : Nat) : Int)) (aR J J om) om) J <| Um J J <| Wn <| aG <| ⟨⟨1, _, ds ++ [(xs.getD ds.length default + 1073741824 - ys.getD ds.length default - c)]⟩, ⟨rfl, rfl, rfl, rfl, rfl, congrArg some (by simp), trivial⟩, kB om om hqq, ⟨by simp; omega, hdd.snoc om, om, iT hi J J om om, om, om⟩, by simp; omega⟩
theorem ndivided_run (k1 k2 : Nat) (xs ys : List Nat) (hk1 : k1 = 1 ∨ k1 = 0 ∧ xs.length = 0) (hx : Dg 1073741824 xs) (hy : Dg 1073741824 ys) (tx : Trm xs) (ty : Trm ys) (hyl : 1 ≤ ys.length) (lx : xs.length < 549755813888) (ly : ys.length < 549755813888) : ∃ r, Run Tryz.prog T E0 (.call 149 [.sl k1 (xs.map d64), .sl k2 (ys.map d64)] r) ∧ ∃ k3 qs k4 rs, r = .tup [.sl k3 (qs.map d64), .sl k4 (rs.map d64)] ∧ (k3 = 1 ∨ k3 = 0 ∧ qs.length = 0) ∧ (k4 = 1 ∨ k4 = 0 ∧ rs.length = 0) ∧ Dg 1073741824 qs ∧ Dg 1073741824 rs ∧ val 1073741824 qs * val 1073741824 ys + val 1073741824 rs = val 1073741824 xs ∧ val 1073741824 rs < val 1073741824 ys ∧ qs.length ≤ xs.length + 1 ∧ rs.length ≤ xs.length + ys.length := by
 refine gX Tryz.func149 J J (cX J) <| Rg 2 J <| Ua J J <| Ua J J <| Wn <| aB <| Rg 3 J <| Um J J <| aA (aX J J) J <| aA (eR J J) J <| aW (fun h18 => ?_) (fun h18 => ?_)
 ·refine Wn <| aP J <| aB ?_
  have hy1 : ys.length = 1 := by omega
  have hyv : val 1073741824 ys = ys.getD 0 default := by
   obtain ⟨y, rfl⟩ := List.length_eq_one_iff.1 hy1
   simp [val]
  have hyb : ys.getD 0 default < 1073741824 := bH hy om
  have hy0 : 0 < ys.getD 0 default := by
   obtain ⟨y, rfl⟩ := List.length_eq_one_iff.1 hy1
   have := ty y (by simp)
   simp; omega
  obtain ⟨r, hr, ds, rest, rfl, hdd, hrest, hval, hlen⟩ := nL k1 xs (ys.getD 0 default) hx hy0 hyb om
  refine Rg 10 J <| Um J J <| Um J J <| aA (bS (j := 0) J J J J om om J) J <| aA (dB J J J) J <| aA (aN J (hr) (by simp)) J <| Um J J <| aA (dN J J) J <| aA (dN J J) J <| Ua J J <| Ua J J <| Nk [6,7] J <| aB <| Rg 5 J <| Um J J <| Um J J <| aA (cS (cs := [_]) (rows := [[_]]) J J (by decide) J J J) J <| Ua J J <| Ua J J <| Wn <| aU <| ⟨.tup [.sl 1 (ds.map d64), .sl 1 ([rest].map d64)], ⟨1, ds, 1, [rest], rfl, .inl J, .inl J, hdd, by intro d hd; simp at hd; omega, by rw [hyv]; simpa [val] using hval, by rw [hyv]; simpa [val] using hrest, om, by simp; omega⟩, ?_⟩
  exact postA (n := 0) [] (.inr J) J (.data (by simp) (.cons (fun m _ => (Weak.two _).snap (by simp [d64])) .nil)) (by intro p hp; simp at hp)
 refine Wn <| aT J <| aD <| aB <| Rg 4 J <| Um J J <| Um J J <| aA (aN J (jU k1 k2 xs ys hx hy tx ty om om) (by simp)) J <| aA (bP J J) J <| aW (fun h33 => ?_) (fun h33 => ?_)
 ·refine Wn <| aP J <| aB <| Rg 3 J <| Um J J <| Ua J J <| Ua J J <| Wn <| aU <| ⟨.tup [.sl 0 ([].map d64), .sl k1 (xs.map d64)], ⟨0, [], k1, xs, rfl, .inr ⟨rfl, rfl⟩, hk1, by intro d hd; simp at hd, hx, by simp [val], ?_, by simp, om⟩, post (n := 0) (.inr J) J J (by simp)⟩
  have := Int.sign_neg_iff.1 h33; omega
 refine Wn <| aT J <| aD ?_
 have hge : val 1073741824 ys ≤ val 1073741824 xs := by
  rcases Nat.lt_or_ge (val 1073741824 xs) (val 1073741824 ys) with h | h
  ·exact absurd (Int.sign_neg_iff.2 (show (val 1073741824 xs : Int) - val 1073741824 ys < 0 by omega)) h33
  ·exact h
 have hll : ys.length ≤ xs.length := by
  rcases Nat.lt_or_ge xs.length ys.length with h | h
  ·have := dM (by decide) hx ty h; omega
  ·exact h
 have hy2 : 2 ≤ ys.length := by omega
 obtain ⟨f, hf⟩ : ∃ f, f = 1073741824 / (ys.getD (ys.length - 1) default + 1) := ⟨_, rfl⟩
 obtain ⟨hf1, hf2, hnv, hyp⟩ := norm30 hy ty hy2 hf
 have hyt : ys.getD (ys.length - 1) default < 1073741824 := bH hy om
 refine Rg 9 J <| Um J J <| Um J J <| aA (aX J J) J <| aA (bV J J om) J <| aA (bS (j := ys.length - 1) J J J J om om J) J <| aA (dB J J J) J <| aA (cI (((ys.getD (ys.length - 1) default + 1 : Nat) : Int)) (aR J J om) om) J <| aA (cI ((f : Int)) (fY (a := 1073741824) (b := ys.getD (ys.length - 1) default + 1) J J om (by decide)) (by rw [hf])) J <| Ua J J <| Nk [0,1,8] J ?_
 obtain ⟨_, _, _, hr1, us0, rfl, rfl, rfl, hud0, huv0, hul0⟩ := nscaled_own k1 xs f hx hf2 om
 obtain ⟨r2, hr2, zs, rfl, hzd, hzv, hzl⟩ := pF k2 ys f hy hf2 om
 obtain ⟨vs, hvs⟩ : ∃ vs, vs = zs.take ys.length := ⟨_, rfl⟩
 have hvd : Dg 1073741824 vs := by rw [hvs]; exact hzd.take _
 have hvl : vs.length = ys.length := by rw [hvs, List.length_take]; omega
 have hvv : val 1073741824 vs = val 1073741824 ys * f := by rw [hvs, (mR (by decide) om (by rw [hzv]; exact hnv)).1, hzv]
 have hvp : 1073741824 ^ (vs.length - 1) ≤ val 1073741824 vs := by
  rw [hvv, hvl]; have := Nat.mul_le_mul hyp hf1; omega
 have hv1 := top_pos (by decide) hvd om hvp
 have hV0 : 0 < val 1073741824 vs := Nat.lt_of_lt_of_le (Nat.pow_pos (by decide)) hvp
 have hv1b : vs.getD (vs.length - 1) default < 1073741824 := bH hvd om
 refine bQ (z := 11) J kR <| Dm J J <| Dm J J <| WD.S (oCallO J hr1 (by simp)) J <| Dm J J <| Dm J J <| aJ (aN J (hr2) (by simp)) J <| Dm J J <| aJ (aX J J) J <| aJ (bL (b := .sl 1 (vs.map d64)) (oSlH (j := ys.length) J J J eZ J om (by simp; omega)) (by rw [hvs, List.map_take]; rfl)) J <| aJ (kU J) J <| aJ (kU J) J <| bK (aV kR) J <| Rg 3 J <| Um J J <| aA (aX J J) J <| Ua J J <| Nk [8,9,10,11] J <| Rg 6 J <| Um J J <| aA (rE J J) J <| Um J J <| aA (bV J J om) J ?_
 refine bD (oMk (a := xs.length + 1 - ys.length) (b := xs.length + 1 - ys.length) J J J J om om (by decide) om (by show 8 * (xs.length + 1 - ys.length) ≤ _; omega) om) J <| Ua J J <| Wn <| aB <| Rg 6 J <| Um J J <| aA (rE J J) J <| Um J J <| aA (bV J J om) J <| aA (bV J J om) J <| Ua J J <| Nk [4,8,9,10,11,12] J <| aL <| bA (α := Nat × (List Nat) × (List Nat)) (fun ⟨k, us, qs⟩ => [(4, .ref (0 + 2 + 3 + 4 + 9 + 11 + 3 + 4) 1 0 qs.length), (8, .v (.int .i64 (f : Int))), (9, .ref (0 + 2 + 3 + 4 + 9 + 2) 1 0 us.length), (10, .sl 1 (vs.map d64)), (11, .v (.int .i64 (vs.length : Int))), (12, .v (.int .i64 ((k : Int) - 1)))]) (fun ⟨k, us, qs⟩ => [((0 + 2 + 3 + 4 + 9 + 2), { cells := (us.map d64).flatten, sz := 1, elem := 3, st := 0 }), ((0 + 2 + 3 + 4 + 9 + 11 + 3 + 4), { cells := (qs.map d64).flatten, sz := 1, elem := 3, st := 0 })]) (fun ⟨k, us, qs⟩ n => k + vs.length ≤ us.length ∧ us.length = xs.length + 1 ∧ qs.length = xs.length + 1 - ys.length ∧ Dg 1073741824 us ∧ Dg 1073741824 qs ∧ val 1073741824 us0 = val 1073741824 (qs.drop k) * val 1073741824 vs * 1073741824 ^ k + val 1073741824 us ∧ val 1073741824 (us.drop k) < val 1073741824 vs ∧ 36 ≤ n) (fun ⟨k, us, qs⟩ => k) (xs.length + 1 - ys.length, us0, List.replicate (xs.length + 1 - ys.length) 0) ⟨congrArg some (by rw [List.length_replicate]; rfl), rfl, rfl, rfl, rfl, congrArg (fun z => some (LV.v (.int .i64 z))) om, trivial⟩ ⟨rfl, g0.trans (by rw [List.map_replicate]; rfl), trivial⟩ ⟨om, hul0, by simp, hud0, by intro d hd; simp at hd; rw [hd.2]; decide, by rw [List.drop_eq_nil_of_le (by simp)]; simp [val], by rw [hvv]; exact div_init (n := xs.length) (m := ys.length) huv0 (dL (by decide) hx) om om om hf1 hyp, om⟩ ?_
 rintro ⟨k, us, qs⟩ n hF
 change WC _ _ _ _ _ (_ :: _) (_ :: _) n _
 obtain ⟨hk, hul, hql0, hud, hqd, hU, hlt, hn30⟩ := hF
 refine aB <| Rg 2 J <| Um J J <| aA (fJ J J) J <| aW (fun h65 => ?_) (fun h65 => ?_)
 rotate_left
 ·refine Wn <| aT J <| aZ <| aQ <| aS J ?_
  have hk0 : k = 0 := by omega
  subst hk0
  rw [List.drop_zero, Nat.pow_zero, Nat.mul_one] at hU
  rw [List.drop_zero] at hlt
  obtain ⟨hts, _⟩ := mR (n := vs.length) (by decide) om (Nat.lt_trans hlt (dL (by decide) hvd))
  obtain ⟨r, hr, rs, rest, rfl, hrd, hrest, hrv, hrl⟩ := nL 1 (us.take vs.length) f (hud.take _) hf1 hf2 (by simp; omega)
  have hr' : (us.take vs.length) = ((us.drop 0).take vs.length) := by simp
  rw [hr'] at hr
  refine Rg 9 J <| Um J J <| Um J J <| aA (oSlRh (j := vs.length) J J J J J J om) J <| Um J J <| bD (rD [.sl 1 (((us.drop 0).take vs.length).map d64), .v (.int .i64 (f : Int))] [((0 + 2 + 3 + 4 + 9 + 2), { cells := (us.map d64).flatten, sz := 1, elem := 3, st := 1 })] J hr (.part g0 (by show (0 : Nat) ≠ 2; decide) J (by decide) (by simp [keys]) J (fun _ => rfl) om cV (.data (by simp) .nil)) (by intro p hp; simp at hp; subst hp; exact ⟨_, g0, by show (0 : Nat) ≠ 2; decide, rfl⟩)) J <| Um J J <| aA (dN J J) J <| aA (dN J J) J <| Ua J J <| Nk [4,5] J ?_
  obtain ⟨hx1, hx2⟩ := unshift (X := val 1073741824 xs) (Y := val 1073741824 ys) (Q := val 1073741824 qs) (U := val 1073741824 us) hf1 (by rw [← hvv, ← huv0, hU]) (by rw [← hvv]; exact hlt)
  have hre := rest_div hrv hrest
  rw [hts] at hre
  rw [← hre] at hx1 hx2
  refine Rg 4 J <| Um J J <| Um J J <| Ua J J <| Ua J J <| Wn <| aM <| ⟨.tup [.sl 1 (qs.map d64), .sl 1 (rs.map d64)], ⟨1, qs, 1, rs, rfl, .inl J, .inl J, hqd, hrd, hx1, hx2, om, by rw [hrl]; simp; omega⟩, ?_⟩
  exact postA (n := 0) [((0 + 2 + 3 + 4 + 9 + 11 + 3 + 4), { cells := (qs.map d64).flatten, sz := 1, elem := 3, st := 1 })] (.inr J) J (.own _ (by simp) (g1 (by decide) (g1 (by decide) g0)) (by show (0 : Nat) ≠ 2; decide) J (by decide) (by simp [keys]) J eZ cV (.data (by simp) .nil)) (by intro p hp; rw [List.mem_singleton] at hp; subst hp; exact ⟨_, rfl, by show (0 : Nat) ≠ 2; decide, rfl⟩)
 refine Wn <| aP J <| aD <| aL ?_
 have hu0 : us.getD (k - 1 + vs.length) default < 1073741824 := bH hud om
 have hu1 : us.getD (k - 1 + vs.length - 1) default < 1073741824 := bH hud om
 obtain ⟨hst, hRB⟩ := div_start (B := 1073741824) (by decide) (j := k - 1) hud hvd om om hv1 (by rw [show k - 1 + 1 = k by omega]; exact hlt)
 obtain ⟨hsg, hsg0⟩ := seg_val (by decide) om hRB
 obtain ⟨x0, hx0⟩ : ∃ x0, x0 = (us.getD (k - 1 + vs.length) default * 1073741824 + us.getD (k - 1 + vs.length - 1) default) / vs.getD (vs.length - 1) default := ⟨_, rfl⟩
 rw [← hx0] at hst
 replace hst := min_if hst
 obtain ⟨e0, he0⟩ : ∃ e0, e0 = if 1073741823 < x0 then 1073741823 else x0 := ⟨_, rfl⟩
 replace hst : val 1073741824 (us.drop (k - 1)) / val 1073741824 vs ≤ e0 := by rw [he0]; exact hst
 have he1 : e0 < 1073741824 := by rw [he0]; exact if_lt (by decide)
 have hsl : ((us.drop (k - 1)).take (vs.length + 1)).length = vs.length + 1 := take_len om
 have hsd : Dg 1073741824 ((us.drop (k - 1)).take (vs.length + 1)) := (hud.drop _).take _
 refine bQ (z := 23) J kR <| Dm J J <| Dm J J <| Dm J J <| aJ (cI (((k - 1 + vs.length : Nat) : Int)) (aR J J om) om) J <| aJ (dF (j := k - 1 + vs.length) J J J J om om J) J <| aJ (gL (f := d64) (us := us) (j := k - 1 + vs.length) J J g0 (fun _ => rfl) J (by decide) om J) J <| aJ (cI (((us.getD (k - 1 + vs.length) default * 1073741824 : Nat) : Int)) (eS J J om) om) J <| Dm J J <| Dm J J <| Dm J J <| aJ (cI (((k - 1 + vs.length : Nat) : Int)) (aR J J om) om) J <| aJ (bV J J om) J <| aJ (dF (j := k - 1 + vs.length - 1) J J J J om om J) J <| aJ (gL (f := d64) (us := us) (j := k - 1 + vs.length - 1) J J g0 (fun _ => rfl) J (by decide) om J) J <| aJ (cI ((((us.getD (k - 1 + vs.length) default * 1073741824 + us.getD (k - 1 + vs.length - 1) default) : Nat) : Int)) (aR J J om) om) J <| Dm J J <| Dm J J <| aJ (bV J J om) J <| aJ (bS (j := vs.length - 1) J J J J om om J) J <| aJ (dB J J J) J <| aJ (cI ((x0 : Int)) (fY (a := (us.getD (k - 1 + vs.length) default * 1073741824 + us.getD (k - 1 + vs.length - 1) default)) (b := vs.getD (vs.length - 1) default) J J hv1 om) (by rw [hx0])) J <| aJ (cI ((e0 : Int)) (oMin J J) (by rw [he0]; exact if_cast (b := 1073741823))) J <| aJ (kU J) J ?_
 refine bK (aV kR) J <| Ck [4,8,9,10,11,12,13] J <| aL <| bA (α := Nat) (fun e => [(4, .ref (0 + 2 + 3 + 4 + 9 + 11 + 3 + 4) 1 0 qs.length), (8, .v (.int .i64 (f : Int))), (9, .ref (0 + 2 + 3 + 4 + 9 + 2) 1 0 us.length), (10, .sl 1 (vs.map d64)), (11, .v (.int .i64 (vs.length : Int))), (12, .v (.int .i64 ((k : Int) - 1))), (13, .v (.int .i64 (e : Int)))]) (fun e => [((0 + 2 + 3 + 4 + 9 + 2), { cells := (us.map d64).flatten, sz := 1, elem := 3, st := 0 }), ((0 + 2 + 3 + 4 + 9 + 11 + 3 + 4), { cells := (qs.map d64).flatten, sz := 1, elem := 3, st := 0 })]) (fun e n => val 1073741824 (us.drop (k - 1)) / val 1073741824 vs ≤ e ∧ e < 1073741824 ∧ 36 ≤ n) (fun e => e) (e0) ⟨J, J, J, J, J, J, J, trivial⟩ ⟨g0, g1 (by decide) g0, trivial⟩ ⟨hst, he1, om⟩ ?_
 rintro e n hG
 change WC _ _ _ _ _ (_ :: _) (_ :: _) n _
 obtain ⟨hG1, hG2, hn31⟩ := hG
 refine cO ?_
 obtain ⟨r, hr, ps, rfl, hpd, hpv, hpl⟩ := pF 1 vs e hvd hG2 om
 refine Rg 4 J <| Um J J <| Um J J <| aA (aN J (hr) (by simp)) J <| Ua J J <| Wn <| aB <| bQ (z := 14) J kR <| Dm J J <| aJ (aN J (ntrim_run 1 ps om om) (by simp)) J <| aJ (cS (cs := []) (rows := []) J J (by decide) J J J) J <| Dm J J <| Dm J J <| Dm J J <| Dm J J <| aJ (cI (((k - 1 + vs.length : Nat) : Int)) (aR J J om) om) J <| aJ (cI (((k - 1 + vs.length + 1 : Nat) : Int)) (aR J J om) om) J <| aJ (bL (b := .ref (0 + 2 + 3 + 4 + 9 + 2) 1 (k - 1) (vs.length + 1)) (oSlR (i := k - 1) (j := k - 1 + vs.length + 1) J J J J J J om J om om) (by congr 1 <;> omega)) J <| WD.S (oAp2 (f := d64) (us := us) J J J J J (by decide) J (fun _ => rfl) g0 om om (by show (2 * (vs.length + 1) + 256) * 8 ≤ _; omega) om) J <| WD.S (rD [.sl 1 (((us.drop (k - 1)).take (vs.length + 1)).map d64)] [(n + 4 + 10, { cells := (((us.drop (k - 1)).take (vs.length + 1)).map d64).flatten, sz := 1, elem := 3, st := 1 })] J (ntrim_run 1 ((us.drop (k - 1)).take (vs.length + 1)) om om) (.own _ (by rw [List.length_map, hsl]) g0 (by show (0 : Nat) ≠ 2; decide) J (by decide) (by simp [keys]) J eZ cV .nil) (by intro p hp; rw [List.mem_singleton] at hp; subst hp; exact ⟨_, g0, by show (0 : Nat) ≠ 2; decide, rfl⟩)) J <| aJ (aN J (jU _ _ (trim ps) (trim ((us.drop (k - 1)).take (vs.length + 1))) (lV hpd) (lV hsd) (lW _) (lW _) (trim_lt om) (trim_lt om)) (by simp)) J <| aJ (mO J J) J <| lZ (fun h106 => ?_) (fun h106 => ?_)
 rotate_left
 ·refine bK (aV kR) J <| Ck [4,8,9,10,11,12,13,14,106] J <| aT J <| aD ?_
  have hdc := div_dec (R := val 1073741824 (us.drop (k - 1))) (V := val 1073741824 vs) (e := e) (by
   intro h
   rw [fZ, fZ, hpv, hsg] at h106
   rw [Nat.mul_comm] at h
   have h9 : ((val 1073741824 vs * e : Nat) : Int) - (val 1073741824 (us.drop (k - 1)) : Int) ≤ 0 := by omega
   rcases Int.lt_or_eq_of_le h9 with h10 | h10
   ·have := Int.sign_eq_neg_one_of_neg h10; omega
   ·rw [h10] at h106; exact h106 (by decide)) hG1
  refine aH (z := 3) J <| Um J J <| aA (cI (((e - 1 : Nat) : Int)) (bV J J om) om) J <| Ua J J <| Wn <| cD <| aG <| ⟨e - 1, ⟨J, J, J, J, J, J, J, trivial⟩, ⟨g1 om (g1 om g0), g1 om (g1 om (g1 (by decide) g0)), trivial⟩, ⟨hdc.2, om, om⟩, by show e - 1 < e; omega⟩
 refine bK (aV kR) J <| Ck [4,8,9,10,11,12,13,14,106] J <| aP J <| aB ?_
 have hle : e * val 1073741824 vs ≤ val 1073741824 (us.drop (k - 1)) := by
  rw [fZ, fZ, hpv, hsg] at h106
  rcases Nat.lt_or_ge (val 1073741824 (us.drop (k - 1))) (e * val 1073741824 vs) with h | h
  ·rw [Nat.mul_comm] at h
   have := Int.sign_eq_one_of_pos (a := ((val 1073741824 vs * e : Nat) : Int) - (val 1073741824 (us.drop (k - 1)) : Int)) om
   omega
  ·exact h
 refine WC.regn (z := 10) J <| qH (dU J) J <| qH (dU J) J <| qH (dU J) J <| qH (dU J) J <| qH (cI (((k - 1 + vs.length : Nat) : Int)) (aR J J om) om) J <| qH (cI (((k - 1 + vs.length + 1 : Nat) : Int)) (aR J J om) om) J <| qH (bL (b := .ref (0 + 2 + 3 + 4 + 9 + 2) 1 (k - 1) (vs.length + 1)) (oSlR (i := k - 1) (j := k - 1 + vs.length + 1) J J J J J J om J om om) (by congr 1 <;> omega)) J <| qH (dU J) J <| WN.G (ls := [.ref (0 + 2 + 3 + 4 + 9 + 2) 1 (k - 1) (vs.length + 1), .sl 1 (ps.map d64)]) (Φ := fun r h' n' => ∃ r0 ds, r = .ref r0 1 0 ds.length ∧ h' = (r0, { cells := (ds.map d64).flatten, sz := 1, elem := 3, st := 0 }) :: [((0 + 2 + 3 + 4 + 9 + 2), { cells := (us.map d64).flatten, sz := 1, elem := 3, st := 0 }), ((0 + 2 + 3 + 4 + 9 + 11 + 3 + 4), { cells := (qs.map d64).flatten, sz := 1, elem := 3, st := 0 })] ∧ n + 4 + 14 + 10 ≤ r0 ∧ Dg 1073741824 ds ∧ val 1073741824 ds = val 1073741824 ((us.drop (k - 1)).take (vs.length + 1)) - val 1073741824 ps ∧ ds.length = vs.length + 1 ∧ n + 4 + 14 + 10 ≤ n') J Tryz.func118 J J (cX J) J (by refine eL _ ?_ (ndiff_share (0 + 2 + 3 + 4 + 9 + 2) (k - 1) (vs.length + 1) (0 + 2 + 3 + 4 + 9 + 11 + 3 + 4) (n + 4 + 14 + 10) _ us 1 ((us.drop (k - 1)).take (vs.length + 1)) ps (by decide) om om hud om J hpd om (by rw [hpv, hsg, Nat.mul_comm]; exact hle) om om); exact ⟨g1 om (g1 om g0), g1 om (g1 om (g1 (by decide) g0)), trivial⟩) ?_
 rintro r' h' n' ⟨r0, ds, rfl, rfl, hr0, hdd, hdv, hdl, hn'⟩
 refine qH (kU J) J <| WN.nil <| Ck [4,8,9,10,11,12,13,15] J <| aB <| Rg 5 J <| Um J J <| Um J J <| aA (bL (b := .ref (0 + 2 + 3 + 4 + 9 + 2) 1 (k - 1) (us.length - (k - 1))) (oSlRl (i := k - 1) J J J J J om om) (by congr 1; omega)) J <| Um J J <| bD (oCopyR (f := d64) (us := us) (ds := ds) J J J J (by decide) J (fun _ => rfl) (g1 om g0) g0 om om) J <| Wn <| aZ <| gV J <| aQ <| aS J ?_
 obtain ⟨hs4, hltF⟩ := div_done (V := val 1073741824 vs) (e := e) (ds := ds) (m := vs.length) (by decide) hV0 om hRB (by rw [hdv, hsg, hpv, Nat.mul_comm]) hdl hle hG1
 have hUF := gB (qs := qs) (j := k - 1) om (by rw [show k - 1 + 1 = k by omega]; exact hU) hs4
 have hlF : (us.take (k - 1) ++ (ds ++ us.drop (k - 1 + ds.length))).length = us.length := by simp; omega
 have hdF : Dg 1073741824 (us.take (k - 1) ++ (ds ++ us.drop (k - 1 + ds.length))) := by
  intro d hd; rcases List.mem_append.1 hd with h | h
  ·exact hud.take _ d h
  ·rcases List.mem_append.1 h with h | h
   ·exact hdd d h
   ·exact hud.drop _ d h
 rw [← hdl] at hs4 hltF hUF
 refine aH (z := 5) J <| Um J J <| Um J J <| Um J J <| aA (dF (j := k - 1) J J J J om om J) J <| aY (fT (f := d64) (us := qs) e J J J (g1 (by decide) (g1 om (g1 (by decide) g0))) (fun _ => rfl) J J om J) <| Wn <| aF <| Ck [4,8,9,10,11,12] J <| aH (z := 3) J <| Um J J <| aA (cI (((k - 1 : Nat) : Int) - 1) (bV J J om) om) J <| Ua J J <| Wn <| aG <| ⟨⟨k - 1, (us.take (k - 1) ++ (ds ++ us.drop (k - 1 + ds.length))), qs.set (k - 1) e⟩, ⟨congrArg some (by rw [List.length_set]), rfl, congrArg some (by rw [hlF]), rfl, rfl, rfl, trivial⟩, ⟨g1 (by decide) g0, g0, trivial⟩, ⟨by rw [hlF]; omega, by rw [hlF]; exact hul, by rw [List.length_set]; exact hql0, hdF, hqd.set _ om, hUF, hltF, om⟩, by show k - 1 < k; omega⟩
end Go.Proofs.YtcblgjaomljikaaGreat
