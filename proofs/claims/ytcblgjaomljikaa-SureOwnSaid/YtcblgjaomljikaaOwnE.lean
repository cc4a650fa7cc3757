/- Part E of the proof of sureOwn_holds: what it rests on. No condition. -/
import Derived.Test.YtcblgjaomljikaaOwnD
set_option linter.unusedVariables false
set_option linter.unusedSimpArgs false
set_option maxRecDepth 100000
set_option maxHeartbeats 16000000
namespace Go.Proofs.Ytcblgjaomljikaa
open Go.Ab Go.RowKit
theorem oI (n1 n0 : Nat) (g : FuncId) (first cap : List LV) (f : Nat → Bool) (hn0 : n0 ≤ 40) (hf : ∀ c, c ∈ first → Go.Ab.Data c) (hcap : ∀ c, c ∈ cap → Go.Ab.Data c) (hp : ∀ s : Nat, s < n0 → Run Try.prog T E0 (.call g (first ++ [.v (.int .i64 (s : Int))] ++ cap) (.v (.bool (f s))))) : WC Try.prog T E0 Try.f155.ntmps (codeOf Try.f155) (argsEnv 0 [.v (.int .i64 (n0 : Int)), .fn (.func g) first cap]) [] n1 (fun x e' h' n' => (x = .normal ∨ x = .ret) ∧ n1 ≤ n' ∧ ∃ q, resE e' T h' Try.f155.results.toList = some [outV q 1 ((fl n0 f).map ic)] ∧ n1 ≤ q ∧ q < n' ∧ ((fl n0 f) ≠ [] → getH h' q = some (obI 3 (fl n0 f)))) := by
 change WC _ _ _ _ _ [(0, .v (.int .i64 (n0 : Int))), (1, .fn (.func g) first cap)] _ _ _
 refine Rg 1 J <| Ua J J <| Wn <| Rg 1 J <| Ua J J <| Wn <| aC <| Rg 2 J <| Um J J <| Um J J <| Wn <| aJ <| aY (α := Nat × Nat) (fun ⟨i, q⟩ => [(1, .fn (.func g) first cap), (5, outV q 1 ((fl i f).map ic)), (7, .v (.int .i64 (n0 : Int))), (8, .v (.int .i64 (i : Int)))]) (fun ⟨i, q⟩ => outH q 1 (3) ((fl i f).map ic) []) (fun ⟨i, q⟩ n => i ≤ n0 ∧ n1 ≤ q ∧ q < n) (fun ⟨i, q⟩ => n0 - i) (0, n1) ⟨J, J, J, J, trivial⟩ trivial ⟨Nat.zero_le _, om, om⟩ ?_
 rintro ⟨i, q⟩ n hF
 change WC _ _ _ _ _ (_ :: _) (outH _ _ _ _ _) n _
 obtain ⟨hi, hq0, hq⟩ := hF
 have hfl := iJ i f
 refine Rg 1 J <| aA (cC J J) J <| bF (fun h9 => ?_) (fun h9 => ?_)
 rotate_left
 ·refine Wn <| aU J <| bA <| aP <| aQ J <| Rg 2 J <| Um J J <| Ua J J <| Wn <| aK ?_
  have hil : i = n0 := by omega
  subst hil
  refine ⟨.inr J, om, q, rfl, hq0, om, fun hne => ?_⟩
  rw [bI (fun h => hne (List.map_eq_nil_iff.1 h))]
  exact g0
 refine Wn <| aS J <| aG <| aJ <| Rg 2 J <| Um J J <| Ua J J <| Wn <| Rg 3 J <| Um J J <| Um J J <| aA (eP J J (hp i om) (iS hf (dII _) hcap)) J <| dH (fun h13 => ?_) (fun h13 => ?_)
 rotate_left
 ·refine Wn <| bT J <| bR <| aF <| aI (z := 2) J <| aA (cI (((i + 1 : Nat) : Int)) (aR J J om) om) J <| Um J J <| Wn <| aE ?_
  have e : fl (i + 1) f = fl i f := by rw [iK, if_neg (by rw [h13]; decide)]
  refine ⟨⟨i + 1, q⟩, ⟨rfl, congrArg some (by rw [e]), rfl, rfl, trivial⟩, by dsimp only; rw [e]; exact jR, ⟨om, om, om⟩, by show n0 - (i + 1) < n0 - i; omega⟩
 refine Wn <| cA J <| aI (z := 5) J <| Um J J <| Um J J <| aA (dK (cs := [_]) (rows := [[_]]) J J (by decide) J J J) J <| qQ (te := ti3) (f := ic) (q := q) (us := fl i f) (u := (i : Int)) J J J J J (fun _ => rfl) (by decide) (by show (2 * ((fl i f).length + 1) + 256) * 8 ≤ _; omega) om J J J <| Ua J J <| Wn <| aF <| aI (z := 2) J <| aA (cI (((i + 1 : Nat) : Int)) (aR J J om) om) J <| Um J J <| Wn <| aE ?_
 have e : fl (i + 1) f = fl i f ++ [(i : Int)] := by rw [iK, if_pos h13]
 refine ⟨⟨i + 1, _⟩, ⟨rfl, congrArg some (by rw [e]; rfl), rfl, rfl, trivial⟩, by dsimp only; rw [e]; exact jR, ⟨om, om, om⟩, by show n0 - (i + 1) < n0 - i; omega⟩
theorem list_own (n1 n0 : Nat) (f : Nat → Bool) (hn0 : n0 ≤ 40) : WC Try.prog T E0 Try.f150.ntmps (codeOf Try.f150) (argsEnv 0 [.ro (sb f), .v (.int .i64 (n0 : Int))]) [] n1 (fun x e' h' n' => (x = .normal ∨ x = .ret) ∧ n1 ≤ n' ∧ ∃ q, resE e' T h' Try.f150.results.toList = some [outV q 1 ((fl n0 f).map ic)] ∧ n1 ≤ q ∧ q < n' ∧ ((fl n0 f) ≠ [] → getH h' q = some (obI 3 (fl n0 f)))) := by
 change WC _ _ _ _ _ [(0, .ro (sb f)), (1, .v (.int .i64 (n0 : Int)))] _ _ _
 refine Rg 1 J <| Ua J J <| Wn <| eI (z := 5) J <| bN (dF J) J <| bN (dF J) J <| bN (oMf1 J J) J <| nQ (cal := .func 155) (first := []) (cap := []) (ls := [.v (.int .i64 (n0 : Int)), .fn (.func 83) [.ro (sb f)] []]) (as_ := [.v (.int .i64 (n0 : Int)), .fn (.func 83) [.ro (sb f)] []]) (Φ := (fun r h' m' => ∃ q, r = outV q 1 ((fl n0 f).map ic) ∧ (n1 + 1 + 5) ≤ q ∧ q < m' ∧ (n1 + 1 + 5) ≤ m' ∧ ((fl n0 f) ≠ [] → getH h' q = some (obI 3 (fl n0 f))))) [] J J (dP (ls := [.v (.int .i64 (n0 : Int)), .fn (.func 83) [.ro (sb f)] []]) (bG (by intro c hc; simp only [List.mem_cons, List.not_mem_nil, or_false] at hc; rcases hc with rfl | rfl; exact .v _; exact nY (dro f) d0))) (by intro p hp; cases hp) Try.func155 J J (cW J) J ((oI (n1 + 1 + 5) n0 83 [.ro (sb f)] [] f hn0 (dro f) d0 (fun s hs => kS f (s : Int) om om)).mono (by rintro x e h m' ⟨hx, h1, q, hr, h2, h3, h4⟩; exact ⟨hx, _, hr, q, rfl, h2, h3, h1, h4⟩)) ?_
 rintro r h' n2 ⟨q, rfl, hq0, hq1, hn2, hg⟩
 refine ⟨outH q 1 (3) ((fl n0 f).map ic) [], ?_, ?_⟩
 ·cases hfl : fl n0 f with
  | nil => exact .nil
  | cons u us => exact .cons (.inr ⟨hq0, by rw [hfl] at hg; exact hg (by simp)⟩) .nil
 refine bN (fZ J) J <| fD <| aK <| ⟨.inr J, om, q, rfl, om, om, fun hne => ?_⟩
 rw [bI (fun h => hne (List.map_eq_nil_iff.1 h))]
 exact g0
theorem grown_ownc (k : Nat) (ss : List Go.Ab.ST) (goal : Nat → Bool) (pl : Int) (g : FuncId) (ins : Nat → Bool) (hwt : WT ss) (hl : ∀ x, x ∈ ss → x.2.2.length < 1000000 ∧ ∀ c, c ∈ x.2.2 → c.2.2.length < 1000000) (hrun : ∀ z : Int, 0 ≤ z → z < 40 → Run Try.prog T E0 (.call g [.v (.int .i64 z)] (.v (.bool (ins z.toNat))))) :
  Run Try.prog T E0 (.callO 148 [lvMo k ss, lvS goal, .v (.int .i64 pl), .fn (.func g) [] []] (.tup [lvS (gX ss pl ins goal), .ref 0 1 0 ss.length]) (obI 3 (tab ss.length (gC ss pl ins goal)))) := by
 refine mkcallOu Try.func148 J J (cW J) dW J J (by intro c hc; obtain ⟨row, hr, hc⟩ := List.mem_flatten.1 hc; exact cD iZ row hr c hc) <| (gK 0 [] k ss goal pl g [] [] [] ins trivial (by intro q o hq; simp [getH] at hq) (by intro q hq; simp at hq) (fun H' S' _ _ => ⟨.nil, fL⟩) hwt hl (fun z h0 h1 => hrun z h0 h1)).mono ?_
 rintro x e h n ⟨hx, q0, hr, hq, _, _, _⟩
 exact ⟨hx, q0, hr, hq⟩
theorem oO {us : List Int} {q n : Nat} (h : us.length = n) (hp : 1 ≤ n) : outV q 1 (us.map ic) = .ref q 1 0 n := by
 rw [rM (fun h2 => by have := congrArg List.length h2; rw [List.length_map, List.length_nil] at this; omega), List.length_map, h]
theorem can_own (n0 k kl : Nat) (ss : List Go.Ab.ST) (l : List Int) (pl : Int) (hV : VM1 ss) (hS : VSet ss.length l = true) (ll : l.length < 1099511627776) : WC Try.prog T E0 Try.f73.ntmps (codeOf Try.f73) (argsEnv 0 [lvMo k ss, lvL kl l, .v (.int .i64 pl)]) [] n0 (Post2 T 3 n0 Try.f73.results.toList (fl ss.length (gX ss pl (fun _ => true) (inL l))) (tab ss.length (gC ss pl (fun _ => true) (inL l))) []) := by
 have hn40 := hV.wt.len
 have hgl : ∀ s, inL l s = true → s < ss.length := fun s hs => lP hS hs
 have hl : ∀ x, x ∈ ss → x.2.2.length < 1000000 ∧ ∀ c, c ∈ x.2.2 → c.2.2.length < 1000000 := fun x hx => ⟨by have := hV.cs x hx; omega, fun c hc => by have := hV.bs x hx c hc; omega⟩
 have hpos := hV.pos
 change WC _ _ _ _ _ [(0, lvMo k ss), (1, lvL kl l), (2, .v (.int .i64 pl))] _ _ _
 refine Rg 3 J <| bB (dY J J) J <| Ua J J <| Ua J J <| Wn <| cH (z := 11) J kR <| aO (aL (l := lvMo k ss) J J gG J J) J ?_
 refine Dm J J <| aO (aN J (gQ kl ss.length l hn40 hS ll) dD) J <| Dm J J <| WD.S (oCallOu J (grown_ownc k ss (inL l) (pl) 149 (fun _ => true) hV.wt hl (fun z _ _ => kG z)) dW (bG (by intro c hc; simp only [List.mem_cons, List.not_mem_nil, or_false] at hc; rcases hc with rfl | rfl | rfl | rfl; exact dW; exact dW; exact .v _; exact nY d0 d0))) J <| Dm J J <| aO (cS J J) J <| aO (cS J J) J <| WD.S (jB J J J) J <| dQ (jS J J J g0 (cO _) J) <| aO (fZ J) J <| bY (gA (rn n0) (by simp only [List.reverse_cons, List.reverse_nil, List.nil_append, List.cons_append, List.map_cons, List.map_nil, ren, keys, Nat.add_assoc, oS, rn_self]; kernel_rfl)) J <| Ck [3,8,9] J <| eI (z := 7) J <| bN (bD J J J J J) J <| bN (aL J J gG J J) J ?_
 refine bN (bC J J) J <| nQ (cal := .func 150) (first := []) (cap := []) (ls := [.ptr (n0 + 3 + 8) 0, .v (.int .i64 (ss.length : Int))]) (as_ := [.ro (sb ((gX ss pl (fun _ => true) (inL l)))), .v (.int .i64 (ss.length : Int))]) (Φ := (fun r h' m' => ∃ q, r = outV q 1 ((fl ss.length ((gX ss pl (fun _ => true) (inL l)))).map ic) ∧ n0 + 3 + 11 + 7 ≤ q ∧ q < m' ∧ n0 + 3 + 11 + 7 ≤ m' ∧ ((fl ss.length ((gX ss pl (fun _ => true) (inL l)))) ≠ [] → getH h' q = some (obI 3 (fl ss.length ((gX ss pl (fun _ => true) (inL l)))))))) [((n0 + 3 + 8), { cells := sb ((gX ss pl (fun _ => true) (inL l))), sz := 40, elem := (130), st := 1 })] J J (SnapB.toA (.box (ob := { cells := sb ((gX ss pl (fun _ => true) (inL l))), sz := 40, elem := (130), st := 0 }) gG (by simp [keys]) (by show (0 : Nat) ≠ 2; decide) (dG _) (.data (.v _) .nil))) (by intro p hp; rw [List.mem_singleton] at hp; subst hp; exact ⟨_, gG, by show (0 : Nat) ≠ 2; decide, rfl⟩) Try.func150 J J (cW J) J ((list_own (n0 + 3 + 11 + 7) ss.length ((gX ss pl (fun _ => true) (inL l))) hn40).mono (by rintro x e h m' ⟨hx, h1, q, hr, h2, h3, h4⟩; exact ⟨hx, _, hr, q, rfl, h2, h3, h1, h4⟩)) ?_
 rintro r h' n2 ⟨q1, rfl, hq0, hq1, hn2, hg⟩
 refine ⟨outH q1 1 (3) ((fl ss.length ((gX ss pl (fun _ => true) (inL l)))).map ic) ([((n0 + 3 + 4), { cells := ((tab ss.length ((gC ss pl (fun _ => true) (inL l)))).map ic).flatten, sz := 1, elem := (3), st := 0 })]), ?_, ?_⟩
 ·cases hfl : (fl ss.length ((gX ss pl (fun _ => true) (inL l)))) with
  | nil => exact .cons (.inl ⟨om, by repeat (first | exact g0 | refine g1 om ?_)⟩) .nil
  | cons u us => exact .cons (.inr ⟨hq0, by rw [hfl] at hg; exact hg (by simp)⟩) (.cons (.inl ⟨om, by repeat (first | exact g0 | refine g1 om ?_)⟩) .nil)
 refine bN (dF J) J <| bN (fZ J) J <| bN (fZ J) J <| fD <| aK <| ⟨.inr J, om, q1, (n0 + 3 + 4), ?_, ⟨om, om⟩, ⟨om, om⟩, om, fun hne => ?_, fun hne => ?_⟩
 ·exact congrArg (fun z => some [_, z]) (oO (by rw [bX]) hpos).symm
 ·rw [bI (fun h => hne (List.map_eq_nil_iff.1 h))]
  exact g0
 ·exact aD om g0
theorem must_lt3 {n a b c : Nat} {o1 o2 o3 : Ob} (hn : a < n ∧ b < n ∧ c < n) : ∀ q o, getH [(a, o1), (b, o2), (c, o3)] q = some o → q < n + 11 := by
 intro q o hq
 by_cases h1 : a = q
 ·omega
 ·rw [g1 h1 rfl] at hq
  by_cases h2 : b = q
  ·omega
  ·rw [g1 h2 rfl] at hq
   by_cases h3 : c = q
   ·omega
   ·rw [g1 h3 rfl] at hq; simp [getH] at hq
theorem must_own (n0 k kl : Nat) (ss : List Go.Ab.ST) (l : List Int) (pl : Int) (hV : VM1 ss) (hS : VSet ss.length l = true) (ll : l.length < 1099511627776) : WC Try.prog T E0 Try.f74.ntmps (codeOf Try.f74) (argsEnv 0 [lvMo k ss, lvL kl l, .v (.int .i64 pl)]) [] n0 (Post2 T 3 n0 Try.f74.results.toList (fl ss.length (mX ss pl (inL l))) (tab ss.length (mC ss pl (inL l))) []) := by
 have hn40 := hV.wt.len
 have hgl : ∀ s, inL l s = true → s < ss.length := fun s hs => lP hS hs
 have hl : ∀ x, x ∈ ss → x.2.2.length < 1000000 ∧ ∀ c, c ∈ x.2.2 → c.2.2.length < 1000000 := fun x hx => ⟨by have := hV.cs x hx; omega, fun c hc => by have := hV.bs x hx c hc; omega⟩
 have hpos := hV.pos
 change WC _ _ _ _ _ [(0, lvMo k ss), (1, lvL kl l), (2, .v (.int .i64 pl))] _ _ _
 refine Rg 3 J <| bB (dY J J) J <| Ua J J <| Ua J J <| Wn <| Rg 1 J <| bB (jB J J J) J <| Wn <| aC <| Rg 4 J <| aA (bD J J J J J) J <| aA (aL J J gG J J) J ?_
 refine aA (bC J J) J <| Um J J <| Wn <| aJ <| aY (α := Nat) (fun i => [(1, lvL kl l), (2, .v (.int .i64 pl)), (3, .ptr n0 0), (8, .ptr (n0 + 3) 0), (15, .v (.int .i64 (ss.length : Int))), (16, .v (.int .i64 (i : Int)))]) (fun i => [((n0 + 3), { cells := sb (fun s => decide (s < i)), sz := 40, elem := (130), st := 0 }), (n0, { cells := [.sl k (ss.map stc)], sz := 1, elem := (26), st := 0 })]) (fun i n => i ≤ ss.length ∧ n0 + 4 ≤ n) (fun i => ss.length - i) (0) ⟨J, J, J, J, J, J, trivial⟩ ⟨g0.trans (by exact sb_F fun i => decide_eq_false om), gG, trivial⟩ ⟨Nat.zero_le _, om⟩ ?_
 rintro i n hF
 change WC _ _ _ _ _ (_ :: _) (_ :: _) n _
 obtain ⟨hi, hn⟩ := hF
 obtain ⟨nK, hnK⟩ : ∃ z, z = n := ⟨n, rfl⟩
 subst hnK
 refine Rg 1 J <| aA (cC J J) J <| bF (fun h17 => ?_) (fun h17 => ?_)
 ·refine Wn <| aS J <| aG <| aJ <| Rg 2 J <| Um J J <| Ua J J <| Wn <| aI (z := 3) J <| Um J J <| aA (oIxA (j := i) J J J J om om) J <| aW (oStB om J J J gG J) ?_
  refine Wn <| aF <| aI (z := 2) J <| aA (cI (((i + 1 : Nat) : Int)) (aR J J om) om) J <| Um J J <| Wn <| aE <| ⟨i + 1, ⟨J, J, J, J, J, J, trivial⟩, ⟨fE g0 (congrArg (fun z => Ob.mk (sb z) 40 130 0) (nV i)), gG, trivial⟩, ⟨om, om⟩, by show ss.length - (i + 1) < ss.length - i; omega⟩
 refine Wn <| aU J <| bA <| aP <| aQ J ?_
 have hin : i = ss.length := by omega
 subst hin
 refine Rg 4 J <| Um J J <| aA (aN J (gQ kl ss.length l hn40 hS ll) dD) J <| bB (jB J J J) J <| aW (jS J J J g0 (cO _) J) <| Wn <| cM <| aY (α := Nat) (fun kk => [(2, .v (.int .i64 pl)), (3, .ptr n0 0), (8, .ptr (n0 + 3) 0), (10, .ptr (nK + 1 + 2) 0)]) (fun kk => [((n0 + 3), { cells := sb ((mi ss pl (inL l) kk)), sz := 40, elem := (130), st := 0 }), ((nK + 1 + 2), { cells := sb (inL l), sz := 40, elem := (130), st := 0 }), (n0, { cells := [.sl k (ss.map stc)], sz := 1, elem := (26), st := 0 })]) (fun kk n => kk + (fl ss.length (mi ss pl (inL l) kk)).length ≤ ss.length ∧ nK + 4 ≤ n) (fun kk => (fl ss.length (mi ss pl (inL l) kk)).length) (0) ⟨J, J, J, J, trivial⟩ ⟨gG, gG, gG, trivial⟩ ⟨by show 0 + (fl ss.length fun s => decide (s < ss.length)).length ≤ _; rw [fl_all]; omega, om⟩ ?_
 rintro kk n hF
 change WC _ _ _ _ _ (_ :: _) (_ :: _) n _
 obtain ⟨hk, hn2⟩ := hF
 have hn : n0 + 3 < n ∧ nK + 1 + 2 < n ∧ n0 < n := by omega
 refine cM <| eI (z := 11) J <| bN (aL (l := lvMo k ss) J J gG J J) J ?_
 refine bN (kV J J gG J J J) J ?_
 refine bN (dF J) J <| bN (oMf J) J <| WN.G (ls := [lvMo k ss, lvS (inL l), .v (.int .i64 pl), .fn (.func 151) [] [.ptr (n0 + 3) 0, .ptr (nK + 1 + 2) 0]]) (Φ := fun r h' n' => ∃ q0, r = .tup [lvS (gX ss pl (fun s => mi ss pl (inL l) kk s || inL l s) (inL l)), .ref q0 1 0 ss.length] ∧ getH h' q0 = some { cells := ((tab ss.length (gC ss pl (fun s => mi ss pl (inL l) kk s || inL l s) (inL l))).map ic).flatten, sz := 1, elem := (3), st := 0 } ∧ n + 11 ≤ q0 ∧ q0 < n' ∧ n + 11 ≤ n' ∧ ∀ q o, getH [((n0 + 3), { cells := sb ((mi ss pl (inL l) kk)), sz := 40, elem := (130), st := 0 }), ((nK + 1 + 2), { cells := sb (inL l), sz := 40, elem := (130), st := 0 }), (n0, { cells := [.sl k (ss.map stc)], sz := 1, elem := (26), st := 0 })] q = some o → getH h' q = some o) J Try.func148 J J (cW J) J ((gK (n + 11) [((n0 + 3), { cells := sb ((mi ss pl (inL l) kk)), sz := 40, elem := (130), st := 0 }), ((nK + 1 + 2), { cells := sb (inL l), sz := 40, elem := (130), st := 0 }), (n0, { cells := [.sl k (ss.map stc)], sz := 1, elem := (26), st := 0 })] k ss (inL l) pl 151 [.ptr (n0 + 3) 0, .ptr (nK + 1 + 2) 0] [.ro (sb (mi ss pl (inL l) kk)), .ro (sb (inL l))] [(n0 + 3), (nK + 1 + 2)] (fun s => mi ss pl (inL l) kk s || inL l s) ⟨gG, gG, gG, trivial⟩ (must_lt3 hn) (by intro q hq; simp only [List.mem_cons, List.not_mem_nil, or_false] at hq; omega) (fun H' S' hH hSS => must_cap (hH _ _ gG) (hH _ _ gG) hSS) hV.wt hl (fun z h0 h1 => pX _ _ z h0 h1)).mono (by rintro x e h n' ⟨hx, q0, hr, hq, h1, h2, h3, h4⟩; exact ⟨hx, _, hr, q0, rfl, hq, h1, h2, h3, h4⟩)) ?_
 rintro r' h' n' ⟨q0, rfl, hq0, hb, hb2, hn', hH⟩
 refine WN.weakM [(q0, { cells := ((tab ss.length (gC ss pl (fun s => mi ss pl (inL l) kk s || inL l s) (inL l))).map ic).flatten, sz := 1, elem := (3), st := 0 }), ((n0 + 3), { cells := sb ((mi ss pl (inL l) kk)), sz := 40, elem := (130), st := 0 }), ((nK + 1 + 2), { cells := sb (inL l), sz := 40, elem := (130), st := 0 }), (n0, { cells := [.sl k (ss.map stc)], sz := 1, elem := (26), st := 0 })] ⟨hq0, hH _ _ gG, hH _ _ gG, hH _ _ gG, trivial⟩ ?_
 refine bN (dF J) J <| bN (cS J J) J <| bN (cS J J) J <| WN.S (jB J J J) J <| WN.S0 (jS J J J g0 (cO _) J) <| bN (fZ J) J <| fD <| aC <| Rg 3 J <| aA (kV J J gG J J J) J ?_
 refine aA (kV J J gG J J J) J ?_
 refine aA (rJ J J J J J J) J <| dH (fun h34 => ?_) (fun h34 => ?_)
 rotate_left
 ·refine Nk [2,3,8,10,11,12,34] J <| aU J <| aG <| aI (z := 2) J <| aA (kV J J gG J J J) J ?_
  refine aW (jS J J J gG (cO _) J) ?_
  refine Wn <| dE <| aE ?_
  have hd := mi_dec (p := pl) hgl hn40 h34
  refine ⟨kk + 1, ⟨J, J, J, J, trivial⟩, ⟨gG, gG, gG, trivial⟩, ⟨om, om⟩, by show (fl ss.length (mi ss pl (inL l) (kk + 1))).length < (fl ss.length (mi ss pl (inL l) kk)).length; exact hd⟩
 refine Nk [2,3,8,10,11,12,34] J <| aS J <| aC <| eI (z := 7) J <| bN (bD J J J J J) J <| bN (aL J J gG J J) J ?_
 refine bN (bC J J) J <| nQ (cal := .func 150) (first := []) (cap := []) (ls := [.ptr (n + 8) 0, .v (.int .i64 (ss.length : Int))]) (as_ := [.ro (sb (gX ss pl (fun s => mi ss pl (inL l) kk s || inL l s) (inL l))), .v (.int .i64 (ss.length : Int))]) (Φ := (fun r h' m' => ∃ q, r = outV q 1 ((fl ss.length (gX ss pl (fun s => mi ss pl (inL l) kk s || inL l s) (inL l))).map ic) ∧ n' + 3 + 7 ≤ q ∧ q < m' ∧ n' + 3 + 7 ≤ m' ∧ ((fl ss.length (gX ss pl (fun s => mi ss pl (inL l) kk s || inL l s) (inL l))) ≠ [] → getH h' q = some (obI 3 (fl ss.length (gX ss pl (fun s => mi ss pl (inL l) kk s || inL l s) (inL l))))))) [((n + 8), { cells := sb (gX ss pl (fun s => mi ss pl (inL l) kk s || inL l s) (inL l)), sz := 40, elem := (130), st := 1 })] J J (SnapB.toA (.box (ob := { cells := sb (gX ss pl (fun s => mi ss pl (inL l) kk s || inL l s) (inL l)), sz := 40, elem := (130), st := 0 }) gG (by simp [keys]) (by show (0 : Nat) ≠ 2; decide) (dG _) (.data (.v _) .nil))) (by intro p hp; rw [List.mem_singleton] at hp; subst hp; exact ⟨_, gG, by show (0 : Nat) ≠ 2; decide, rfl⟩) Try.func150 J J (cW J) J ((list_own (n' + 3 + 7) ss.length (gX ss pl (fun s => mi ss pl (inL l) kk s || inL l s) (inL l)) hn40).mono (by rintro x e h m' ⟨hx, h1, q, hr, h2, h3, h4⟩; exact ⟨hx, _, hr, q, rfl, h2, h3, h1, h4⟩)) ?_
 rintro r h' n2 ⟨q1, rfl, hq0, hq1, hn2, hg⟩
 refine ⟨outH q1 1 (3) ((fl ss.length (gX ss pl (fun s => mi ss pl (inL l) kk s || inL l s) (inL l))).map ic) ([(q0, { cells := ((tab ss.length (gC ss pl (fun s => mi ss pl (inL l) kk s || inL l s) (inL l))).map ic).flatten, sz := 1, elem := (3), st := 0 })]), ?_, ?_⟩
 ·cases hfl : (fl ss.length (gX ss pl (fun s => mi ss pl (inL l) kk s || inL l s) (inL l))) with
  | nil => exact .cons (.inl ⟨om, by repeat (first | exact g0 | refine g1 om ?_)⟩) .nil
  | cons u us => exact .cons (.inr ⟨hq0, by rw [hfl] at hg; exact hg (by simp)⟩) (.cons (.inl ⟨om, by repeat (first | exact g0 | refine g1 om ?_)⟩) .nil)
 refine bN (dF J) J <| bN (fZ J) J <| bN (fZ J) J <| fD <| bE <| dM <| bJ <| dM ?_
 obtain ⟨e1, e2⟩ := mX_of (p := pl) hgl hn40 hk h34
 rw [e1, e2]
 refine ⟨.inr J, om, q1, q0, ?_, ⟨om, om⟩, ⟨om, om⟩, om, fun hne => ?_, fun hne => ?_⟩
 ·exact congrArg (fun z => some [_, z]) (oO (by rw [bX]) hpos).symm
 ·rw [bI (fun h => hne (List.map_eq_nil_iff.1 h))]
  exact g0
 ·exact aD om g0
theorem shun_own (n0 k kl : Nat) (ss : List Go.Ab.ST) (l : List Int) (pl : Int) (hp : pl = 0 ∨ pl = 1) (hV : VM1 ss) (hS : VSet ss.length l = true) (ll : l.length < 1099511627776) : WC Try.prog T E0 Try.f75.ntmps (codeOf Try.f75) (argsEnv 0 [lvMo k ss, lvL kl l, .v (.int .i64 pl)]) [] n0 (Post2 T 3 n0 Try.f75.results.toList (fl ss.length (fun s => !sX ss pl (inL l) s)) (tab ss.length (sC ss pl (inL l))) []) := by
 have hn40 := hV.wt.len
 have hgl : ∀ s, inL l s = true → s < ss.length := fun s hs => lP hS hs
 have hl : ∀ x, x ∈ ss → x.2.2.length < 1000000 ∧ ∀ c, c ∈ x.2.2 → c.2.2.length < 1000000 := fun x hx => ⟨by have := hV.cs x hx; omega, fun c hc => by have := hV.bs x hx c hc; omega⟩
 have hpos := hV.pos
 change WC _ _ _ _ _ [(0, lvMo k ss), (1, lvL kl l), (2, .v (.int .i64 pl))] _ _ _
 refine Rg 3 J <| bB (dY J J) J <| Ua J J <| Ua J J <| Wn <| cH (z := 12) J kR <| aO (aL (l := lvMo k ss) J J gG J J) J ?_
 refine Dm J J <| aO (aN J (gQ kl ss.length l hn40 hS ll) dD) J <| Dm J J <| aO (cI ((1 - pl)) (cV J J om) J) J <| aO (aN J (lM k ss (inL l) (1 - pl) 149 (fun _ => true) hV.wt hl (fun z _ _ => kG z)) (bG (by intro c hc; simp only [List.mem_cons, List.not_mem_nil, or_false] at hc; rcases hc with rfl | rfl | rfl | rfl; exact dW; exact dW; exact .v _; exact nY d0 d0))) J <| Dm J J <| aO (cS J J) J <| aO (cS J J) J <| WD.S (jB J J J) J <| dQ (jS J J J g0 (cO _) J) <| aO (fZ J) J <| bY (gA (rn n0) (by simp only [List.reverse_cons, List.reverse_nil, List.nil_append, List.cons_append, List.map_cons, List.map_nil, ren, keys, Nat.add_assoc, oS, rn_self]; kernel_rfl)) J <| Ck [2,3,8] J <| Rg 5 J <| aA (bD J J J J J) J <| aA (aL J J gG J J) J ?_
 refine aA (bC J J) J <| bB (oMk (a := ss.length) (b := ss.length) J J J J (by simp) (by simp) (by decide) om (by show 8 * ss.length ≤ _; omega) om) J <| Ua J J <| Wn <| aC <| Rg 4 J <| aA (bD J J J J J) J <| aA (aL J J gG J J) J ?_
 refine aA (bC J J) J <| Um J J <| Wn <| aJ <| aY (α := Nat) (fun i => [(2, .v (.int .i64 pl)), (3, .ptr n0 0), (8, .ptr (n0 + 3 + 9) 0), (10, .ref (n0 + 3 + 12 + 3) 1 0 ss.length), (27, .sl k (ss.map stc)), (28, .v (.int .i64 (ss.length : Int))), (29, .v (.int .i64 (i : Int)))]) (fun i => [((n0 + 3 + 12 + 3), { cells := ((tab ss.length ((mixf (fun _ => (0 : Int)) (sC ss pl (inL l)) i))).map ic).flatten, sz := 1, elem := (3), st := 0 }), ((n0 + 3 + 9), { cells := sb ((sX ss pl (inL l))), sz := 40, elem := (130), st := 0 }), (n0, { cells := [.sl k (ss.map stc)], sz := 1, elem := (26), st := 0 })]) (fun i n => i ≤ ss.length ∧ n0 + 19 ≤ n) (fun i => ss.length - i) (0) ⟨J, J, J, J, J, J, J, trivial⟩ ⟨fE gG (by exact lZ fun i => rfl), gG, gG, trivial⟩ ⟨Nat.zero_le _, om⟩ ?_
 rintro i n hF
 change WC _ _ _ _ _ (_ :: _) (_ :: _) n _
 obtain ⟨hi, hn⟩ := hF
 refine Rg 1 J <| aA (cC J J) J <| bF (fun h30 => ?_) (fun h30 => ?_)
 rotate_left
 ·refine Wn <| aU J <| bA <| aP <| aQ J <| eI (z := 8) J <| bN (bD J J J J J) J <| bN (aL J J gG J J) J ?_
  refine bN (bC J J) J <| bN (oMf J) J <| nQ (cal := .func 155) (first := []) (cap := []) (ls := [.v (.int .i64 (ss.length : Int)), .fn (.func 156) [] [.ptr (n0 + 3 + 9) 0]]) (as_ := [.v (.int .i64 (ss.length : Int)), .fn (.func 156) [] [.ro (sb (sX ss pl (inL l)))]]) (Φ := (fun r h' m' => ∃ q, r = outV q 1 ((fl ss.length (fun s => !(sX ss pl (inL l)) s)).map ic) ∧ (n + 1 + 8) ≤ q ∧ q < m' ∧ (n + 1 + 8) ≤ m' ∧ ((fl ss.length (fun s => !(sX ss pl (inL l)) s)) ≠ [] → getH h' q = some (obI 3 (fl ss.length (fun s => !(sX ss pl (inL l)) s)))))) [((n0 + 3 + 9), { cells := sb ((sX ss pl (inL l))), sz := 40, elem := (130), st := 1 })] J J (SnapB.toA (.data (.v _) (.fn .nil (.box (ob := { cells := sb ((sX ss pl (inL l))), sz := 40, elem := (130), st := 0 }) gG (by simp [keys]) (by show (0 : Nat) ≠ 2; decide) (dG _) .nil) .nil))) (by intro p hp; rw [List.mem_singleton] at hp; subst hp; exact ⟨_, gG, by show (0 : Nat) ≠ 2; decide, rfl⟩) Try.func155 J J (cW J) J ((oI (n + 1 + 8) ss.length 156 [] [.ro (sb (sX ss pl (inL l)))] (fun s => !(sX ss pl (inL l)) s) hn40 d0 (dro _) (fun s hs => qF (sX ss pl (inL l)) (s : Int) om om)).mono (by rintro x e h m' ⟨hx, h1, q, hr, h2, h3, h4⟩; exact ⟨hx, _, hr, q, rfl, h2, h3, h1, h4⟩)) ?_
  rintro r h' n2 ⟨q1, rfl, hq0, hq1, hn2, hg⟩
  refine ⟨outH q1 1 (3) ((fl ss.length (fun s => !(sX ss pl (inL l)) s)).map ic) [((n0 + 3 + 12 + 3), { cells := ((tab ss.length ((mixf (fun _ => (0 : Int)) (sC ss pl (inL l)) i))).map ic).flatten, sz := 1, elem := (3), st := 0 })], ?_, ?_⟩
  ·cases hfl : (fl ss.length (fun s => !(sX ss pl (inL l)) s)) with
   | nil => exact .cons (.inl ⟨om, by repeat (first | exact g0 | refine g1 om ?_)⟩) .nil
   | cons u us => exact .cons (.inr ⟨hq0, by rw [hfl] at hg; exact hg (by simp)⟩) (.cons (.inl ⟨om, by repeat (first | exact g0 | refine g1 om ?_)⟩) .nil)
  refine bN (dF J) J <| bN (fZ J) J <| bN (fZ J) J <| fD <| Ck [6,7] J <| aK ?_
  have hin : i = ss.length := by omega
  have ec : tab ss.length (mixf (fun _ => (0 : Int)) (sC ss pl (inL l)) i) = tab ss.length (sC ss pl (inL l)) := by rw [hin]; exact tab_eq fun s hs => by unfold mixf; rw [if_pos hs]
  refine ⟨.inr J, om, q1, (n0 + 3 + 12 + 3), ?_, ⟨om, om⟩, ⟨om, om⟩, om, fun hne => ?_, fun hne => ?_⟩
  ·exact congrArg (fun z => some [_, z]) (oO (by rw [bX]) hpos).symm
  ·rw [bI (fun h => hne (List.map_eq_nil_iff.1 h))]
   exact g0
  ·exact aD om (fE g0 (by rw [ec]; rfl))
 refine Wn <| aS J <| aG <| aJ ?_
 have hm := bO (us := ss) (i := i) om
 refine Rg 6 J <| Um J J <| aA (cK J J J J J om J) J <| aA (dX (l := .agg (stc (ss.getD i default))) J J J) J <| bB (fN J) J <| Ua J J <| aW (dA (cs' := stc (ss.getD i default)) J J J g0 J J J J) <| Wn <| Rg 10 J <| Um J J <| aA (oIxA (j := i) J J J J om om) J <| aA (oLdB (f := (sX ss pl (inL l))) om J J J gG J (fun _ _ => rfl)) J ?_
 refine dH (fun h36 => ?_) (fun h36 => ?_)
 ·refine aA (dV J) J <| Um J J <| K1 J J <| K1 J J <| K1 J J <| K1 J J <| aA (bZ J J) J <| Nk [2,3,8,10,11,12,27,28,29,39,40,41,42,43] J <| bT J <| bR <| aF <| aI (z := 2) J <| aA (cI (((i + 1 : Nat) : Int)) (aR J J om) om) J <| Um J J <| Wn <| aE ?_
  have ec : (mixf (fun _ => (0 : Int)) (sC ss pl (inL l)) i) = (mixf (fun _ => (0 : Int)) (sC ss pl (inL l)) (i + 1)) := (dJ (f := fun _ => (0 : Int)) (f' := (sC ss pl (inL l))) (show (sC ss pl (inL l)) i = 0 from if_neg (fun h => by rw [h36] at h; cases h.1))).symm
  refine ⟨i + 1, ⟨J, J, J, J, J, J, J, trivial⟩, ⟨fE gG (congrArg (fun z => Ob.mk ((tab ss.length z).map ic).flatten 1 3 0) ec), gG, gG, trivial⟩, ⟨om, om⟩, by show ss.length - (i + 1) < ss.length - i; omega⟩
 refine aA (dV J) J <| Um J J <| aH J (bD J J J J J) J <| aH J (aL J J gG J J) J ?_
 refine aH J (dF J) J <| aH J (fF J J) J <| bF (fun h42 => ?_) (fun h42 => ?_)
 rotate_left
 ·refine aA (bS J J) J <| Nk [2,3,8,10,11,12,27,28,29,39,40,41,42,43] J <| bT J <| bR <| aF <| aI (z := 2) J <| aA (cI (((i + 1 : Nat) : Int)) (aR J J om) om) J <| Um J J <| Wn <| aE ?_
  have ec : (mixf (fun _ => (0 : Int)) (sC ss pl (inL l)) i) = (mixf (fun _ => (0 : Int)) (sC ss pl (inL l)) (i + 1)) := (dJ (f := fun _ => (0 : Int)) (f' := (sC ss pl (inL l))) (show (sC ss pl (inL l)) i = 0 from if_neg (fun h => absurd h.2 om))).symm
  refine ⟨i + 1, ⟨J, J, J, J, J, J, J, trivial⟩, ⟨fE gG (congrArg (fun z => Ob.mk ((tab ss.length z).map ic).flatten 1 3 0) ec), gG, gG, trivial⟩, ⟨om, om⟩, by show ss.length - (i + 1) < ss.length - i; omega⟩
 refine aA (bS J J) J <| Nk [2,3,8,10,11,12,27,28,29,39,40,41,42,43] J <| cA J <| aI (z := 8) J <| Um J J <| Um J J <| aA (bD J J J J J) J <| aA (aL J J gG J J) J ?_
 refine aA (oMf J) J <| aA (eR [(n0 + 3 + 9)] [.sl (ss.getD i default).2.1 ((ss.getD i default).2.2.map chc), .fn (.func 153) [] [.ro (sb (sX ss pl (inL l)))]] J (kT (ss.getD i default).2.1 (ss.getD i default).2.2 153 [.ro (sb (sX ss pl (inL l)))] (fun c => !me c (sX ss pl (inL l))) (dro _) (by have := (hl _ hm).1; omega) (fun c hc => qE c (sX ss pl (inL l)) (fun b hb => to40 hV.wt hm hc hb) (by have := (hl _ hm).2 c hc; omega))) (.data (.sl _ _ fun row hr => dchc row hr) (.fn .nil (.box (ob := { cells := sb ((sX ss pl (inL l))), sz := 40, elem := (130), st := 0 }) gG (by simp) (by show (0 : Nat) ≠ 2; decide) (dG _) .nil) .nil)) (.cons gG (by show (0 : Nat) ≠ 2; decide) fL)) J ?_
 refine aA (cZ (j := i) J J J J om om J) J <| aW (oStTi J J J gG om J) ?_
 refine Wn <| aF <| Ck [2,3,8,10,27,28,29,39,40,41,42] J <| aI (z := 2) J <| aA (cI (((i + 1 : Nat) : Int)) (aR J J om) om) J <| Um J J <| Wn <| aE ?_
 have ec : (fset (mixf (fun _ => (0 : Int)) (sC ss pl (inL l)) i) i (fidx (fun c => !me c (sX ss pl (inL l))) (ss.getD i default).2.2)) = (mixf (fun _ => (0 : Int)) (sC ss pl (inL l)) (i + 1)) := by rw [gV, show (sC ss pl (inL l)) i = fidx (fun c => !me c (sX ss pl (inL l))) (ss.getD i default).2.2 from if_pos ⟨h36, om⟩]
 refine ⟨i + 1, ⟨J, J, J, J, J, J, J, trivial⟩, ⟨fE gG (congrArg (fun z => Ob.mk ((tab ss.length z).map ic).flatten 1 3 0) ec), gG, gG, trivial⟩, ⟨om, om⟩, by show ss.length - (i + 1) < ss.length - i; omega⟩
theorem oX (n0 k kl : Nat) (ss : List Go.Ab.ST) (l : List Int) (pl : Int) (f : FuncId) (fn : Func) (c : Code) (L1 L2 : List Int) (hI : ∀ s, s ∈ ss → IS s) (ll : l.length < 1099511627776) (hf : Try.prog.funcs[f]? = some fn) (hb : fn.body = some c) (hnm : (fn.name == "runtime.NumGoroutine") = false) (hnt : 3 ≤ fn.ntmps) (hby : (eA ss l pl) = 0 → ∀ m, WC Try.prog T E0 fn.ntmps c (argsEnv 0 [lvMo k ss, lvL kl l, .v (.int .i64 pl)]) [] m (Post2 T 3 m fn.results.toList L1 L2 [])) : WC Try.prog T E0 Try.f72.ntmps (codeOf Try.f72) (argsEnv 0 [lvMo k ss, lvL kl l, .v (.int .i64 pl), .fn (.func f) [] []]) [] n0 (Post2 T 3 n0 Try.f72.results.toList (if (eA ss l pl) = 0 then L1 else []) (if (eA ss l pl) = 0 then L2 else []) [.v (.int .i64 (eA ss l pl))]) := by
 change WC _ _ _ _ _ [(0, lvMo k ss), (1, lvL kl l), (2, .v (.int .i64 pl)), (3, .fn (.func f) [] [])] _ _ _
 refine Rg 4 J <| bB (dY J J) J <| Ua J J <| Ua J J <| Ua J J <| Wn <| aC <| Rg 5 J <| aA (aL (l := lvMo k ss) J J gG J J) J ?_
 refine Um J J <| Um J J <| aA (aN J (pL k kl ss l pl hI ll) dD) J <| Ua J J <| Wn <| aC <| Rg 2 J <| Um J J <| aA (iO J J) J <| bF (fun h19 => ?_) (fun h19 => ?_)
 ·refine Nk [1,2,3,4,11,19] J <| aS J <| aC <| Rg 4 J <| Um J J <| Ua J J <| Ua J J <| Ua J J <| Wn <| bE ?_
  rw [if_neg (show ¬ (eA ss l pl) = 0 by omega), if_neg (show ¬ (eA ss l pl) = 0 by omega)]
  exact ⟨.inr J, om, n0, n0 + 1, rfl, ⟨om, om⟩, ⟨om, om⟩, om, fun h => absurd J h, fun h => absurd J h⟩
 refine Nk [1,2,3,4,11,19] J <| aU J <| aG <| eI (z := 10) J <| bN (dF J) J <| bN (aL (l := lvMo k ss) J J gG J J) J ?_
 refine bN (dF J) J <| bN (dF J) J <| nQ (cal := .tmp 22) (first := []) (cap := []) (ls := [lvMo k ss, lvL kl l, .v (.int .i64 pl)]) (as_ := [lvMo k ss, lvL kl l, .v (.int .i64 pl)]) (Φ := (fun r h' m' => ∃ q1 q2, r = .tup ([outV q1 1 (L1.map ic), outV q2 1 (L2.map ic)] ++ []) ∧ (n0 + 4 + 5 + 2 + 10) ≤ m' ∧ OwnII h' 3 (n0 + 4 + 5 + 2 + 10) m' q1 q2 L1 L2)) [] J J (dP (ls := [lvMo k ss, lvL kl l, .v (.int .i64 pl)]) (bG (by intro c hc; simp only [List.mem_cons, List.not_mem_nil, or_false] at hc; rcases hc with rfl | rfl | rfl; exact dW; exact dW; exact .v _))) (by intro p hp; cases hp) hf hb hnm (by show 3 ≤ _; exact hnt) J ((hby om (n0 + 4 + 5 + 2 + 10)).mono (by rintro x e h m' ⟨hx, h1, q1, q2, hr, h2⟩; exact ⟨hx, _, hr, q1, q2, rfl, h1, h2⟩)) ?_
 rintro r h' n2 ⟨q1, q2, rfl, hn2, hO⟩
 have hb1 := hO.b1
 have hb2 := hO.b2
 have hne := hO.ne
 refine ⟨outH q1 1 (3) (L1.map ic) (outH q2 1 (3) (L2.map ic) []), nW hO om .nil, ?_⟩
 refine bN (dF J) J <| bN (cS J J) J <| bN (cS J J) J <| bN (fZ J) J <| bN (fZ J) J <| fD <| Ck [12,13] J <| Rg 5 J <| Um J J <| Um J J <| Ua J J <| Ua J J <| Ua J J <| Wn <| aK ?_
 have he0 : (eA ss l pl) = 0 := by omega
 rw [if_pos he0, if_pos he0, he0]
 exact ⟨.inr J, om, q1, q2, rfl, jM ⟨om, om⟩ ⟨om, om⟩ om⟩
theorem pI (n0 k kl : Nat) (ss : List Go.Ab.ST) (l : List Int) (pl : Int) (hI : ∀ s, s ∈ ss → IS s) (ll : l.length < 1099511627776) : WC Try.prog T E0 Try.f17.ntmps (codeOf Try.f17) (argsEnv 0 [lvMo k ss, lvL kl l, .v (.int .i64 pl)]) [] n0 (Post2 T 3 n0 Try.f17.results.toList (if (eA ss l pl) = 0 then (fl ss.length (gX ss pl (fun _ => true) (inL l))) else []) (if (eA ss l pl) = 0 then (tab ss.length (gC ss pl (fun _ => true) (inL l))) else []) [.v (.int .i64 (eA ss l pl))]) := by
 have hby : (eA ss l pl) = 0 → ∀ m, WC Try.prog T E0 Try.f73.ntmps (codeOf Try.f73) (argsEnv 0 [lvMo k ss, lvL kl l, .v (.int .i64 pl)]) [] m (Post2 T 3 m Try.f73.results.toList (fl ss.length (gX ss pl (fun _ => true) (inL l))) (tab ss.length (gC ss pl (fun _ => true) (inL l))) []) := (fun h m => by
   unfold eA at h
   by_cases h1 : VMo ss = true ∧ VSet ss.length l = true
   ·rw [if_pos h1] at h
    by_cases h2 : pl = 0 ∨ pl = 1
    ·exact can_own m k kl ss l pl (kA h1.1) h1.2 ll
    ·rw [if_neg h2] at h; cases h
   ·rw [if_neg h1] at h; cases h)
 change WC _ _ _ _ _ [(0, lvMo k ss), (1, lvL kl l), (2, .v (.int .i64 pl))] _ _ _
 refine Rg 4 J <| bB (dY J J) J <| Ua J J <| Ua J J <| Ua J J <| Wn <| eI (z := 10) J <| bN (aL (l := lvMo k ss) J J gG J J) J ?_
 refine bN (dF J) J <| bN (dF J) J <| nQ (cal := .func 72) (first := []) (cap := []) (ls := [lvMo k ss, lvL kl l, .v (.int .i64 pl), .fn (.func 73) [] []]) (as_ := [lvMo k ss, lvL kl l, .v (.int .i64 pl), .fn (.func 73) [] []]) (Φ := (fun r h' m' => ∃ q1 q2, r = .tup ([outV q1 1 ((if (eA ss l pl) = 0 then (fl ss.length (gX ss pl (fun _ => true) (inL l))) else []).map ic), outV q2 1 ((if (eA ss l pl) = 0 then (tab ss.length (gC ss pl (fun _ => true) (inL l))) else []).map ic)] ++ [.v (.int .i64 (eA ss l pl))]) ∧ (n0 + 4 + 10) ≤ m' ∧ OwnII h' 3 (n0 + 4 + 10) m' q1 q2 (if (eA ss l pl) = 0 then (fl ss.length (gX ss pl (fun _ => true) (inL l))) else []) (if (eA ss l pl) = 0 then (tab ss.length (gC ss pl (fun _ => true) (inL l))) else []))) [] J J (dP (ls := [lvMo k ss, lvL kl l, .v (.int .i64 pl), .fn (.func 73) [] []]) (bG (by intro c hc; simp only [List.mem_cons, List.not_mem_nil, or_false] at hc; rcases hc with rfl | rfl | rfl | rfl; exact dW; exact dW; exact .v _; exact nY d0 d0))) (by intro p hp; cases hp) Try.func72 J J (cW J) J ((oX (n0 + 4 + 10) k kl ss l pl 73 Try.f73 (codeOf Try.f73) (fl ss.length (gX ss pl (fun _ => true) (inL l))) (tab ss.length (gC ss pl (fun _ => true) (inL l))) hI ll Try.func73 J J (cW J) hby).mono (by rintro x e h m' ⟨hx, h1, q1, q2, hr, h2⟩; exact ⟨hx, _, hr, q1, q2, rfl, h1, h2⟩)) ?_
 rintro r h' n2 ⟨q1, q2, rfl, hn2, hO⟩
 have hb1 := hO.b1
 have hb2 := hO.b2
 have hne := hO.ne
 refine ⟨outH q1 1 (3) ((if (eA ss l pl) = 0 then (fl ss.length (gX ss pl (fun _ => true) (inL l))) else []).map ic) (outH q2 1 (3) ((if (eA ss l pl) = 0 then (tab ss.length (gC ss pl (fun _ => true) (inL l))) else []).map ic) []), nW hO om .nil, ?_⟩
 refine bN (cS J J) J <| bN (cS J J) J <| bN (cS J J) J <| bN (fZ J) J <| bN (fZ J) J <| bN (fZ J) J <| fD <| aK ?_
 exact ⟨.inr J, om, q1, q2, rfl, jM ⟨om, om⟩ ⟨om, om⟩ om⟩
theorem msure_own (n0 k kl : Nat) (ss : List Go.Ab.ST) (l : List Int) (pl : Int) (hI : ∀ s, s ∈ ss → IS s) (ll : l.length < 1099511627776) : WC Try.prog T E0 Try.f18.ntmps (codeOf Try.f18) (argsEnv 0 [lvMo k ss, lvL kl l, .v (.int .i64 pl)]) [] n0 (Post2 T 3 n0 Try.f18.results.toList (if (eA ss l pl) = 0 then (fl ss.length (mX ss pl (inL l))) else []) (if (eA ss l pl) = 0 then (tab ss.length (mC ss pl (inL l))) else []) [.v (.int .i64 (eA ss l pl))]) := by
 have hby : (eA ss l pl) = 0 → ∀ m, WC Try.prog T E0 Try.f74.ntmps (codeOf Try.f74) (argsEnv 0 [lvMo k ss, lvL kl l, .v (.int .i64 pl)]) [] m (Post2 T 3 m Try.f74.results.toList (fl ss.length (mX ss pl (inL l))) (tab ss.length (mC ss pl (inL l))) []) := (fun h m => by
   unfold eA at h
   by_cases h1 : VMo ss = true ∧ VSet ss.length l = true
   ·rw [if_pos h1] at h
    by_cases h2 : pl = 0 ∨ pl = 1
    ·exact must_own m k kl ss l pl (kA h1.1) h1.2 ll
    ·rw [if_neg h2] at h; cases h
   ·rw [if_neg h1] at h; cases h)
 change WC _ _ _ _ _ [(0, lvMo k ss), (1, lvL kl l), (2, .v (.int .i64 pl))] _ _ _
 refine Rg 4 J <| bB (dY J J) J <| Ua J J <| Ua J J <| Ua J J <| Wn <| eI (z := 10) J <| bN (aL (l := lvMo k ss) J J gG J J) J ?_
 refine bN (dF J) J <| bN (dF J) J <| nQ (cal := .func 72) (first := []) (cap := []) (ls := [lvMo k ss, lvL kl l, .v (.int .i64 pl), .fn (.func 74) [] []]) (as_ := [lvMo k ss, lvL kl l, .v (.int .i64 pl), .fn (.func 74) [] []]) (Φ := (fun r h' m' => ∃ q1 q2, r = .tup ([outV q1 1 ((if (eA ss l pl) = 0 then (fl ss.length (mX ss pl (inL l))) else []).map ic), outV q2 1 ((if (eA ss l pl) = 0 then (tab ss.length (mC ss pl (inL l))) else []).map ic)] ++ [.v (.int .i64 (eA ss l pl))]) ∧ (n0 + 4 + 10) ≤ m' ∧ OwnII h' 3 (n0 + 4 + 10) m' q1 q2 (if (eA ss l pl) = 0 then (fl ss.length (mX ss pl (inL l))) else []) (if (eA ss l pl) = 0 then (tab ss.length (mC ss pl (inL l))) else []))) [] J J (dP (ls := [lvMo k ss, lvL kl l, .v (.int .i64 pl), .fn (.func 74) [] []]) (bG (by intro c hc; simp only [List.mem_cons, List.not_mem_nil, or_false] at hc; rcases hc with rfl | rfl | rfl | rfl; exact dW; exact dW; exact .v _; exact nY d0 d0))) (by intro p hp; cases hp) Try.func72 J J (cW J) J ((oX (n0 + 4 + 10) k kl ss l pl 74 Try.f74 (codeOf Try.f74) (fl ss.length (mX ss pl (inL l))) (tab ss.length (mC ss pl (inL l))) hI ll Try.func74 J J (cW J) hby).mono (by rintro x e h m' ⟨hx, h1, q1, q2, hr, h2⟩; exact ⟨hx, _, hr, q1, q2, rfl, h1, h2⟩)) ?_
 rintro r h' n2 ⟨q1, q2, rfl, hn2, hO⟩
 have hb1 := hO.b1
 have hb2 := hO.b2
 have hne := hO.ne
 refine ⟨outH q1 1 (3) ((if (eA ss l pl) = 0 then (fl ss.length (mX ss pl (inL l))) else []).map ic) (outH q2 1 (3) ((if (eA ss l pl) = 0 then (tab ss.length (mC ss pl (inL l))) else []).map ic) []), nW hO om .nil, ?_⟩
 refine bN (cS J J) J <| bN (cS J J) J <| bN (cS J J) J <| bN (fZ J) J <| bN (fZ J) J <| bN (fZ J) J <| fD <| aK ?_
 exact ⟨.inr J, om, q1, q2, rfl, jM ⟨om, om⟩ ⟨om, om⟩ om⟩
theorem mavoid_own (n0 k kl : Nat) (ss : List Go.Ab.ST) (l : List Int) (pl : Int) (hI : ∀ s, s ∈ ss → IS s) (ll : l.length < 1099511627776) : WC Try.prog T E0 Try.f19.ntmps (codeOf Try.f19) (argsEnv 0 [lvMo k ss, lvL kl l, .v (.int .i64 pl)]) [] n0 (Post2 T 3 n0 Try.f19.results.toList (if (eA ss l pl) = 0 then (fl ss.length (fun s => !sX ss pl (inL l) s)) else []) (if (eA ss l pl) = 0 then (tab ss.length (sC ss pl (inL l))) else []) [.v (.int .i64 (eA ss l pl))]) := by
 have hby : (eA ss l pl) = 0 → ∀ m, WC Try.prog T E0 Try.f75.ntmps (codeOf Try.f75) (argsEnv 0 [lvMo k ss, lvL kl l, .v (.int .i64 pl)]) [] m (Post2 T 3 m Try.f75.results.toList (fl ss.length (fun s => !sX ss pl (inL l) s)) (tab ss.length (sC ss pl (inL l))) []) := (fun h m => by
   unfold eA at h
   by_cases h1 : VMo ss = true ∧ VSet ss.length l = true
   ·rw [if_pos h1] at h
    by_cases h2 : pl = 0 ∨ pl = 1
    ·exact shun_own m k kl ss l pl h2 (kA h1.1) h1.2 ll
    ·rw [if_neg h2] at h; cases h
   ·rw [if_neg h1] at h; cases h)
 change WC _ _ _ _ _ [(0, lvMo k ss), (1, lvL kl l), (2, .v (.int .i64 pl))] _ _ _
 refine Rg 4 J <| bB (dY J J) J <| Ua J J <| Ua J J <| Ua J J <| Wn <| eI (z := 10) J <| bN (aL (l := lvMo k ss) J J gG J J) J ?_
 refine bN (dF J) J <| bN (dF J) J <| nQ (cal := .func 72) (first := []) (cap := []) (ls := [lvMo k ss, lvL kl l, .v (.int .i64 pl), .fn (.func 75) [] []]) (as_ := [lvMo k ss, lvL kl l, .v (.int .i64 pl), .fn (.func 75) [] []]) (Φ := (fun r h' m' => ∃ q1 q2, r = .tup ([outV q1 1 ((if (eA ss l pl) = 0 then (fl ss.length (fun s => !sX ss pl (inL l) s)) else []).map ic), outV q2 1 ((if (eA ss l pl) = 0 then (tab ss.length (sC ss pl (inL l))) else []).map ic)] ++ [.v (.int .i64 (eA ss l pl))]) ∧ (n0 + 4 + 10) ≤ m' ∧ OwnII h' 3 (n0 + 4 + 10) m' q1 q2 (if (eA ss l pl) = 0 then (fl ss.length (fun s => !sX ss pl (inL l) s)) else []) (if (eA ss l pl) = 0 then (tab ss.length (sC ss pl (inL l))) else []))) [] J J (dP (ls := [lvMo k ss, lvL kl l, .v (.int .i64 pl), .fn (.func 75) [] []]) (bG (by intro c hc; simp only [List.mem_cons, List.not_mem_nil, or_false] at hc; rcases hc with rfl | rfl | rfl | rfl; exact dW; exact dW; exact .v _; exact nY d0 d0))) (by intro p hp; cases hp) Try.func72 J J (cW J) J ((oX (n0 + 4 + 10) k kl ss l pl 75 Try.f75 (codeOf Try.f75) (fl ss.length (fun s => !sX ss pl (inL l) s)) (tab ss.length (sC ss pl (inL l))) hI ll Try.func75 J J (cW J) hby).mono (by rintro x e h m' ⟨hx, h1, q1, q2, hr, h2⟩; exact ⟨hx, _, hr, q1, q2, rfl, h1, h2⟩)) ?_
 rintro r h' n2 ⟨q1, q2, rfl, hn2, hO⟩
 have hb1 := hO.b1
 have hb2 := hO.b2
 have hne := hO.ne
 refine ⟨outH q1 1 (3) ((if (eA ss l pl) = 0 then (fl ss.length (fun s => !sX ss pl (inL l) s)) else []).map ic) (outH q2 1 (3) ((if (eA ss l pl) = 0 then (tab ss.length (sC ss pl (inL l))) else []).map ic) []), nW hO om .nil, ?_⟩
 refine bN (cS J J) J <| bN (cS J J) J <| bN (cS J J) J <| bN (fZ J) J <| bN (fZ J) J <| bN (fZ J) J <| fD <| aK ?_
 exact ⟨.inr J, om, q1, q2, rfl, jM ⟨om, om⟩ ⟨om, om⟩ om⟩
end Go.Proofs.Ytcblgjaomljikaa
namespace Go.Proofs.Ytcblgjaomljikaa
open Go.Ab Go.RowKit
theorem lists_run (k k' : Nat) (gs gs' : List (Nat × List Int)) (hl : gs.length < 1000000) (hl2 : gs'.length = gs.length) (hg : ∀ i, i < gs.length → (gs.getD i default).2 = (gs'.getD i default).2) (hz : ∀ r, r ∈ gs → r.2.length < 1000000) : Run Try.prog T E0 (.call 23 [.sl k (gs.map gL), .sl k' (gs'.map gL)] (.v (.bool true))) := by
 refine aZ Try.func23 J J (cW J) <| Rg 1 J <| Ua J J <| Wn <| aC <| Rg 5 J <| Um J J <| aA (bC J J) J <| Um J J <| aA (bC J J) J <| aA (bP (b := .v (.bool false)) (iO J J) (by rw [hl2]; simp)) J <| Wn <| aU J <| aG <| aC <| Rg 3 J <| Um J J <| aA (bC J J) J <| Um J J <| Wn <| aJ <| aY (α := Nat) (fun i => [(0, .sl k (gs.map gL)), (1, .sl k' (gs'.map gL)), (12, .v (.int .i64 (gs.length : Int))), (13, .v (.int .i64 (i : Int)))]) (fun i => []) (fun i n => i ≤ gs.length) (fun i => gs.length - i) (0) ⟨J, J, J, J, trivial⟩ trivial (Nat.zero_le _) ?_
 rintro i n hF
 change WC _ _ _ _ _ (_ :: _) ([]) n _
 have hi := hF
 refine Rg 1 J <| aA (cC J J) J <| bF (fun h14 => ?_) (fun h14 => ?_)
 rotate_left
 ·refine Wn <| aU J <| bA <| aP <| aQ J <| Rg 1 J <| Ua J J <| Wn <| aK <| post (n := 0) (.inr J) J ?_ dD
  rfl
 refine Wn <| aS J <| aG <| aJ <| Rg 2 J <| Um J J <| Ua J J <| dZ ?_
 have hgi := hg i om
 have hzi := hz _ (bO (us := gs) (i := i) om)
 refine cH (z := 10) J kR <| Dm J J <| Dm J J <| aO (cK (j := i) J J J J om om J) J <| aO (dX (l := .sl (gs.getD i default).1 ((gs.getD i default).2.map ic)) J J J) J <| Dm J J <| Dm J J <| aO (cK (j := i) J J J J om om J) J <| aO (dX (l := .sl (gs'.getD i default).1 ((gs'.getD i default).2.map ic)) J J J) J <| aO (bP (b := .v (.bool true)) (aN J (jJ (gs.getD i default).1 (gs'.getD i default).1 (gs.getD i default).2 (gs'.getD i default).2 om) (bG (by intro c hc; simp only [List.mem_cons, List.not_mem_nil, or_false] at hc; rcases hc with rfl | rfl; exact .sl _ _ (cD iZ); exact .sl _ _ (cD iZ)))) (by exact congrArg (fun z => LV.v (.bool z)) (decide_eq_true hgi))) J <| aO (dV J) J <| bY (bH kR) J <| Ck [0,1,12,13,25] J <| bT J <| bR <| aF <| aI (z := 2) J <| aA (cI (((i + 1 : Nat) : Int)) (aR J J om) om) J <| Um J J <| Wn <| aE <| ⟨i + 1, ⟨J, J, J, J, trivial⟩, trivial, om, by show gs.length - (i + 1) < gs.length - i; omega⟩
theorem sureOwn_run (k kl kL ks : Nat) (ss : List Go.Ab.ST) (l : List Int) (pl : Int) (L st : List Int) (hI : ∀ s, s ∈ ss → IS s) (hKN : KN ss) : Run Try.prog T E0 (.call 4 [lvMo k ss, lvL kl l, .v (.int .i64 pl), lvL kL L, lvL ks st] (.v (.bool true))) := by
 refine aZ Try.func4 J J (cW J) <| Rg 2 J <| bB (dY J J) J <| Ua J J <| Wn <| aC <| Rg 7 J <| aA (aL (l := lvMo k ss) J J (by repeat (first | exact g0 | refine g1 (by decide) ?_)) J J) J ?_
 refine Um J J <| Um J J <| Um J J <| aA (dK (cs := [_, _, _]) (rows := [[_], [_], [_]]) J J (by decide) J J J) J <| aA (aN J (lfew_run k 2 ss [(kl, l), (kL, L), (ks, st)] (by simp)) (bG (by intro c hc; simp only [List.mem_cons, List.not_mem_nil, or_false] at hc; rcases hc with rfl | rfl; exact dW; exact .sl _ _ (cD dgL (us := [(kl, l), (kL, L), (ks, st)]))))) J <| dH (fun h37 => ?_) (fun h37 => ?_)
 rotate_left
 ·refine aA (dV J) J <| Wn <| aS J <| aC <| Rg 2 J <| aA (aN J (pM) dD) J <| Ua J J <| Nk [10] J <| bE ?_
  exact post (n := 0) (.inr J) J J (by simp)
 refine aA (dV J) J <| Wn <| aU J <| aG ?_
 have hl60 := fewG_len h37
 have ll : l.length < 1099511627776 := by have : l.length ≤ 60 := hl60 (kl, l) (by simp); omega
 have hLL : L.length < 1099511627776 := by have : L.length ≤ 60 := hl60 (kL, L) (by simp); omega
 have hsl : st.length < 1099511627776 := by have : st.length ≤ 60 := hl60 (ks, st) (by simp); omega
 have hll1 : l.length ≤ 60 := hl60 (kl, l) (by simp)
 have hll2 : L.length ≤ 60 := hl60 (kL, L) (by simp)
 have hll3 : st.length ≤ 60 := hl60 (ks, st) (by simp)
 obtain ⟨hs1, hs2⟩ := fewG_len2 h37
 obtain ⟨L1, hL1⟩ : ∃ z, (if (eA ss l pl) = 0 then (fl ss.length (gX ss pl (fun _ => true) (inL l))) else []) = z := ⟨_, rfl⟩
 obtain ⟨L2, hL2⟩ : ∃ z, (if (eA ss l pl) = 0 then (tab ss.length (gC ss pl (fun _ => true) (inL l))) else []) = z := ⟨_, rfl⟩
 obtain ⟨L3, hL3⟩ : ∃ z, (if (eA ss l pl) = 0 then (fl ss.length (mX ss pl (inL l))) else []) = z := ⟨_, rfl⟩
 obtain ⟨L4, hL4⟩ : ∃ z, (if (eA ss l pl) = 0 then (tab ss.length (mC ss pl (inL l))) else []) = z := ⟨_, rfl⟩
 obtain ⟨L5, hL5⟩ : ∃ z, (if (eA ss l pl) = 0 then (fl ss.length (fun s => !sX ss pl (inL l) s)) else []) = z := ⟨_, rfl⟩
 obtain ⟨L6, hL6⟩ : ∃ z, (if (eA ss l pl) = 0 then (tab ss.length (sC ss pl (inL l))) else []) = z := ⟨_, rfl⟩
 have hb0 : (eA ss l pl) = 0 → 1 ≤ ss.length ∧ ss.length ≤ 40 := fun h => ⟨(kA (eA_ok h).1).pos, (kA (eA_ok h).1).wt.len⟩
 have hm1 : Sml L1 := by
  rw [← hL1]
  by_cases h : (eA ss l pl) = 0
  ·rw [if_pos h]; exact fl_sml (hb0 h).2
  ·rw [if_neg h]; exact .nil
 have hm2 : Sml L2 := by
  rw [← hL2]
  by_cases h : (eA ss l pl) = 0
  ·rw [if_pos h]; exact tab_sml (hb0 h).2 (fun s _ => gc_b (fun x hx => (hs2 x hx).1) _ s)
  ·rw [if_neg h]; exact .nil
 have hm3 : Sml L3 := by
  rw [← hL3]
  by_cases h : (eA ss l pl) = 0
  ·rw [if_pos h]; exact fl_sml (hb0 h).2
  ·rw [if_neg h]; exact .nil
 have hm4 : Sml L4 := by
  rw [← hL4]
  by_cases h : (eA ss l pl) = 0
  ·rw [if_pos h]; exact tab_sml (hb0 h).2 (fun s _ => gc_b (fun x hx => (hs2 x hx).1) _ s)
  ·rw [if_neg h]; exact .nil
 have hm5 : Sml L5 := by
  rw [← hL5]
  by_cases h : (eA ss l pl) = 0
  ·rw [if_pos h]; exact fl_sml (hb0 h).2
  ·rw [if_neg h]; exact .nil
 have hm6 : Sml L6 := by
  rw [← hL6]
  by_cases h : (eA ss l pl) = 0
  ·rw [if_pos h]; exact tab_sml (hb0 h).2 (fun s hs => sC_b (fun x hx => (hs2 x hx).1) hs)
  ·rw [if_neg h]; exact .nil
 have hvL1 : LV.tup (if (eA ss l pl) = 0 then [lvL (kd (fl ss.length (gX ss pl (fun _ => true) (inL l))).length) (fl ss.length (gX ss pl (fun _ => true) (inL l))), lvG 1 ss.length (gC ss pl (fun _ => true) (inL l)), .v (.int .i64 0)] else [.sl 0 [], .sl 0 [], .v (.int .i64 ((eA ss l pl)))]) = .tup [.sl (kd L1.length) (L1.map ic), .sl (kd L2.length) (L2.map ic), .v (.int .i64 (eA ss l pl))] := by
  rw [← hL1, ← hL2]
  by_cases h : (eA ss l pl) = 0
  ·have hp := (hb0 h).1
   rw [if_pos h, if_pos h, if_pos h, h, bX, rF hp]
  ·rw [if_neg h, if_neg h, if_neg h]; rfl
 have hvL3 : LV.tup (if (eA ss l pl) = 0 then [lvL (kd (fl ss.length (mX ss pl (inL l))).length) (fl ss.length (mX ss pl (inL l))), lvG 1 ss.length (mC ss pl (inL l)), .v (.int .i64 0)] else [.sl 0 [], .sl 0 [], .v (.int .i64 ((eA ss l pl)))]) = .tup [.sl (kd L3.length) (L3.map ic), .sl (kd L4.length) (L4.map ic), .v (.int .i64 (eA ss l pl))] := by
  rw [← hL3, ← hL4]
  by_cases h : (eA ss l pl) = 0
  ·have hp := (hb0 h).1
   rw [if_pos h, if_pos h, if_pos h, h, bX, rF hp]
  ·rw [if_neg h, if_neg h, if_neg h]; rfl
 have hvL5 : LV.tup (if (eA ss l pl) = 0 then [lvL (kd (fl ss.length (fun s => !sX ss pl (inL l) s)).length) (fl ss.length (fun s => !sX ss pl (inL l) s)), lvG 1 ss.length (sC ss pl (inL l)), .v (.int .i64 0)] else [.sl 0 [], .sl 0 [], .v (.int .i64 ((eA ss l pl)))]) = .tup [.sl (kd L5.length) (L5.map ic), .sl (kd L6.length) (L6.map ic), .v (.int .i64 (eA ss l pl))] := by
  rw [← hL5, ← hL6]
  by_cases h : (eA ss l pl) = 0
  ·have hp := (hb0 h).1
   rw [if_pos h, if_pos h, if_pos h, h, bX, rF hp]
  ·rw [if_neg h, if_neg h, if_neg h]; rfl
 refine iC (z := 16) J <| aA (aL (l := lvMo k ss) J J (by repeat (first | exact g0 | refine g1 (by decide) ?_)) J J) J ?_
 refine aA (aN J (copy_run k ss hs1 hs2) dD) J <| aA (dK (cs := []) (rows := []) J J (by decide) J J J) J <| Um J J <| WO.apD (te := ti3) (rows := l.map ic) J J J J J (by decide) (cP (f := ic) (n := 1) fun _ => rfl) (by rw [List.length_map]; show (2 * (0 + l.length) + 256) * 8 ≤ _; omega) (by rw [List.length_map]; omega) J <| aA (dK (cs := []) (rows := []) J J (by decide) J J J) J <| Um J J <| WO.apD (te := ti3) (rows := L.map ic) J J J J J (by decide) (cP (f := ic) (n := 1) fun _ => rfl) (by rw [List.length_map]; show (2 * (0 + L.length) + 256) * 8 ≤ _; omega) (by rw [List.length_map]; omega) J <| aA (dK (cs := []) (rows := []) J J (by decide) J J J) J <| Um J J <| WO.apD (te := ti3) (rows := st.map ic) J J J J J (by decide) (cP (f := ic) (n := 1) fun _ => rfl) (by rw [List.length_map]; show (2 * (0 + st.length) + 256) * 8 ≤ _; omega) (by rw [List.length_map]; omega) J <| bB (fN J) J <| aW (dA (cs' := [_]) J J J g0 J J J J) <| Ua J J <| Ua J J <| Ua J J <| Wn <| Fz.weakH (outH 13 1 (3) (l.map ic) (outH 19 1 (3) (st.map ic) (outH 16 1 (3) (L.map ic) ([(20, { cells := [.sl (kd ss.length) ((cpM ss).map stc)], sz := 1, elem := (26), st := 0 }), (0, { cells := [.sl k (ss.map stc)], sz := 1, elem := (26), st := 0 })])))) (subsM.get (aX (fun hne => by rw [bI hne]; repeat (first | exact g0 | refine g1 om ?_ | refine aD om ?_)) (aX (fun hne => by rw [bI hne]; repeat (first | exact g0 | refine g1 om ?_ | refine aD om ?_)) (aX (fun hne => by rw [bI hne]; repeat (first | exact g0 | refine g1 om ?_ | refine aD om ?_)) ⟨(by repeat (first | exact g0 | refine g1 om ?_ | refine aD om ?_)), (by repeat (first | exact g0 | refine g1 om ?_ | refine aD om ?_)), trivial⟩)))) ?_
 refine Fz.env2 (t := 12) (us := l.map ic) [(1, _), (2, _), (3, _), (4, _), (5, _), (11, _), (13, _), (14, _)] ⟨J, J, J, J, J, J, J, J, trivial⟩ J (fun _ r o hr e => by subst e; have h0 : getH (outH 19 1 (3) (st.map ic) (outH 16 1 (3) (L.map ic) ([(20, { cells := [.sl (kd ss.length) ((cpM ss).map stc)], sz := 1, elem := (26), st := 0 }), (0, { cells := [.sl k (ss.map stc)], sz := 1, elem := (26), st := 0 })]))) 13 = none := (by repeat (first | rfl | refine gN om ?_ | refine cN om ?_)); cases hr.symm.trans h0) (by decide) (cP (f := ic) (n := 1) fun _ => rfl) (cD iZ) ?_
 rw [List.length_map]
 refine eI (z := 11) J <| bN (aL (l := lvMo k ss) J J (by repeat (first | exact g0 | refine g1 om ?_ | refine aD om ?_)) J J) J ?_
 refine bN (dF J) J <| bN (dF J) J <| nQ (cal := .func 17) (first := []) (cap := []) (ls := [lvMo k ss, lvL kl l, .v (.int .i64 pl)]) (as_ := [lvMo k ss, lvL kl l, .v (.int .i64 pl)]) (Φ := (fun r h' m' => ∃ q1 q2, r = .tup ([outV q1 1 (L1.map ic), outV q2 1 (L2.map ic)] ++ [.v (.int .i64 (eA ss l pl))]) ∧ (25 + 11) ≤ m' ∧ OwnII h' 3 (25 + 11) m' q1 q2 L1 L2)) [] J J (dP (ls := [lvMo k ss, lvL kl l, .v (.int .i64 pl)]) (bG (by intro c hc; simp only [List.mem_cons, List.not_mem_nil, or_false] at hc; rcases hc with rfl | rfl | rfl; exact dW; exact dW; exact .v _))) (by intro p hp; cases hp) Try.func17 J J (cW J) J ((by rw [← hL1, ← hL2]; exact pI ((25 + 11)) k kl ss l pl hI ll : WC Try.prog T E0 Try.f17.ntmps (codeOf Try.f17) (argsEnv 0 [lvMo k ss, lvL kl l, .v (.int .i64 pl)]) [] ((25 + 11)) (Post2 T 3 ((25 + 11)) Try.f17.results.toList L1 L2 [.v (.int .i64 (eA ss l pl))])).mono (by rintro x e h m' ⟨hx, h1, p1, p2, hr, h2⟩; exact ⟨hx, _, hr, p1, p2, rfl, h1, h2⟩)) ?_
 rintro r h' n4 ⟨q1, q2, rfl, hn4, hO4⟩
 have hbl4 := hO4.b1
 have hbr4 := hO4.b2
 have hbn4 := hO4.ne
 refine ⟨outH q1 1 (3) (L1.map ic) (outH q2 1 (3) (L2.map ic) (outH 19 1 (3) (st.map ic) (outH 16 1 (3) (L.map ic) ([(20, { cells := [.sl (kd ss.length) ((cpM ss).map stc)], sz := 1, elem := (26), st := 0 }), (0, { cells := [.sl k (ss.map stc)], sz := 1, elem := (26), st := 0 })])))), nW hO4 om (.old (fun r o hr => by
  apply Classical.byContradiction
  intro hge
  have hnone : getH (outH 19 1 (3) (st.map ic) (outH 16 1 (3) (L.map ic) ([(20, { cells := [.sl (kd ss.length) ((cpM ss).map stc)], sz := 1, elem := (26), st := 0 }), (0, { cells := [.sl k (ss.map stc)], sz := 1, elem := (26), st := 0 })]))) r = none := (by repeat (first | rfl | refine gN om ?_ | refine cN om ?_))
  cases hr.symm.trans hnone)), ?_⟩
 refine bN (dF J) J <| bN (cS J J) J <| bN (cS J J) J <| bN (cS J J) J <| bN (fZ J) J <| bN (fZ J) J <| bN (fZ J) J <| fD <| Ck [1,2,3,4,5,11,12,13,14,15,16,17] J <| eI (z := 11) J <| bN (aL (l := lvMo k ss) J J (by repeat (first | exact g0 | refine g1 om ?_ | refine aD om ?_)) J J) J ?_
 refine bN (dF J) J <| bN (dF J) J <| nQ (cal := .func 18) (first := []) (cap := []) (ls := [lvMo k ss, lvL kl l, .v (.int .i64 pl)]) (as_ := [lvMo k ss, lvL kl l, .v (.int .i64 pl)]) (Φ := (fun r h' m' => ∃ q3 q4, r = .tup ([outV q3 1 (L3.map ic), outV q4 1 (L4.map ic)] ++ [.v (.int .i64 (eA ss l pl))]) ∧ (n4 + 11) ≤ m' ∧ OwnII h' 3 (n4 + 11) m' q3 q4 L3 L4)) [] J J (dP (ls := [lvMo k ss, lvL kl l, .v (.int .i64 pl)]) (bG (by intro c hc; simp only [List.mem_cons, List.not_mem_nil, or_false] at hc; rcases hc with rfl | rfl | rfl; exact dW; exact dW; exact .v _))) (by intro p hp; cases hp) Try.func18 J J (cW J) J ((by rw [← hL3, ← hL4]; exact msure_own ((n4 + 11)) k kl ss l pl hI ll : WC Try.prog T E0 Try.f18.ntmps (codeOf Try.f18) (argsEnv 0 [lvMo k ss, lvL kl l, .v (.int .i64 pl)]) [] ((n4 + 11)) (Post2 T 3 ((n4 + 11)) Try.f18.results.toList L3 L4 [.v (.int .i64 (eA ss l pl))])).mono (by rintro x e h m' ⟨hx, h1, p1, p2, hr, h2⟩; exact ⟨hx, _, hr, p1, p2, rfl, h1, h2⟩)) ?_
 rintro r h' n5 ⟨q3, q4, rfl, hn5, hO5⟩
 have hbl5 := hO5.b1
 have hbr5 := hO5.b2
 have hbn5 := hO5.ne
 refine ⟨outH q3 1 (3) (L3.map ic) (outH q4 1 (3) (L4.map ic) (outH q1 1 (3) (L1.map ic) (outH q2 1 (3) (L2.map ic) (outH 19 1 (3) (st.map ic) (outH 16 1 (3) (L.map ic) ([(20, { cells := [.sl (kd ss.length) ((cpM ss).map stc)], sz := 1, elem := (26), st := 0 }), (0, { cells := [.sl k (ss.map stc)], sz := 1, elem := (26), st := 0 })])))))), nW hO5 om (.old (fun r o hr => by
  apply Classical.byContradiction
  intro hge
  have hnone : getH (outH q1 1 (3) (L1.map ic) (outH q2 1 (3) (L2.map ic) (outH 19 1 (3) (st.map ic) (outH 16 1 (3) (L.map ic) ([(20, { cells := [.sl (kd ss.length) ((cpM ss).map stc)], sz := 1, elem := (26), st := 0 }), (0, { cells := [.sl k (ss.map stc)], sz := 1, elem := (26), st := 0 })]))))) r = none := (by repeat (first | rfl | refine gN om ?_ | refine cN om ?_))
  cases hr.symm.trans hnone)), ?_⟩
 refine bN (dF J) J <| bN (cS J J) J <| bN (cS J J) J <| bN (cS J J) J <| bN (fZ J) J <| bN (fZ J) J <| bN (fZ J) J <| fD <| Ck [1,2,3,4,5,11,12,13,14,15,16,17,18,19,20] J <| eI (z := 11) J <| bN (aL (l := lvMo k ss) J J (by repeat (first | exact g0 | refine g1 om ?_ | refine aD om ?_)) J J) J ?_
 refine bN (dF J) J <| bN (dF J) J <| nQ (cal := .func 19) (first := []) (cap := []) (ls := [lvMo k ss, lvL kl l, .v (.int .i64 pl)]) (as_ := [lvMo k ss, lvL kl l, .v (.int .i64 pl)]) (Φ := (fun r h' m' => ∃ q5 q6, r = .tup ([outV q5 1 (L5.map ic), outV q6 1 (L6.map ic)] ++ [.v (.int .i64 (eA ss l pl))]) ∧ (n5 + 11) ≤ m' ∧ OwnII h' 3 (n5 + 11) m' q5 q6 L5 L6)) [] J J (dP (ls := [lvMo k ss, lvL kl l, .v (.int .i64 pl)]) (bG (by intro c hc; simp only [List.mem_cons, List.not_mem_nil, or_false] at hc; rcases hc with rfl | rfl | rfl; exact dW; exact dW; exact .v _))) (by intro p hp; cases hp) Try.func19 J J (cW J) J ((by rw [← hL5, ← hL6]; exact mavoid_own ((n5 + 11)) k kl ss l pl hI ll : WC Try.prog T E0 Try.f19.ntmps (codeOf Try.f19) (argsEnv 0 [lvMo k ss, lvL kl l, .v (.int .i64 pl)]) [] ((n5 + 11)) (Post2 T 3 ((n5 + 11)) Try.f19.results.toList L5 L6 [.v (.int .i64 (eA ss l pl))])).mono (by rintro x e h m' ⟨hx, h1, p1, p2, hr, h2⟩; exact ⟨hx, _, hr, p1, p2, rfl, h1, h2⟩)) ?_
 rintro r h' n6 ⟨q5, q6, rfl, hn6, hO6⟩
 have hbl6 := hO6.b1
 have hbr6 := hO6.b2
 have hbn6 := hO6.ne
 refine ⟨outH q5 1 (3) (L5.map ic) (outH q6 1 (3) (L6.map ic) (outH q3 1 (3) (L3.map ic) (outH q4 1 (3) (L4.map ic) (outH q1 1 (3) (L1.map ic) (outH q2 1 (3) (L2.map ic) (outH 19 1 (3) (st.map ic) (outH 16 1 (3) (L.map ic) ([(20, { cells := [.sl (kd ss.length) ((cpM ss).map stc)], sz := 1, elem := (26), st := 0 }), (0, { cells := [.sl k (ss.map stc)], sz := 1, elem := (26), st := 0 })])))))))), nW hO6 om (.old (fun r o hr => by
  apply Classical.byContradiction
  intro hge
  have hnone : getH (outH q3 1 (3) (L3.map ic) (outH q4 1 (3) (L4.map ic) (outH q1 1 (3) (L1.map ic) (outH q2 1 (3) (L2.map ic) (outH 19 1 (3) (st.map ic) (outH 16 1 (3) (L.map ic) ([(20, { cells := [.sl (kd ss.length) ((cpM ss).map stc)], sz := 1, elem := (26), st := 0 }), (0, { cells := [.sl k (ss.map stc)], sz := 1, elem := (26), st := 0 })]))))))) r = none := (by repeat (first | rfl | refine gN om ?_ | refine cN om ?_))
  cases hr.symm.trans hnone)), ?_⟩
 refine bN (dF J) J <| bN (cS J J) J <| bN (cS J J) J <| bN (cS J J) J <| bN (fZ J) J <| bN (fZ J) J <| bN (fZ J) J <| fD <| Ck [1,2,3,4,5,11,12,13,14,15,16,17,18,19,20,21,22,23] J <| iC (z := 9) J <| aA (aL (l := lvMo k ss) J J (by repeat (first | exact g0 | refine g1 om ?_ | refine aD om ?_)) J J) J ?_
 refine Um J J <| Um J J <| Um J J <| Um J J <| aA (aN J (attains_run k kl kL ks ss l pl L st true hI hKN ll hLL hsl) (bG (by intro c hc; simp only [List.mem_cons, List.not_mem_nil, or_false] at hc; rcases hc with rfl | rfl | rfl | rfl | rfl | rfl; exact dW; exact dW; exact .v _; exact dW; exact dW; exact .v _))) J <| Um J J <| aA (cS J J) J <| aA (cS J J) J <| Wn <| Fz.weakH (outH 16 1 (3) (L.map ic) (outH q5 1 (3) (L5.map ic) (outH q6 1 (3) (L6.map ic) (outH q3 1 (3) (L3.map ic) (outH q4 1 (3) (L4.map ic) (outH q1 1 (3) (L1.map ic) (outH q2 1 (3) (L2.map ic) (outH 19 1 (3) (st.map ic) ([(20, { cells := [.sl (kd ss.length) ((cpM ss).map stc)], sz := 1, elem := (26), st := 0 }), (0, { cells := [.sl k (ss.map stc)], sz := 1, elem := (26), st := 0 })]))))))))) (subsM.get (aX (fun hne => by rw [bI hne]; repeat (first | exact g0 | refine g1 om ?_ | refine aD om ?_)) (aX (fun hne => by rw [bI hne]; repeat (first | exact g0 | refine g1 om ?_ | refine aD om ?_)) (aX (fun hne => by rw [bI hne]; repeat (first | exact g0 | refine g1 om ?_ | refine aD om ?_)) (aX (fun hne => by rw [bI hne]; repeat (first | exact g0 | refine g1 om ?_ | refine aD om ?_)) (aX (fun hne => by rw [bI hne]; repeat (first | exact g0 | refine g1 om ?_ | refine aD om ?_)) (aX (fun hne => by rw [bI hne]; repeat (first | exact g0 | refine g1 om ?_ | refine aD om ?_)) (aX (fun hne => by rw [bI hne]; repeat (first | exact g0 | refine g1 om ?_ | refine aD om ?_)) (aX (fun hne => by rw [bI hne]; repeat (first | exact g0 | refine g1 om ?_ | refine aD om ?_)) ⟨(by repeat (first | exact g0 | refine g1 om ?_ | refine aD om ?_)), (by repeat (first | exact g0 | refine g1 om ?_ | refine aD om ?_)), trivial⟩))))))))) ?_
 refine Fz.env2 (t := 13) (us := L.map ic) [(1, _), (2, _), (3, _), (4, _), (5, _), (11, _), (12, _), (14, _), (15, _), (16, _), (17, _), (18, _), (19, _), (20, _), (21, _), (22, _), (23, _)] ⟨J, J, J, J, J, J, J, J, J, J, J, J, J, J, J, J, J, trivial⟩ J (fun _ r o hr e => by subst e; have h0 : getH (outH q5 1 (3) (L5.map ic) (outH q6 1 (3) (L6.map ic) (outH q3 1 (3) (L3.map ic) (outH q4 1 (3) (L4.map ic) (outH q1 1 (3) (L1.map ic) (outH q2 1 (3) (L2.map ic) (outH 19 1 (3) (st.map ic) ([(20, { cells := [.sl (kd ss.length) ((cpM ss).map stc)], sz := 1, elem := (26), st := 0 }), (0, { cells := [.sl k (ss.map stc)], sz := 1, elem := (26), st := 0 })])))))))) 16 = none := (by repeat (first | rfl | refine gN om ?_ | refine cN om ?_)); cases hr.symm.trans h0) (by decide) (cP (f := ic) (n := 1) fun _ => rfl) (cD iZ) ?_
 rw [List.length_map]
 refine iC (z := 8) J <| Um J J <| Um J J <| Um J J <| Um J J <| Um J J <| Um J J <| aA (dK (cs := [outV q1 1 (L1.map ic), outV q2 1 (L2.map ic), outV q3 1 (L3.map ic), outV q4 1 (L4.map ic), outV q5 1 (L5.map ic), outV q6 1 (L6.map ic)]) (rows := (tab 6 (fun t : Nat => (((six q1 q2 q3 q4 q5 q6) t, (six L1 L2 L3 L4 L5 L6) t) : Nat × List Int))).map ff6) J J (by decide) J (fill6 (lV _ _ _) (lV _ _ _) (lV _ _ _) (lV _ _ _) (lV _ _ _) (lV _ _ _)) J) J <| Ua J J <| Wn <| Fz.weakH (outH 19 1 (3) (st.map ic) (outH q5 1 (3) (L5.map ic) (outH q6 1 (3) (L6.map ic) (outH q3 1 (3) (L3.map ic) (outH q4 1 (3) (L4.map ic) (outH q1 1 (3) (L1.map ic) (outH q2 1 (3) (L2.map ic) ([(20, { cells := [.sl (kd ss.length) ((cpM ss).map stc)], sz := 1, elem := (26), st := 0 }), (0, { cells := [.sl k (ss.map stc)], sz := 1, elem := (26), st := 0 })])))))))) (subsM.get (aX (fun hne => by rw [bI hne]; repeat (first | exact g0 | refine g1 om ?_ | refine aD om ?_)) (aX (fun hne => by rw [bI hne]; repeat (first | exact g0 | refine g1 om ?_ | refine aD om ?_)) (aX (fun hne => by rw [bI hne]; repeat (first | exact g0 | refine g1 om ?_ | refine aD om ?_)) (aX (fun hne => by rw [bI hne]; repeat (first | exact g0 | refine g1 om ?_ | refine aD om ?_)) (aX (fun hne => by rw [bI hne]; repeat (first | exact g0 | refine g1 om ?_ | refine aD om ?_)) (aX (fun hne => by rw [bI hne]; repeat (first | exact g0 | refine g1 om ?_ | refine aD om ?_)) (aX (fun hne => by rw [bI hne]; repeat (first | exact g0 | refine g1 om ?_ | refine aD om ?_)) ⟨(by repeat (first | exact g0 | refine g1 om ?_ | refine aD om ?_)), (by repeat (first | exact g0 | refine g1 om ?_ | refine aD om ?_)), trivial⟩)))))))) ?_
 refine Fz.env2 (t := 14) (us := st.map ic) [(1, _), (2, _), (3, _), (4, _), (5, _), (11, _), (12, _), (13, _), (17, _), (20, _), (23, _), (24, _)] ⟨J, J, J, J, J, J, J, J, J, J, J, J, trivial⟩ J (fun _ r o hr e => by subst e; have h0 : getH (outH q5 1 (3) (L5.map ic) (outH q6 1 (3) (L6.map ic) (outH q3 1 (3) (L3.map ic) (outH q4 1 (3) (L4.map ic) (outH q1 1 (3) (L1.map ic) (outH q2 1 (3) (L2.map ic) ([(20, { cells := [.sl (kd ss.length) ((cpM ss).map stc)], sz := 1, elem := (26), st := 0 }), (0, { cells := [.sl k (ss.map stc)], sz := 1, elem := (26), st := 0 })]))))))) 19 = none := (by repeat (first | rfl | refine gN om ?_ | refine cN om ?_)); cases hr.symm.trans h0) (by decide) (cP (f := ic) (n := 1) fun _ => rfl) (cD iZ) ?_
 rw [List.length_map]
 have hs6 : ∀ t, t < 6 → ∀ x, opI 3 (LX (six L1 L2 L3 L4 L5 L6) 0 0 t) = some x → getH (outH q5 1 (3) (L5.map ic) (outH q6 1 (3) (L6.map ic) (outH q3 1 (3) (L3.map ic) (outH q4 1 (3) (L4.map ic) (outH q1 1 (3) (L1.map ic) (outH q2 1 (3) (L2.map ic) ([(20, { cells := [.sl (kd ss.length) ((cpM ss).map stc)], sz := 1, elem := (26), st := 0 }), (0, { cells := [.sl k (ss.map stc)], sz := 1, elem := (26), st := 0 })]))))))) ((six q1 q2 q3 q4 q5 q6) t) = some x := fun t ht x hx => by
  rw [LX_zero] at hx
  obtain ⟨hne, rfl⟩ := opI_some hx
  obtain rfl | rfl | rfl | rfl | rfl | rfl : t = 0 ∨ t = 1 ∨ t = 2 ∨ t = 3 ∨ t = 4 ∨ t = 5 := by omega
  ·have hne : L1 ≠ [] := hne
   show getH _ q1 = some (obI 3 L1)
   repeat (first | exact og0 hne | refine aD om ?_)
  ·have hne : L2 ≠ [] := hne
   show getH _ q2 = some (obI 3 L2)
   repeat (first | exact og0 hne | refine aD om ?_)
  ·have hne : L3 ≠ [] := hne
   show getH _ q3 = some (obI 3 L3)
   repeat (first | exact og0 hne | refine aD om ?_)
  ·have hne : L4 ≠ [] := hne
   show getH _ q4 = some (obI 3 L4)
   repeat (first | exact og0 hne | refine aD om ?_)
  ·have hne : L5 ≠ [] := hne
   show getH _ q5 = some (obI 3 L5)
   repeat (first | exact og0 hne | refine aD om ?_)
  ·have hne : L6 ≠ [] := hne
   show getH _ q6 = some (obI 3 L6)
   repeat (first | exact og0 hne | refine aD om ?_)
 have hfa : ∀ t, t < 6 → 30 < (six q1 q2 q3 q4 q5 q6) t ∧ (six q1 q2 q3 q4 q5 q6) t < n6 := fun t _ => six_all (Q := fun q => 30 < q ∧ q < n6) ⟨om, om⟩ ⟨om, om⟩ ⟨om, om⟩ ⟨om, om⟩ ⟨om, om⟩ ⟨om, om⟩ t
 have hinj := six_inj (a := q1) (b := q2) (c := q3) (d := q4) (e := q5) (f := q6) ⟨om, om, om, om, om, om, om, om, om, om, om, om, om, om, om⟩
 have hsm : ∀ t, Sml ((six L1 L2 L3 L4 L5 L6) t) := six_all hm1 hm2 hm3 hm4 hm5 hm6
 refine iV (famH (six q1 q2 q3 q4 q5 q6) (fun t => opI 3 (LX (six L1 L2 L3 L4 L5 L6) 0 0 t)) [(20, { cells := [.sl (kd ss.length) ((cpM ss).map stc)], sz := 1, elem := (26), st := 0 }), (0, { cells := [.sl k (ss.map stc)], sz := 1, elem := (26), st := 0 })] 6) (eG _ hs6 ⟨(by repeat (first | exact g0 | refine g1 om ?_ | refine aD om ?_)), (by repeat (first | exact g0 | refine g1 om ?_ | refine aD om ?_)), trivial⟩) ?_
 refine Rg 1 J <| Ua J J <| Wn <| aC <| Rg 3 J <| Um J J <| aA (bC J J) J <| Um J J <| Nk [1,2,3,4,5,11,12,13,14,17,20,23,25,91,92,93] J <| aJ <| aY (α := Nat × Nat) (fun ⟨i, qb⟩ => [(1, lvL kl l), (2, .v (.int .i64 pl)), (3, lvL kL L), (4, lvL ks st), (5, .ptr 0 0), (11, .ptr 20 0), (12, .sl (kd2 l.length) (l.map ic)), (13, .sl (kd2 L.length) (L.map ic)), (14, .sl (kd2 st.length) (st.map ic)), (17, .v (.int .i64 (eA ss l pl))), (20, .v (.int .i64 (eA ss l pl))), (23, .v (.int .i64 (eA ss l pl))), (25, outV qb 1 ((tab i (fun t : Nat => ((kd2 ((six L1 L2 L3 L4 L5 L6) t).length, (six L1 L2 L3 L4 L5 L6) t) : Nat × List Int))).map gL)), (91, .sl 2 ((tab 6 (fun t : Nat => (((six q1 q2 q3 q4 q5 q6) t, (six L1 L2 L3 L4 L5 L6) t) : Nat × List Int))).map ff6)), (92, .v (.int .i64 (6 : Int))), (93, .v (.int .i64 (i : Int)))]) (fun ⟨i, qb⟩ => outH qb 1 22 ((tab i (fun t : Nat => ((kd2 ((six L1 L2 L3 L4 L5 L6) t).length, (six L1 L2 L3 L4 L5 L6) t) : Nat × List Int))).map gL) (famH (six q1 q2 q3 q4 q5 q6) (fun t => opI 3 (LX (six L1 L2 L3 L4 L5 L6) i 0 t)) [(20, { cells := [.sl (kd ss.length) ((cpM ss).map stc)], sz := 1, elem := (26), st := 0 }), (0, { cells := [.sl k (ss.map stc)], sz := 1, elem := (26), st := 0 })] 6)) (fun ⟨i, qb⟩ n => i ≤ 6 ∧ n6 ≤ qb ∧ qb < n) (fun ⟨i, qb⟩ => 6 - i) (0, n6) ⟨J, J, J, J, J, J, J, J, J, J, J, J, J, J, J, J, trivial⟩ (aX (fun hne => absurd J hne) (eG _ (fun t ht x hx => by have := hfa t ht; repeat (first | exact eY _ ht hx (fun s hs e => hinj s t hs ht e) | refine g1 om ?_ | refine aD om ?_)) ⟨(by repeat (first | exact g0 | refine g1 om ?_ | refine aD om ?_ | refine (bM _ (fun t ht => by have := hfa t ht; omega)).trans ?_)), (by repeat (first | exact g0 | refine g1 om ?_ | refine aD om ?_ | refine (bM _ (fun t ht => by have := hfa t ht; omega)).trans ?_)), trivial⟩)) ⟨Nat.zero_le _, om, om⟩ ?_
 rintro ⟨i, qb⟩ n hF
 change WC _ _ _ _ _ (_ :: _) (outH _ _ _ _ _) n _
 obtain ⟨hi, hqb0, hqb⟩ := hF
 refine iC (z := 1) J <| aA (cC J J) J <| bF (fun h94 => ?_) (fun h94 => ?_)
 ·refine Wn <| Fz.same [(1, _), (2, _), (3, _), (4, _), (5, _), (11, _), (12, _), (13, _), (14, _), (17, _), (20, _), (23, _), (25, _), (91, _), (92, _), (93, _), (94, _)] _ ⟨J, J, J, J, J, J, J, J, J, J, J, J, J, J, J, J, J, trivial⟩ (fun _ _ h => h) <| aS J <| aG <| aJ <| Rg 3 J <| aA (cK (us := tab 6 (fun t : Nat => (((six q1 q2 q3 q4 q5 q6) t, (six L1 L2 L3 L4 L5 L6) t) : Nat × List Int))) (f := ff6) (j := i) J J J J J (by rw [bX]; omega) J) J <| aA (bP (b := outV ((six q1 q2 q3 q4 q5 q6) i) 1 (((six L1 L2 L3 L4 L5 L6) i).map ic)) (dX (l := outV ((tab 6 (fun t : Nat => (((six q1 q2 q3 q4 q5 q6) t, (six L1 L2 L3 L4 L5 L6) t) : Nat × List Int))).getD i default).1 1 (((tab 6 (fun t : Nat => (((six q1 q2 q3 q4 q5 q6) t, (six L1 L2 L3 L4 L5 L6) t) : Nat × List Int))).getD i default).2.map ic)) J J J) (by rw [iQ _ om])) J <| Ua J J <| Nk [1,2,3,4,5,11,12,13,14,17,20,23,25,27,91,92,93] J ?_
  have hyl := (hsm i).1
  refine iC (z := 7) J <| Um J J <| aA (dK (cs := []) (rows := []) J J (by decide) J J J) J <| Um J J <| WO.apC (te := ti3) (q := ((six q1 q2 q3 q4 q5 q6) i)) (rows := (((six L1 L2 L3 L4 L5 L6) i).map ic)) J J J J J (by decide) (cP (f := ic) (n := 1) fun _ => rfl) (fun hne => by have hlx := eY (a := (six q1 q2 q3 q4 q5 q6)) (o := fun t => opI 3 (LX (six L1 L2 L3 L4 L5 L6) i 0 t)) (h := [(20, { cells := [.sl (kd ss.length) ((cpM ss).map stc)], sz := 1, elem := (26), st := 0 }), (0, { cells := [.sl k (ss.map stc)], sz := 1, elem := (26), st := 0 })]) (x := obI 3 ((six L1 L2 L3 L4 L5 L6) i)) (i := i) 6 om (by show opI 3 (LX (six L1 L2 L3 L4 L5 L6) i 0 i) = _; rw [LX_self]; exact opI_ne (fun h => hne (by rw [h]; rfl))) (fun s hs e => hinj s i hs om e); have := hfa i om; repeat (first | exact hlx | refine g1 om ?_ | refine aD om ?_)) (by rw [List.length_map]; show (2 * (0 + ((six L1 L2 L3 L4 L5 L6) i).length) + 256) * 8 ≤ _; omega) (by rw [List.length_map]; omega) J ?_
  refine aA (dK (cs := [(outK 2 (n + 1 + 3 + 3) 1 (((six L1 L2 L3 L4 L5 L6) i).map ic))]) (rows := [[(outK 2 (n + 1 + 3 + 3) 1 (((six L1 L2 L3 L4 L5 L6) i).map ic))]]) J J (by decide) J (by generalize (((six L1 L2 L3 L4 L5 L6) i).map ic) = z; cases z <;> rfl) J) J <| kE _ (subsM.get (aX (q := qb) (sz := 1) (el := 22) (us := (tab i (fun t : Nat => ((kd2 ((six L1 L2 L3 L4 L5 L6) t).length, (six L1 L2 L3 L4 L5 L6) t) : Nat × List Int))).map gL) (h := outH (n + 1 + 3 + 3) 1 (3) (((six L1 L2 L3 L4 L5 L6) i).map ic) (famH (six q1 q2 q3 q4 q5 q6) (fun t => opI 3 (LX (six L1 L2 L3 L4 L5 L6) i 0 t)) [(20, { cells := [.sl (kd ss.length) ((cpM ss).map stc)], sz := 1, elem := (26), st := 0 }), (0, { cells := [.sl k (ss.map stc)], sz := 1, elem := (26), st := 0 })] 6)) (fun hne => by rw [bI hne]; repeat (first | exact g0 | refine g1 om ?_ | refine aD om ?_ | refine (bM _ (fun t ht => by have := hfa t ht; omega)).trans ?_)) (aX (fun hne => by rw [bI hne]; repeat (first | exact g0 | refine g1 om ?_ | refine aD om ?_ | refine (bM _ (fun t ht => by have := hfa t ht; omega)).trans ?_)) (eG _ (fun t ht x hx => by have := hfa t ht; repeat (first | exact eY _ ht hx (fun s hs e => hinj s t hs ht e) | refine g1 om ?_ | refine aD om ?_)) ⟨(by repeat (first | exact g0 | refine g1 om ?_ | refine aD om ?_ | refine (bM _ (fun t ht => by have := hfa t ht; omega)).trans ?_)), (by repeat (first | exact g0 | refine g1 om ?_ | refine aD om ?_ | refine (bM _ (fun t ht => by have := hfa t ht; omega)).trans ?_)), trivial⟩)))) ?_
  refine WO.ap (te := ti22) (q := qb) (us := (tab i (fun t : Nat => ((kd2 ((six L1 L2 L3 L4 L5 L6) t).length, (six L1 L2 L3 L4 L5 L6) t) : Nat × List Int))).map gL) (rows := [[(outK 2 (n + 1 + 3 + 3) 1 (((six L1 L2 L3 L4 L5 L6) i).map ic))]]) J J J J J (by decide) (by intro r hr; rw [List.mem_singleton] at hr; subst hr; rfl) (cP (f := gL) (n := 1) fun _ => rfl) (by simp) (by rw [List.length_map, bX]; show (2 * (i + 1) + 256) * 24 ≤ _; omega) (by rw [List.length_map, bX]; show i + 1 < _; omega) (by repeat (first | rfl | refine gN om ?_ | refine cN om ?_ | refine (bM _ (fun t ht => by have := hfa t ht; omega)).trans ?_)) (by repeat (first | rfl | refine gN om ?_ | refine cN om ?_ | refine (bM _ (fun t ht => by have := hfa t ht; omega)).trans ?_)) J ?_
  refine Ua J J <| dZ ?_
  rw [gZ, hJ]
  refine Fz.weakH (outH (n + 1 + 3 + 3) 1 (3) (((six L1 L2 L3 L4 L5 L6) i).map ic) (((n + 1 + 3 + 5), { cells := ((tab i (fun t : Nat => ((kd2 ((six L1 L2 L3 L4 L5 L6) t).length, (six L1 L2 L3 L4 L5 L6) t) : Nat × List Int))).map gL).flatten ++ [(outK 2 (n + 1 + 3 + 3) 1 (((six L1 L2 L3 L4 L5 L6) i).map ic))], sz := 1, elem := 22, st := 0 }) :: famH (six q1 q2 q3 q4 q5 q6) (fun t => opI 3 (LX (six L1 L2 L3 L4 L5 L6) i 0 t)) [(20, { cells := [.sl (kd ss.length) ((cpM ss).map stc)], sz := 1, elem := (26), st := 0 }), (0, { cells := [.sl k (ss.map stc)], sz := 1, elem := (26), st := 0 })] 6)) (subsM.get (aX (fun hne => by rw [bI hne]; repeat (first | exact g0 | refine g1 om ?_ | refine aD om ?_ | refine (bM _ (fun t ht => by have := hfa t ht; omega)).trans ?_)) ⟨(by repeat (first | exact g0 | refine g1 om ?_ | refine aD om ?_ | refine (bM _ (fun t ht => by have := hfa t ht; omega)).trans ?_)), (eG _ (fun t ht x hx => by have := hfa t ht; repeat (first | exact eY _ ht hx (fun s hs e => hinj s t hs ht e) | refine g1 om ?_ | refine aD om ?_)) ⟨(by repeat (first | exact g0 | refine g1 om ?_ | refine aD om ?_ | refine (bM _ (fun t ht => by have := hfa t ht; omega)).trans ?_)), (by repeat (first | exact g0 | refine g1 om ?_ | refine aD om ?_ | refine (bM _ (fun t ht => by have := hfa t ht; omega)).trans ?_)), trivial⟩)⟩)) ?_
  refine Fz.copyC [(1, _), (2, _), (3, _), (4, _), (5, _), (11, _), (12, _), (13, _), (14, _), (17, _), (20, _), (23, _), (25, _), (27, _), (91, _), (92, _), (93, _)] ⟨J, J, J, J, J, J, J, J, J, J, J, J, J, J, J, J, J, trivial⟩ om (by decide) (cP (f := ic) (n := 1) fun _ => rfl) (cD iZ) (by repeat (first | rfl | refine gN om ?_ | refine cN om ?_ | refine (bM _ (fun t ht => by have := hfa t ht; omega)).trans ?_)) ?_
  rw [List.length_map (f := ic)]
  have eab : tab (i + 1) (fun t : Nat => ((kd2 ((six L1 L2 L3 L4 L5 L6) t).length, (six L1 L2 L3 L4 L5 L6) t) : Nat × List Int)) = (tab i (fun t : Nat => ((kd2 ((six L1 L2 L3 L4 L5 L6) t).length, (six L1 L2 L3 L4 L5 L6) t) : Nat × List Int))) ++ [(kd2 ((six L1 L2 L3 L4 L5 L6) i).length, ((six L1 L2 L3 L4 L5 L6) i))] := lF _
  refine Rg 3 J <| Um J J <| aA (oLenO J J) J <| Um J J <| Nk [1,2,3,4,5,11,12,13,14,17,20,23,25,27,91,92,93,104,105] J <| cM ?_
  refine aY (α := Nat × Nat) (fun ⟨j, qc⟩ => [(1, lvL kl l), (2, .v (.int .i64 pl)), (3, lvL kL L), (4, lvL ks st), (5, .ptr 0 0), (11, .ptr 20 0), (12, .sl (kd2 l.length) (l.map ic)), (13, .sl (kd2 L.length) (L.map ic)), (14, .sl (kd2 st.length) (st.map ic)), (17, .v (.int .i64 (eA ss l pl))), (20, .v (.int .i64 (eA ss l pl))), (23, .v (.int .i64 (eA ss l pl))), (25, outV qc 1 ((tab (i + 1) (fun t : Nat => ((kd2 ((six L1 L2 L3 L4 L5 L6) t).length, (six L1 L2 L3 L4 L5 L6) t) : Nat × List Int))).map gL)), (27, outV ((six q1 q2 q3 q4 q5 q6) i) 1 (((six L1 L2 L3 L4 L5 L6) i).map ic)), (91, .sl 2 ((tab 6 (fun t : Nat => (((six q1 q2 q3 q4 q5 q6) t, (six L1 L2 L3 L4 L5 L6) t) : Nat × List Int))).map ff6)), (92, .v (.int .i64 (6 : Int))), (93, .v (.int .i64 (i : Int))), (104, .v (.int .i64 (((six L1 L2 L3 L4 L5 L6) i).length : Int))), (105, .v (.int .i64 (j : Int)))]) (fun ⟨j, qc⟩ => outH qc 1 22 ((tab (i + 1) (fun t : Nat => ((kd2 ((six L1 L2 L3 L4 L5 L6) t).length, (six L1 L2 L3 L4 L5 L6) t) : Nat × List Int))).map gL) (famH (six q1 q2 q3 q4 q5 q6) (fun t => opI 3 (LX (six L1 L2 L3 L4 L5 L6) i j t)) [(20, { cells := [.sl (kd ss.length) ((cpM ss).map stc)], sz := 1, elem := (26), st := 0 }), (0, { cells := [.sl k (ss.map stc)], sz := 1, elem := (26), st := 0 })] 6)) (fun ⟨j, qc⟩ n => j ≤ ((six L1 L2 L3 L4 L5 L6) i).length ∧ n6 ≤ qc ∧ qc < n) (fun ⟨j, qc⟩ => ((six L1 L2 L3 L4 L5 L6) i).length - j) (0, (n + 1 + 3 + 5)) ⟨rfl, rfl, rfl, rfl, rfl, rfl, rfl, rfl, rfl, rfl, rfl, rfl, congrArg some (by rw [eab, List.map_append, List.map_cons, List.map_nil, hJ, List.length_map] <;> rfl), rfl, rfl, rfl, rfl, rfl, rfl, trivial⟩ (by dsimp only; rw [eab, List.map_append, List.map_cons, List.map_nil, gZ]; exact ⟨(by repeat (first | exact g0 | refine g1 om ?_ | refine aD om ?_ | refine (bM _ (fun t ht => by have := hfa t ht; omega)).trans ?_)), (eG _ (fun t ht x hx => by have := hfa t ht; repeat (first | exact eY _ ht hx (fun s hs e => hinj s t hs ht e) | refine g1 om ?_ | refine aD om ?_)) ⟨(by repeat (first | exact g0 | refine g1 om ?_ | refine aD om ?_ | refine (bM _ (fun t ht => by have := hfa t ht; omega)).trans ?_)), (by repeat (first | exact g0 | refine g1 om ?_ | refine aD om ?_ | refine (bM _ (fun t ht => by have := hfa t ht; omega)).trans ?_)), trivial⟩)⟩) ⟨Nat.zero_le _, om, om⟩ ?_
  rintro ⟨j, qc⟩ n hF
  change WC _ _ _ _ _ (_ :: _) (outH _ _ _ _ _) n _
  obtain ⟨hj, hqc0, hqc⟩ := hF
  refine Rg 1 J <| aA (cC J J) J <| bF (fun h106 => ?_) (fun h106 => ?_)
  rotate_left
  ·refine Nk [1,2,3,4,5,11,12,13,14,17,20,23,25,27,91,92,93,104,105,106] J <| aU J <| bA <| aP <| eV J <| aF <| Ck [1,2,3,4,5,11,12,13,14,17,20,23,25,91,92,93] J <| aI (z := 2) J <| aA (cI (((i + 1 : Nat) : Int)) (aR J J om) om) J <| Um J J <| Wn <| aE ?_
   obtain rfl : j = ((six L1 L2 L3 L4 L5 L6) i).length := by omega
   refine ⟨⟨i + 1, qc⟩, ⟨J, J, J, J, J, J, J, J, J, J, J, J, J, J, J, J, trivial⟩, aX (fun hne => by rw [bI hne]; repeat (first | exact g0 | refine g1 om ?_ | refine aD om ?_ | refine (bM _ (fun t ht => by have := hfa t ht; omega)).trans ?_)) (eG _ (fun t ht x hx => ?_) ⟨(by repeat (first | exact g0 | refine g1 om ?_ | refine aD om ?_ | refine (bM _ (fun t ht => by have := hfa t ht; omega)).trans ?_)), (by repeat (first | exact g0 | refine g1 om ?_ | refine aD om ?_ | refine (bM _ (fun t ht => by have := hfa t ht; omega)).trans ?_)), trivial⟩), ⟨om, om, om⟩, by show 6 - (i + 1) < 6 - i; omega⟩
   have := hfa t ht
   rw [← LX_end] at hx
   repeat (first | exact eY _ ht hx (fun s hs e => hinj s t hs ht e) | refine g1 om ?_ | refine aD om ?_)
  refine Nk [1,2,3,4,5,11,12,13,14,17,20,23,25,27,91,92,93,104,105,106] J <| aS J <| aG <| aJ <| Rg 2 J <| Um J J <| Ua J J <| Nk [1,2,3,4,5,11,12,13,14,17,20,23,25,27,28,91,92,93,104,105] J ?_
  have hovne : ((six L1 L2 L3 L4 L5 L6) i) ≠ [] := fun h => absurd (congrArg List.length h) (by show ¬ ((six L1 L2 L3 L4 L5 L6) i).length = 0; omega)
  have hov : outV ((six q1 q2 q3 q4 q5 q6) i) 1 (((six L1 L2 L3 L4 L5 L6) i).map ic) = .ref ((six q1 q2 q3 q4 q5 q6) i) 1 0 ((six L1 L2 L3 L4 L5 L6) i).length := by
   rw [rM (fun h => hovne (List.map_eq_nil_iff.1 h)), List.length_map]
  rw [hov]
  have hyb := (hsm i).2 (((six L1 L2 L3 L4 L5 L6) i).getD j default) (bO om)
  have hai := hfa i om
  have hlx : getH (outH qc 1 22 ((tab (i + 1) (fun t : Nat => ((kd2 ((six L1 L2 L3 L4 L5 L6) t).length, (six L1 L2 L3 L4 L5 L6) t) : Nat × List Int))).map gL) (famH (six q1 q2 q3 q4 q5 q6) (fun t => opI 3 (LX (six L1 L2 L3 L4 L5 L6) i j t)) [(20, { cells := [.sl (kd ss.length) ((cpM ss).map stc)], sz := 1, elem := (26), st := 0 }), (0, { cells := [.sl k (ss.map stc)], sz := 1, elem := (26), st := 0 })] 6)) ((six q1 q2 q3 q4 q5 q6) i) = some { cells := ((LX (six L1 L2 L3 L4 L5 L6) i j i).map ic).flatten, sz := 1, elem := 3, st := 0 } := by
   refine aD om ?_
   exact eY (o := fun t => opI 3 (LX (six L1 L2 L3 L4 L5 L6) i j t)) 6 om (opI_ne (fun h => hovne (LX_nil.1 h))) (fun s hs e => hinj s i hs om e)
  refine aI (z := 7) J <| Um J J <| Um J J <| aA (cZ (j := j) J J J J om om J) J <| aA (cI (((six L1 L2 L3 L4 L5 L6) i).getD j default) (gY (f := ic) (us := LX (six L1 L2 L3 L4 L5 L6) i j i) (j := j) J J hlx (fun _ => rfl) J (by decide) (by rw [qN]; omega) J) (LX_get om)) J <| aA (aR J J om) J <| aA (cZ (j := j) J J J J om om J) J <| aW (fO (f := ic) (us := LX (six L1 L2 L3 L4 L5 L6) i j i) (((six L1 L2 L3 L4 L5 L6) i).getD j default + 1) J J J hlx (fun _ => rfl) J J (by rw [qN]; omega) J) <| Wn <| aF <| Ck [1,2,3,4,5,11,12,13,14,17,20,23,25,27,91,92,93,104,105] J <| aI (z := 2) J <| aA (cI (((j + 1 : Nat) : Int)) (aR J J om) om) J <| Um J J <| Wn <| aE ?_
  have hset := LX_set (L := (six L1 L2 L3 L4 L5 L6)) (i := i) (j := j) om
  refine ⟨⟨j + 1, qc⟩, ⟨J, J, J, J, J, J, J, J, J, J, J, J, J, J, J, J, J, J, J, trivial⟩, aX (fun hne => by have := hfa i om; rw [bI hne]; repeat (first | exact g0 | refine g1 om ?_ | refine aD om ?_ | refine (bM _ (fun t ht => by have := hfa t ht; omega)).trans ?_)) (eG _ (fun t ht x hx => ?_) ⟨(by have := hfa i om; repeat (first | exact g0 | refine g1 om ?_ | refine aD om ?_ | refine (bM _ (fun t ht => by have := hfa t ht; omega)).trans ?_)), (by have := hfa i om; repeat (first | exact g0 | refine g1 om ?_ | refine aD om ?_ | refine (bM _ (fun t ht => by have := hfa t ht; omega)).trans ?_)), trivial⟩), ⟨om, om, om⟩, by show ((six L1 L2 L3 L4 L5 L6) i).length - (j + 1) < ((six L1 L2 L3 L4 L5 L6) i).length - j; omega⟩
  have := hfa t ht
  by_cases e : t = i
  ·subst e
   obtain ⟨hne, rfl⟩ := opI_some hx
   refine fE g0 ?_
   rw [← hset]; rfl
  ·rw [LX_ne (j := j + 1) (j' := j) e] at hx
   refine g1 (fun h => e (hinj t i ht om h.symm)) ?_
   repeat (first | exact eY _ ht hx (fun s hs e => hinj s t hs ht e) | refine g1 om ?_ | refine aD om ?_)
 refine dZ ?_
 obtain rfl : i = 6 := by omega
 refine Fz.weakH (outH qb 1 22 ((tab 6 (fun t : Nat => ((kd2 ((six L1 L2 L3 L4 L5 L6) t).length, (six L1 L2 L3 L4 L5 L6) t) : Nat × List Int))).map gL) [(20, { cells := [.sl (kd ss.length) ((cpM ss).map stc)], sz := 1, elem := (26), st := 0 }), (0, { cells := [.sl k (ss.map stc)], sz := 1, elem := (26), st := 0 })]) (subsM.get (aX (fun hne => by rw [bI hne]; repeat (first | exact g0 | refine g1 om ?_ | refine aD om ?_ | refine (bM _ (fun t ht => by have := hfa t ht; omega)).trans ?_)) ⟨(by repeat (first | exact g0 | refine g1 om ?_ | refine aD om ?_ | refine (bM _ (fun t ht => by have := hfa t ht; omega)).trans ?_)), (by repeat (first | exact g0 | refine g1 om ?_ | refine aD om ?_ | refine (bM _ (fun t ht => by have := hfa t ht; omega)).trans ?_)), trivial⟩)) ?_
 refine Fz.env (t := 25) (us := (tab 6 (fun t : Nat => ((kd2 ((six L1 L2 L3 L4 L5 L6) t).length, (six L1 L2 L3 L4 L5 L6) t) : Nat × List Int))).map gL) [(1, _), (2, _), (3, _), (4, _), (5, _), (11, _), (12, _), (13, _), (14, _), (17, _), (20, _), (23, _), (91, _), (92, _), (93, _), (94, _)] ⟨J, J, J, J, J, J, J, J, J, J, J, J, J, J, J, J, trivial⟩ J (fun _ r' o' hr e => by rw [e] at hr; have h0 : getH [(20, { cells := [.sl (kd ss.length) ((cpM ss).map stc)], sz := 1, elem := (26), st := 0 }), (0, { cells := [.sl k (ss.map stc)], sz := 1, elem := (26), st := 0 })] qb = none := (by repeat (first | rfl | refine gN om ?_ | refine cN om ?_)); cases hr.symm.trans h0) (by decide) (cP (f := gL) (n := 1) fun _ => rfl) (cD dgL) ?_
 refine aU J <| bA <| aP <| aQ J <| Ck [1,2,3,4,5,11,12,13,14,17,20,23,25] J <| aC <| Rg 22 J <| aA (aL (l := lvMo k ss) J J (by repeat (first | exact g0 | refine g1 om ?_ | refine aD om ?_)) J J) J ?_
 refine aA (aL (l := lvMo (kd ss.length) (cpM ss)) J J (by repeat (first | exact g0 | refine g1 om ?_ | refine aD om ?_)) J J) J ?_
 refine aA (aN J (ident_run k (kd ss.length) ss hs1 hs2) (bG (by intro c hc; simp only [List.mem_cons, List.not_mem_nil, or_false] at hc; rcases hc with rfl | rfl; exact dW; exact dW))) J <| aA (dV J) J <| Um J J <| aH J (dF J) J <| aH J (dF J) J <| aH J (bP (b := .v (.bool true)) (aN J (jJ kl (kd2 l.length) l l om) (bG (by intro c hc; simp only [List.mem_cons, List.not_mem_nil, or_false] at hc; rcases hc with rfl | rfl; exact .sl _ _ (cD iZ); exact .sl _ _ (cD iZ)))) (by exact congrArg (fun z => LV.v (.bool z)) (decide_eq_true J))) J <| aH J (dV J) J <| aA (bZ J J) J <| Um J J <| aH J (dF J) J <| aH J (dF J) J <| aH J (bP (b := .v (.bool true)) (aN J (jJ kL (kd2 L.length) L L om) (bG (by intro c hc; simp only [List.mem_cons, List.not_mem_nil, or_false] at hc; rcases hc with rfl | rfl; exact .sl _ _ (cD iZ); exact .sl _ _ (cD iZ)))) (by exact congrArg (fun z => LV.v (.bool z)) (decide_eq_true J))) J <| aH J (dV J) J <| aA (bZ J J) J <| Um J J <| aH J (dF J) J <| aH J (dF J) J <| aH J (bP (b := .v (.bool true)) (aN J (jJ ks (kd2 st.length) st st om) (bG (by intro c hc; simp only [List.mem_cons, List.not_mem_nil, or_false] at hc; rcases hc with rfl | rfl; exact .sl _ _ (cD iZ); exact .sl _ _ (cD iZ)))) (by exact congrArg (fun z => LV.v (.bool z)) (decide_eq_true J))) J <| aH J (dV J) J <| aA (bZ J J) J <| Nk [1,2,5,17,20,23,25,137] J <| aU J <| aG ?_
 refine Rg 11 J <| aA (aL (l := lvMo k ss) J J (by repeat (first | exact g0 | refine g1 om ?_ | refine aD om ?_)) J J) J ?_
 refine Um J J <| Um J J <| aA (bP (b := .tup [.sl (kd L1.length) (L1.map ic), .sl (kd L2.length) (L2.map ic), .v (.int .i64 (eA ss l pl))]) (aN J (jU k kl ss l pl hI ll) (bG (by intro c hc; simp only [List.mem_cons, List.not_mem_nil, or_false] at hc; rcases hc with rfl | rfl | rfl; exact dW; exact dW; exact .v _))) hvL1) J <| Um J J <| aA (cS J J) J <| aA (cS J J) J <| aA (cS J J) J <| Ua J J <| Ua J J <| Ua J J <| Nk [1,2,5,15,16,17,20,23,25,29] J <| Rg 11 J <| aA (aL (l := lvMo k ss) J J (by repeat (first | exact g0 | refine g1 om ?_ | refine aD om ?_)) J J) J ?_
 refine Um J J <| Um J J <| aA (bP (b := .tup [.sl (kd L3.length) (L3.map ic), .sl (kd L4.length) (L4.map ic), .v (.int .i64 (eA ss l pl))]) (aN J (pW k kl ss l pl hI ll) (bG (by intro c hc; simp only [List.mem_cons, List.not_mem_nil, or_false] at hc; rcases hc with rfl | rfl | rfl; exact dW; exact dW; exact .v _))) hvL3) J <| Um J J <| aA (cS J J) J <| aA (cS J J) J <| aA (cS J J) J <| Ua J J <| Ua J J <| Ua J J <| Nk [1,2,5,15,16,17,18,19,20,23,25,29,30] J <| Rg 11 J <| aA (aL (l := lvMo k ss) J J (by repeat (first | exact g0 | refine g1 om ?_ | refine aD om ?_)) J J) J ?_
 refine Um J J <| Um J J <| aA (bP (b := .tup [.sl (kd L5.length) (L5.map ic), .sl (kd L6.length) (L6.map ic), .v (.int .i64 (eA ss l pl))]) (aN J (mavoid_run k kl ss l pl hI ll) (bG (by intro c hc; simp only [List.mem_cons, List.not_mem_nil, or_false] at hc; rcases hc with rfl | rfl | rfl; exact dW; exact dW; exact .v _))) hvL5) J <| Um J J <| aA (cS J J) J <| aA (cS J J) J <| aA (cS J J) J <| Ua J J <| Ua J J <| Ua J J <| Nk [15,16,17,18,19,20,21,22,23,25,29,30,31] J <| Rg 28 J <| Um J J <| Um J J <| aA (bP (b := .v (.bool true)) (fF J J) (by exact congrArg (fun z => LV.v (.bool z)) (decide_eq_true J))) J <| Um J J <| aH J (dF J) J <| aH J (dF J) J <| aH J (bP (b := .v (.bool true)) (fF J J) (by exact congrArg (fun z => LV.v (.bool z)) (decide_eq_true J))) J <| aA (bS J J) J <| Um J J <| aH J (dF J) J <| aH J (dF J) J ?_
 refine aH J (bP (b := .v (.bool true)) (fF J J) (by exact congrArg (fun z => LV.v (.bool z)) (decide_eq_true J))) J <| aA (bS J J) J <| Um J J <| aH J (dF J) J <| aH J (dF J) J <| aH J (dF J) J <| aH J (dF J) J <| aH J (dF J) J <| aH J (dF J) J <| aH J (bP (b := .sl 2 ((tab 6 (fun t : Nat => ((kd ((six L1 L2 L3 L4 L5 L6) t).length, (six L1 L2 L3 L4 L5 L6) t) : Nat × List Int))).map gL)) (dK (cs := [_, _, _, _, _, _]) (rows := [[_], [_], [_], [_], [_], [_]]) J J (by decide) J J J) J) J <| aH J (dF J) J <| aH J (aN J (lists_run _ _ (tab 6 (fun t : Nat => ((kd ((six L1 L2 L3 L4 L5 L6) t).length, (six L1 L2 L3 L4 L5 L6) t) : Nat × List Int))) (tab 6 (fun t : Nat => ((kd2 ((six L1 L2 L3 L4 L5 L6) t).length, (six L1 L2 L3 L4 L5 L6) t) : Nat × List Int))) (by rw [bX]; omega) (by rw [bX, bX]) (fun t ht => by rw [bX] at ht; rw [iQ _ ht, iQ _ ht]) (fun r hr => by obtain ⟨t, _, rfl⟩ := rW.1 hr; have := (hsm t).1; show ((six L1 L2 L3 L4 L5 L6) t).length < _; omega)) (bG (by intro c hc; simp only [List.mem_cons, List.not_mem_nil, or_false] at hc; rcases hc with rfl | rfl; exact .sl _ _ (cD dgL); exact .sl _ _ (cD dgL)))) J <| aA (bS J J) J <| Um J J <| aH J (aN J (pM) dD) J <| aA (bS J J) J <| Ua J J <| Nk [10] J <| aK <| post (n := 0) (.inr J) J ?_ dD
 rfl
end Go.Proofs.Ytcblgjaomljikaa
