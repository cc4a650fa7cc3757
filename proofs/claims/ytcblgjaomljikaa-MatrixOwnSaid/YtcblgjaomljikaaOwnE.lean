/- Part E of the proof of matrixOwn_holds: what it rests on. No condition. -/
import Derived.Test.YtcblgjaomljikaaOwnD
set_option linter.unusedVariables false
set_option linter.unusedSimpArgs false
set_option maxRecDepth 100000
set_option maxHeartbeats 8000000
namespace Go.Proofs.Ytcblgjaomljikaa
open Go.Ab Go.RowKit
theorem len64_run (x : Nat) (hx : x < 65536) : Run Try.prog T E0 (.call 166 [.v (.int .u64 (x : Int))] (.v (.int .i64 ((blen x : Nat) : Int)))) := by
 refine bC Try.func166 J J (cW J) ?_
 have J10 : ∀ (y k : Nat) (hy : y < 256) (hk : k ≤ 24) (he : blen x = blen y + k) (n : Nat) , WC Try.prog T E0 Try.f166.ntmps (codeR (codeR (codeR (codeR (codeOf Try.f166))))) [(0, .v (.int .u64 (y : Int))), (2, .v (.int .i64 (k : Int)))] [] n (Post T Try.f166.results.toList (.v (.int .i64 ((blen x : Nat) : Int)))) := by
  intro y k hy hk he n
  have hyb := jA (n := 8) hy
  refine Rg 7 J <| Um J J <| Um J J <| aA (cI ((y : Int)) (bX J J J) (by rw [IntKind.wrap_u8]; omega)) J <| aA (cI (((blen y : Nat) : Int)) (oIxS (bs := tab8) (n := (y : Int)) J kR J om (tab8_get hy)) (congrArg Int.ofNat (tab8_val hy))) J <| aA (cI (((blen y : Nat) : Int)) (bX J J J) (by rw [IntWalk.i64_in _ om])) J <| aA (aQ J J om) J <| Ua J J <| Wn <| aK ?_
  exact post (n := 0) (.inr J) J (congrArg (fun z => LV.v (.int .i64 z)) om) (by simp)
 refine Rg 1 J <| Ua J J <| Wn <| aC <| Rg 2 J <| Um J J <| aA (lG J J) J <| aW (fun h4 => ?_) (fun h4 => ?_)
 ·omega
 refine Wn <| aR J <| aF <| aC <| Rg 2 J <| Um J J <| aA (lG J J) J <| aW (fun h8 => ?_) (fun h8 => ?_)
 ·omega
 refine Wn <| aR J <| aF <| aC <| Rg 2 J <| Um J J <| aA (lG J J) J <| aW (fun h14 => ?_) (fun h14 => ?_)
 rotate_left
 ·refine Wn <| aR J <| aF <| Ck [0,2] J ?_
  exact J10 x 0 om om J _
 refine Wn <| aV J <| aC <| Rg 3 J <| Um J J <| aA (cI (((x / 256 : Nat) : Int)) (eB (s := 8) J J om) om) J <| Ua J J <| Wn <| Rg 3 J <| Um J J <| aA (aQ J J om) J <| Ua J J <| Nk [0,2] J ?_
 exact J10 (x / 256) 8 om om (fK (x := x) (k := 8) om) _
theorem len_run (x : Nat) (hx : x < 65536) : Run Try.prog T E0 (.call 96 [.v (.int .u64 (x : Int))] (.v (.int .i64 ((blen x : Nat) : Int)))) := by
 refine bC Try.func96 J J (cW J) <| Rg 1 J <| Ua J J <| Wn <| aR J <| aF <| Rg 3 J <| Um J J <| aA (aE J (len64_run x hx) dD) J <| Ua J J <| Wn <| aK <| post (n := 0) (.inr J) J ?_ dD
 rfl
theorem qK (k : Nat) (a : List M1) (z : Int) (hI : IM a) (hF : Few8 a) : Run Try.prog T E0 (.call 30 [.sl k (a.map fM), .v (.int .i64 z)] (lvPow a z)) := by
 have l1 := hF.ln
 have l2 : ∀ r, r ∈ a → r.2.length < 1099511627776 := fun r hr => by have := hF.lr r hr; omega
 refine bC Try.func30 J J (cW J) <| Rg 2 J <| Ua J J <| Ua J J <| Wn <| aG <| Rg 4 J <| Um J J <| aA (aE J (bV k a hI om (fun r hr => by have := l2 r hr; omega)) dD) J <| dM (fun h11 => ?_) (fun h11 => ?_)
 rotate_left
 ·refine aA (bZ J) J <| Ua J J <| Wn <| bI J <| Rg 2 J <| Ua J J <| Ua J J <| Wn <| aK <| aO <| post (n := 0) (.inr J) J ?_ dD
  rw [lvPow_no1 h11]; rfl
 refine aA (bZ J) J <| Ua J J <| Wn <| bH J <| Rg 4 J <| Um J J <| aA (aE J (eL k a) dD) J <| dM (fun h15 => ?_) (fun h15 => ?_)
 rotate_left
 ·refine aA (bZ J) J <| Ua J J <| Wn <| bI J <| Rg 2 J <| Ua J J <| Ua J J <| Wn <| aK <| aO <| post (n := 0) (.inr J) J ?_ dD
  rw [lvPow_no2 h11 h15]; rfl
 refine aA (bZ J) J <| Ua J J <| Wn <| bH J <| Rg 7 J <| Um J J <| aA (bS J J) J <| aW (fun h19 => ?_) (fun h19 => ?_)
 ·refine Um J J <| K1 J J <| K1 J J <| aA (cG J J) J <| Ua J J <| Nk [0,1,17] J <| bI J <| Rg 2 J <| Ua J J <| Ua J J <| Wn <| aK <| aO <| post (n := 0) (.inr J) J ?_ dD
  rw [lvPow_no3 h11 h15 om]; rfl
 refine Um J J <| aJ J (cR J) J <| aJ J (fU J J) J <| aW (fun h22 => ?_) (fun h22 => ?_)
 ·refine aA (cD J J) J <| Ua J J <| Nk [0,1,17] J <| bI J <| Rg 2 J <| Ua J J <| Ua J J <| Wn <| aK <| aO <| post (n := 0) (.inr J) J ?_ dD
  rw [lvPow_no3 h11 h15 om]; rfl
 refine aA (cD J J) J <| Ua J J <| Nk [0,1,17] J <| bH J <| bJ <| aD ?_
 obtain ⟨f1, f2⟩ := VM.facts h11
 have hvn : ∀ r, r ∈ a → ∀ x, x ∈ r.2 → VN x := fun r hr => (f2 r hr).2.2
 have hw8 := iG h11 hF
 have hsq := qS h15
 have hmr := cE k a om hI (fun r hr x hx => by have := (hvn r hr x hx).1; omega) l2
 obtain ⟨al, hal⟩ : ∃ al, al = a.map nxr := ⟨_, rfl⟩
 have hl8 : al.length = a.length := by rw [hal]; simp
 have hvm : vX al = vM a := by rw [hal]; exact eP a
 rw [← hal] at hmr
 have hvl : (vM a).length = a.length := by simp [vM]
 have hvw : Wid a.length (vM a) := by rw [← hsq]; exact iJ h11
 obtain ⟨hpb, hqb⟩ := pw_bd (iF h11) hvl hvw om
 obtain ⟨m, rfl⟩ : ∃ m : Nat, z = m := ⟨z.toNat, om⟩
 have hun : vX ((List.range a.length).map fun i => (((1 : Nat), uX a.length i) : X1)) = unitR a.length := by
  unfold vX unitR; rw [List.map_map]; exact List.map_congr_left fun j _ => uX_v _ _
 refine Rg 3 J <| Um J J <| aA (aE J (hmr) dD) J <| Ua J J <| Wn <| Rg 4 J <| Um J J <| aA (cI ((a.length : Int)) (aX J J) (by simp)) J <| aA (aE J (kC a.length om) dD) J <| Ua J J <| Wn <| aC <| Rg 4 J <| Um J J <| aA (cI ((m : Int)) (bX J J J) (by rw [IntKind.wrap_u64]; omega)) J <| aA (aE J (len_run m om) dD) J <| Um J J <| Wn <| aG <| aY (α := Nat × Nat × Nat × (List X1) × (List X1)) (fun ⟨i, kx, ko, xs, os⟩ => [(1, .v (.int .i64 (m : Int))), (6, .sl kx (xs.map fX)), (7, .sl ko (os.map fX)), (31, .v (.int .i64 ((blen m : Nat) : Int))), (32, .v (.int .i64 (i : Int)))]) (fun ⟨i, kx, ko, xs, os⟩ => []) (fun ⟨i, kx, ko, xs, os⟩ n => i ≤ blen m ∧ (i < blen m → vX xs = sqm (vM a) a.length i) ∧ vX os = pw (vM a) a.length (m % 2 ^ i)) (fun ⟨i, kx, ko, xs, os⟩ => blen m - i) (0, _, _, al, ((List.range a.length).map fun i => (((1 : Nat), uX a.length i) : X1))) ⟨J, J, J, J, J, trivial⟩ trivial ⟨Nat.zero_le _, fun _ => hvm, by rw [Nat.pow_zero, Nat.mod_one]; exact hun⟩ ?_
 rintro ⟨i, kx, ko, xs, os⟩ n hF
 change WC _ _ _ _ _ (_ :: _) ([]) n _
 obtain ⟨hi, hxs, hos⟩ := hF
 refine Rg 1 J <| aA (bS J J) J <| aW (fun h33 => ?_) (fun h33 => ?_)
 rotate_left
 ·refine Wn <| aR J <| aT <| aP <| aN J ?_
  have hos2 : vX os = pw (vM a) a.length m := by rw [hos, show i = blen m by omega, Nat.mod_eq_of_lt (blen_lt m)]
  have hol : os.length = a.length := by have := congrArg List.length hos2; rw [bQ, nU] at this; exact this
  have how := iK (lS (vM a) a.length m) hos2
  refine Rg 6 J <| Um J J <| aA (aS (b := lvOM (powO a m)) (aE J (gT ko os om (fun r hr => by have := how r hr; omega)) dD) (by rw [iD, hos2]; rfl)) J <| aA (bU J J) J <| aA (bU J J) J <| Ua J J <| Ua J J <| Wn <| aK <| post (n := 0) (.inr J) J ?_ dD
  rw [lvPow_ok h11 h15 om om]; rfl
 refine Wn <| aV J <| aF <| aG ?_
 have hol : os.length = a.length := by have := congrArg List.length hos; rw [bQ, nU] at this; exact this
 have how := iK (lS (vM a) a.length (m % 2 ^ i)) hos
 have hob : ∀ r, r ∈ os → ∀ x, x ∈ r.2 → Bd 131001 x.1 := fun r hr x hx => hpb (m % 2 ^ i) (by have := Nat.mod_le m (2 ^ i); omega) (r.2.map (·.1)) (by rw [← hos]; exact List.mem_map.2 ⟨r, hr, rfl⟩) x.1 (List.mem_map.2 ⟨x, hx, rfl⟩)
 have hb10 := jA (x := m) (n := 10) om
 have hxv := hxs om
 have hxl : xs.length = a.length := by have := congrArg List.length hxv; rw [bQ, lF hvl] at this; exact this
 have hxw := iK (nA hvw i) hxv
 have hxb : ∀ r, r ∈ xs → ∀ x, x ∈ r.2 → Bd 131001 x.1 := fun r hr x hx => hqb i om (r.2.map (·.1)) (by rw [← hxv]; exact List.mem_map.2 ⟨r, hr, rfl⟩) x.1 (List.mem_map.2 ⟨x, hx, rfl⟩)
 have hwx := wdx_of hxl hxw
 have hstep := mod_step m i
 refine Rg 2 J <| Um J J <| Ua J J <| Wn <| aC <| Rg 5 J <| Um J J <| Um J J <| aA (oShrI (m := m) (s := i) J J om) J <| aA (eW (a := ((m / 2 ^ i : Nat) : Int)) (b := 1) J J (and1I (by have := Nat.div_le_self m (2 ^ i); omega))) J <| aA (fR J J) J <| aW (fun h39 => ?_) (fun h39 => ?_)
 rotate_left
 ·refine Wn <| aR J <| aF ?_
  have hos2 : vX os = pw (vM a) a.length (m % 2 ^ (i + 1)) := by rw [hos, hstep, show m / 2 ^ i % 2 = 0 by omega, Nat.mul_zero, Nat.add_zero]
  refine Rg 5 J <| Um J J <| Um J J <| aA (cI (((i + 1 : Nat) : Int)) (aQ J J om) om) J <| aA (oShrI (m := m) (s := i + 1) J J om) J <| aA (fU J J) J <| aW (fun h47 => ?_) (fun h47 => ?_)
  rotate_left
  ·refine Nk [1,6,7,31,32,47] J <| bH J <| bJ <| aD <| aI (z := 2) J <| aA (cI (((i + 1 : Nat) : Int)) (aQ J J om) om) J <| Um J J <| Wn <| aH <| ⟨⟨i + 1, _, _, xs, os⟩, ⟨J, J, J, J, J, trivial⟩, trivial, ⟨om, fun h => absurd (kW h) om, hos2⟩, by show blen m - (i + 1) < blen m - i; omega⟩
  refine Nk [1,6,7,31,32,47] J <| bI J ?_
  obtain ⟨r2, hr2, rows2, rfl, hrows2⟩ := gF kx kx xs xs 131001 131001 om om om (fun r hr => by rw [hwx]; exact hxw r hr) (fun r hr => by rw [hxl]; exact hxw r hr) hxb hxb (by decide) om
  have hx2 : vX rows2 = sqm (vM a) a.length (i + 1) := by rw [hrows2, hxv, hwx]; rfl
  refine aI (z := 4) J <| Um J J <| Um J J <| aA (aE J (hr2) dD) J <| Ua J J <| Wn <| aD <| aI (z := 2) J <| aA (cI (((i + 1 : Nat) : Int)) (aQ J J om) om) J <| Um J J <| Wn <| aH <| ⟨⟨i + 1, _, _, rows2, os⟩, ⟨J, J, J, J, J, trivial⟩, trivial, ⟨om, fun _ => hx2, hos2⟩, by show blen m - (i + 1) < blen m - i; omega⟩
 refine Wn <| aV J ?_
 obtain ⟨r, hr, rows, rfl, hrows⟩ := gF ko kx os xs 131001 131001 om om om (fun r hr => by rw [hwx]; exact hxw r hr) (fun r hr => by rw [hxl]; exact how r hr) hob hxb (by decide) om
 have hos2 : vX rows = pw (vM a) a.length (m % 2 ^ (i + 1)) := by
  rw [hrows, hos, hxv, hwx, pw_sq hvl hvw i, hstep, show m / 2 ^ i % 2 = 1 by omega, Nat.mul_one]
 refine Rg 4 J <| Um J J <| Um J J <| aA (aE J (hr) dD) J <| Ua J J <| Nk [1,6,7,8,31,32] J <| Rg 5 J <| Um J J <| Um J J <| aA (cI (((i + 1 : Nat) : Int)) (aQ J J om) om) J <| aA (oShrI (m := m) (s := i + 1) J J om) J <| aA (fU J J) J <| aW (fun h47 => ?_) (fun h47 => ?_)
 rotate_left
 ·refine Wn <| bH J <| bJ <| aD <| aI (z := 2) J <| aA (cI (((i + 1 : Nat) : Int)) (aQ J J om) om) J <| Um J J <| Wn <| aH <| ⟨⟨i + 1, _, _, xs, rows⟩, ⟨J, J, J, J, J, trivial⟩, trivial, ⟨om, fun h => absurd (kW h) om, hos2⟩, by show blen m - (i + 1) < blen m - i; omega⟩
 refine Wn <| bI J ?_
 obtain ⟨r2, hr2, rows2, rfl, hrows2⟩ := gF kx kx xs xs 131001 131001 om om om (fun r hr => by rw [hwx]; exact hxw r hr) (fun r hr => by rw [hxl]; exact hxw r hr) hxb hxb (by decide) om
 have hx2 : vX rows2 = sqm (vM a) a.length (i + 1) := by rw [hrows2, hxv, hwx]; rfl
 refine aI (z := 4) J <| Um J J <| Um J J <| aA (aE J (hr2) dD) J <| Ua J J <| Wn <| aD <| aI (z := 2) J <| aA (cI (((i + 1 : Nat) : Int)) (aQ J J om) om) J <| Um J J <| Wn <| aH <| ⟨⟨i + 1, _, _, rows2, rows⟩, ⟨J, J, J, J, J, trivial⟩, trivial, ⟨om, fun _ => hx2, hos2⟩, by show blen m - (i + 1) < blen m - i; omega⟩
end Go.Proofs.Ytcblgjaomljikaa
set_option maxHeartbeats 16000000
namespace Go.Proofs.Ytcblgjaomljikaa
open Go.Ab Go.RowKit
theorem nouts_own (n0 : Nat) (k : Nat) (ns : List X) (ln : ns.length < 1099511627776) : WC Try.prog T E0 Try.f93.ntmps (codeOf Try.f93) (argsEnv 0 [.sl k (ns.map xc)]) [] n0 (fun x e' h' n' => (x = .normal ∨ x = .ret) ∧ n0 ≤ n' ∧ ∃ q, resE e' T h' Try.f93.results.toList = some [outV q 2 (((ns.mapM (fun x : X => outN x.1)).getD []).map mc), .v (.int .i64 (if ((ns.mapM (fun x : X => outN x.1))).isSome = true then (0 : Int) else 3))] ∧ n0 ≤ q ∧ q < n' ∧ ((ns.mapM (fun x : X => outN x.1)).getD [] ≠ [] → getH h' q = some { cells := ((((ns.mapM (fun x : X => outN x.1))).getD []).map mc).flatten, sz := 2, elem := (28), st := 0 })) := by
 change WC _ _ _ _ _ [(0, .sl k (ns.map xc))] _ _ _
 refine Rg 2 J <| Ua J J <| Ua J J <| Wn <| Rg 1 J <| Ua J J <| Wn <| aC <| Rg 3 J <| Um J J <| aA (aX J J) J <| Um J J <| Wn <| aG <| aY (α := Nat × Nat × (List NM)) (fun ⟨i, q, ds⟩ => [(4, outV q 2 (ds.map mc)), (9, .sl k (ns.map xc)), (10, .v (.int .i64 (ns.length : Int))), (11, .v (.int .i64 (i : Int)))]) (fun ⟨i, q, ds⟩ => outH q 2 (28) (ds.map mc) []) (fun ⟨i, q, ds⟩ n => i ≤ ns.length ∧ (ns.take i).mapM (fun x : X => outN x.1) = some ds ∧ ds.length = i ∧ n0 ≤ q ∧ q < n) (fun ⟨i, q, ds⟩ => ns.length - i) (0, n0, []) ⟨J, J, J, J, trivial⟩ trivial ⟨Nat.zero_le _, by simp, rfl, om, om⟩ ?_
 rintro ⟨i, q, ds⟩ n hF
 change WC _ _ _ _ _ (_ :: _) (outH _ _ _ _ _) n _
 obtain ⟨hi, hds, hdl, hq0, hq⟩ := hF
 refine Rg 1 J <| aA (bS J J) J <| aW (fun h12 => ?_) (fun h12 => ?_)
 rotate_left
 ·refine Wn <| aR J <| aT <| aP <| aN J <| Rg 3 J <| Um J J <| Ua J J <| Ua J J <| Wn <| aK ?_
  rw [List.take_of_length_le om] at hds
  refine ⟨.inr J, om, q, ?_, hq0, om, fun h => ?_⟩
  ·rw [hds]; rfl
  ·rw [hds] at h ⊢
   have h3 : ds ≠ [] := h
   show getH (outH q 2 (28) (ds.map mc) []) q = some (obN (28) ds)
   rw [fA (fun h2 => h3 (List.map_eq_nil_iff.1 h2))]
   exact g0
 refine Wn <| aV J <| aF <| aG <| Rg 4 J <| aA (bY J J J J J om J) J <| aA (dQ (l := .agg [_, _, _, _]) J J J) J <| bL (gM J) J <| bB (dH (cs' := [_, _, _, _]) J J J g0 J J J J) <| Wn <| Rg 8 J <| aA (bF (l := .agg [_, _, _, _]) J J g0 J J) J <| aA (aS (b := .tup [lvM ((outN (ns.getD i default).1).getD (0, 0)), .v (.int .i64 (if (outN (ns.getD i default).1).isSome = true then 0 else 3))]) (aE J (kD (ns.getD i default)) dD) (by rw [lvO_eq])) J <| Um J J <| aA (bU J J) J <| aA (bU J J) J <| bL (gM J) J <| bB (dH (cs' := [_, _]) J J J g0 J J J J) <| Ua J J <| Nk [4,7,8,9,10,11] J <| aC <| Rg 2 J <| Um J J ?_
 refine aA (eG J J) J <| aW (fun h21 => ?_) (fun h21 => ?_)
 ·refine Wn <| aV J <| aC ?_
  have hno2 : (outN (ns.getD i default).1) = none := by
   cases ho : (outN (ns.getD i default).1) with
   | none => rfl
   | some _ => rw [ho] at h21; exact absurd rfl h21
  have hno : (ns.mapM (fun x : X => outN x.1)) = none := pF (i := i) om hno2
  refine Rg 3 J <| Um J J <| Ua J J <| Ua J J <| Wn <| bM <| aO <| cZ <| aO <| ⟨.inr J, om, q, ?_, hq0, om, fun h => absurd (by rw [hno]; rfl) h⟩
  rw [hno]
  first | rfl | (rw [hno2]; rfl)
 refine Wn <| aR J <| aF ?_
 obtain ⟨o, ho⟩ : ∃ o, (outN (ns.getD i default).1) = some o := by
  cases ho : (outN (ns.getD i default).1) with
  | none => rw [ho] at h21; exact absurd (by decide) h21
  | some o => exact ⟨o, rfl⟩
 refine aI (z := 5) J <| Um J J <| aA (aS (b := lvM o) (bF (l := .agg [_, _]) J J g0 J J) (by simp only [ho, Option.getD_some]; rfl)) J <| aA (dJ (cs := [_, _]) (rows := [[_, _]]) J J (by decide) J J J) J <| jS _ (subsM.get (gC (q := q) (sz := 2) (el := (28)) (us := ds.map mc) (h := []) (fun hne => by rw [fA hne]; repeat (first | exact g0 | refine g1 om ?_)) trivial)) ?_
 refine fJ (te := ti28) (f := mc) (q := q) (us := ds) (u := o) J J J J J (fun _ => rfl) (by decide) (by show (2 * (ds.length + 1) + 256) * 16 ≤ _; omega) om (by repeat (first | rfl | refine gN om ?_)) (by repeat (first | rfl | refine gN om ?_)) J ?_
 refine Ua J J <| Wn <| aD <| aI (z := 2) J <| aA (cI (((i + 1 : Nat) : Int)) (aQ J J om) om) J <| Um J J <| Wn <| aH <| ⟨⟨i + 1, _, ds ++ [o]⟩, ⟨J, J, J, J, trivial⟩, dT, ⟨om, kU hds om ho, by simp; omega, om, om⟩, by show ns.length - (i + 1) < ns.length - i; omega⟩
end Go.Proofs.Ytcblgjaomljikaa
namespace Go.Proofs.Ytcblgjaomljikaa
open Go.Ab Go.RowKit
theorem fam_both {h' : Hp} {a : Nat → Nat} {es : List (List NM)} {q i n m n0 : Nat} (hfa : ∀ t, t < i → n0 ≤ a t ∧ a t < n ∧ a t ≠ q) (ho : ∀ t x, opN (28) (es.getD t []) = some x → es.getD t [] ≠ []) (hl : es.length = i) (hq : q < n) (hm : n ≤ m) : Both m (appH [] (famH a (fun t => opN (28) (es.getD t [])) (outH q 1 (41) (rwC a es) []) i)) h' (famH a (fun t => opN (28) (es.getD t [])) (outH q 1 (41) (rwC a es) []) i) := .old (fun r o hr => by
 apply Classical.byContradiction
 intro hn
 have hr2 := (dW (a := a) (o := fun t => opN (28) (es.getD t [])) (h := outH q 1 (41) (rwC a es) []) (q := r) i (fun t ht => by have := hfa t ht; omega)).symm.trans hr
 rw [dA om rfl] at hr2
 cases hr2)
theorem mouts_own (n0 : Nat) (k : Nat) (ns : List X1) (ln : ns.length < 1099511627776) (lr : ∀ r, r ∈ ns → r.2.length < 1099511627776) : WC Try.prog T E0 Try.f88.ntmps (codeOf Try.f88) (argsEnv 0 [.sl k (ns.map fX)]) [] n0 (fun x e' h' n' => (x = .normal ∨ x = .ret) ∧ n0 ≤ n' ∧ ∃ (q : Nat) (a : Nat → Nat), resE e' T h' Try.f88.results.toList = some [outV q 1 (rwC a ((ns.mapM fun r : X1 => r.2.mapM fun x : X => outN x.1).getD [])), .v (.int .i64 (if ((ns.mapM fun r : X1 => r.2.mapM fun x : X => outN x.1)).isSome = true then (0 : Int) else 3))] ∧ OwnM h' (41) (28) n0 n' q a ((ns.mapM fun r : X1 => r.2.mapM fun x : X => outN x.1).getD [])) := by
 change WC _ _ _ _ _ [(0, .sl k (ns.map fX))] _ _ _
 refine Rg 2 J <| Ua J J <| Ua J J <| Wn <| Rg 1 J <| Ua J J <| Wn <| aC <| Rg 3 J <| Um J J <| aA (aX J J) J <| Um J J <| Wn <| aG <| aY (α := Nat × Nat × (List (List NM)) × (Nat → Nat)) (fun ⟨i, q, es, a⟩ => [(4, outV q 1 (rwC a es)), (9, .sl k (ns.map fX)), (10, .v (.int .i64 (ns.length : Int))), (11, .v (.int .i64 (i : Int)))]) (fun ⟨i, q, es, a⟩ => famH a (fun t => opN (28) (es.getD t [])) (outH q 1 (41) (rwC a es) []) i) (fun ⟨i, q, es, a⟩ n => i ≤ ns.length ∧ (ns.take i).mapM (fun r : X1 => r.2.mapM fun x : X => outN x.1) = some es ∧ es.length = i ∧ n0 ≤ q ∧ q < n ∧ (∀ t, t < i → n0 ≤ a t ∧ a t < n ∧ a t ≠ q) ∧ ∀ s t, s < i → t < i → a s = a t → s = t) (fun ⟨i, q, es, a⟩ => ns.length - i) (0, n0, [], fun _ => 0) ⟨J, J, J, J, trivial⟩ trivial ⟨Nat.zero_le _, by simp, rfl, om, om, fun t ht => absurd ht om, fun s t hs => absurd hs om⟩ ?_
 rintro ⟨i, q, es, a⟩ n hF
 change WC _ _ _ _ _ [(4, outV q 1 (rwC a es)), (9, .sl k (ns.map fX)), (10, .v (.int .i64 (ns.length : Int))), (11, .v (.int .i64 (i : Int)))] (famH a (fun t => opN (28) (es.getD t [])) (outH q 1 (41) (rwC a es) []) i) n _
 obtain ⟨hi, hes, hlen, hq0, hq, hfa, hinj⟩ := hF
 refine Rg 1 J <| aA (bS J J) J <| aW (fun h12 => ?_) (fun h12 => ?_)
 rotate_left
 ·refine Wn <| aR J <| aT <| aP <| aN J <| Rg 3 J <| Um J J <| Ua J J <| Ua J J <| Wn <| aK ?_
  rw [List.take_of_length_le om] at hes
  refine ⟨.inr J, om, q, a, by rw [hes]; rfl, ?_⟩
  rw [hes]
  refine ⟨hq0, om, fun t ht => by have := hfa t (by rw [← hlen]; exact ht); omega, fun s t hs ht e => hinj s t (by rw [← hlen]; exact hs) (by rw [← hlen]; exact ht) e, fun hne => ?_, fun t ht hne => ?_⟩
  ·refine (dW _ (fun t ht => by have := hfa t ht; omega)).trans ?_
   have h3 : rwC a es ≠ [] := fun h => hne (List.eq_nil_of_length_eq_zero (by show es.length = 0; rw [← iE a es, h]; rfl))
   rw [fA h3]; exact g0
  ·exact kA _ (by rw [← hlen]; exact ht) (opN_ne hne) (fun s hs e => hinj s t hs (by rw [← hlen]; exact ht) e)
 refine Wn <| aV J <| aF <| aG <| Rg 3 J <| aA (bY J J J J J om J) J <| aA (dQ (l := .sl (ns.getD i default).1 ((ns.getD i default).2.map xc)) J J J) J <| Ua J J <| cM ?_
 have hm := bD (us := ns) (i := i) om
 refine dE (z := 7) J <| bR (cR J) J <| WN.F (cal := .func 93) (first := []) (cap := []) (ls := [.sl (ns.getD i default).1 ((ns.getD i default).2.map xc)]) (as_ := [.sl (ns.getD i default).1 ((ns.getD i default).2.map xc)]) (Φ := fun r h' n' => ∃ b, r = .tup [outV b 2 ((((ns.getD i default).2.mapM fun x : X => outN x.1).getD []).map mc), .v (.int .i64 (if (((ns.getD i default).2.mapM fun x : X => outN x.1)).isSome = true then (0 : Int) else 3))] ∧ n + 1 + 3 + 7 ≤ b ∧ b < n' ∧ n + 1 + 3 + 7 ≤ n' ∧ ((((ns.getD i default).2.mapM fun x : X => outN x.1).getD []) ≠ [] → getH h' b = some { cells := ((((ns.getD i default).2.mapM fun x : X => outN x.1).getD []).map mc).flatten, sz := 2, elem := (28), st := 0 })) [] J J (iA (ls := [.sl (ns.getD i default).1 ((ns.getD i default).2.map xc)]) (bA (by intro c hc; simp only [List.mem_cons, List.not_mem_nil, or_false] at hc; rcases hc with rfl; exact (.sl _ _ fun row hr => aU rD row hr)))) (by intro p hp; cases hp) Try.func93 J J (cW J) J ((nouts_own (n + 1 + 3 + 7) (ns.getD i default).1 (ns.getD i default).2 (lr _ hm)).mono (by rintro x e h n' ⟨hx, h1, q, hr, h2, h3, h4⟩; exact ⟨hx, _, hr, q, rfl, h2, h3, h1, h4⟩)) ?_
 rintro r h' n1 ⟨b, rfl, hb0, hb1, hn1, hgb⟩
 refine ⟨outH b 2 (28) ((((ns.getD i default).2.mapM fun x : X => outN x.1).getD []).map mc) (famH a (fun t => opN (28) (es.getD t [])) (outH q 1 (41) (rwC a es) []) i), ?_, ?_⟩
 ·cases hro : (((ns.getD i default).2.mapM fun x : X => outN x.1).getD []) with
  | nil => exact fam_both hfa (fun t x hx => (mK hx).1) hlen om om
  | cons u us => exact .cons (.inr ⟨hb0, by rw [hro] at hgb; exact hgb (by simp)⟩) (fam_both hfa (fun t x hx => (mK hx).1) hlen om om)
 refine bR (cR J) J <| bR (bU J J) J <| bR (bU J J) J <| bR (fV J) J <| bR (fV J) J <| dV <| Ck [4,7,8,9,10,11] J <| aC <| Rg 2 J <| Um J J <| aA (eG J J) J <| aW (fun h21 => ?_) (fun h21 => ?_)
 ·refine Wn <| aV J <| aC ?_
  have hno2 : ((ns.getD i default).2.mapM fun x : X => outN x.1) = none := by
   cases ho : ((ns.getD i default).2.mapM fun x : X => outN x.1) with
   | none => rfl
   | some _ => rw [ho] at h21; exact absurd rfl h21
  have hno : (ns.mapM fun r : X1 => r.2.mapM fun x : X => outN x.1) = none := pF (i := i) om hno2
  refine Rg 3 J <| Um J J <| Ua J J <| Ua J J <| Wn <| bM <| aO <| cZ <| aO <| ⟨.inr J, om, q, a, ?_, ?_⟩
  ·rw [hno]
   first | rfl | (rw [hno2]; rfl)
  ·rw [hno]; exact .nil hq0 om
 refine Wn <| aR J <| aF ?_
 obtain ⟨o, ho⟩ : ∃ o, ((ns.getD i default).2.mapM fun x : X => outN x.1) = some o := by
  cases ho : ((ns.getD i default).2.mapM fun x : X => outN x.1) with
  | none => rw [ho] at h21; exact absurd (by decide) h21
  | some o => exact ⟨o, rfl⟩
 rw [show (((ns.getD i default).2.mapM fun x : X => outN x.1).getD []) = o by rw [ho]; rfl]
 refine aI (z := 5) J <| Um J J <| aA (aS (b := outV b 2 (o.map mc)) (cR J) J) J <| aA (dJ (cs := [outV b 2 (o.map mc)]) (rows := [[outV b 2 (o.map mc)]]) J J (by decide) J (by generalize o.map mc = z; cases z <;> rfl) J) J <| jS _ (subsM.get (gC (q := q) (sz := 1) (el := (41)) (us := rwC a es) (h := outH b 2 (28) (o.map mc) (famH a (fun t => opN (28) (es.getD t [])) ([]) i)) (fun hne => by rw [fA hne]; repeat (first | exact g0 | refine g1 om ?_ | refine aM om ?_ | refine (dW _ (fun t ht => by have := hfa t ht; omega)).trans ?_)) (gC (fun hne => by rw [fA hne]; repeat (first | exact g0 | refine g1 om ?_ | refine aM om ?_ | refine (dW _ (fun t ht => by have := hfa t ht; omega)).trans ?_)) (lT _ (fun t ht x hx => by have := hfa t ht; repeat (first | exact kA _ ht hx (fun s hs e => hinj s t hs ht e) | refine g1 om ?_ | refine aM om ?_)) trivial)))) ?_
 refine WO.ap (te := ti41) (q := q) (us := rwC a es) J J J J J (by decide) (by intro r hr; rw [List.mem_singleton] at hr; subst hr; rfl) rwC_row (by simp) (by rw [iE, hlen]; show (2 * (i + 1) + 256) * 24 ≤ _; omega) (by rw [iE, hlen]; show i + 1 < _; omega) (by repeat (first | rfl | refine gN om ?_ | refine dA om ?_ | refine (dW _ (fun t ht => by have := hfa t ht; omega)).trans ?_)) (by repeat (first | rfl | refine gN om ?_ | refine dA om ?_ | refine (dW _ (fun t ht => by have := hfa t ht; omega)).trans ?_)) J ?_
 refine Ua J J <| Wn <| aD <| aI (z := 2) J <| aA (cI (((i + 1 : Nat) : Int)) (aQ J J om) om) J <| Um J J <| Wn <| aH ?_
 have ea := rwC_snoc (a := a) (o := o) (b := b) hlen
 refine ⟨⟨i + 1, n1 + 2 + 3, es ++ [o], fun t => if t = i then b else a t⟩, ⟨congrArg some (by rw [ea]; rfl), rfl, rfl, rfl, trivial⟩, ?_, ⟨om, kU hes om ho, by rw [List.length_append, hlen]; rfl, om, om, fun t ht => ?_, fun s t hs ht e => ?_⟩, by show ns.length - (i + 1) < ns.length - i; omega⟩
 ·dsimp only
  rw [ea]
  refine lT _ (fun t ht x hx => ?_) (gC (fun hne => by rw [fA hne]; repeat (first | exact g0 | refine g1 om ?_ | refine aM om ?_ | refine (dW _ (fun t ht => by have := hfa t ht; omega)).trans ?_)) trivial)
  rw [getD_snoc hlen] at hx
  by_cases e : t = i
  ·rw [if_pos e] at hx ⊢
   obtain ⟨h1, rfl⟩ := mK hx
   refine aM om ?_
   rw [fA (fun h2 => h1 (List.map_eq_nil_iff.1 h2))]
   exact g0
  ·rw [if_neg e] at hx ⊢
   have ht' : t < i := by omega
   have := hfa t ht'
   repeat (first | exact kA _ ht' hx (fun s hs e => hinj s t hs ht' e) | refine g1 om ?_ | refine aM om ?_)
 ·dsimp only
  by_cases e : t = i
  ·rw [if_pos e]; omega
  ·rw [if_neg e]; have := hfa t om; omega
 ·dsimp only at e
  by_cases e1 : s = i <;> by_cases e2 : t = i
  ·omega
  ·rw [if_pos e1, if_neg e2] at e; have := hfa t om; omega
  ·rw [if_neg e1, if_pos e2] at e; have := hfa s om; omega
  ·rw [if_neg e1, if_neg e2] at e; exact hinj s t om om e
end Go.Proofs.Ytcblgjaomljikaa
namespace Go.Proofs.Ytcblgjaomljikaa
open Go.Ab Go.RowKit
theorem nouts_F (n0 lo k : Nat) (ns : List X) (o : List NM) (ln : ns.length < 1099511627776) (hlo : lo ≤ n0) (ho : (ns.mapM fun x : X => outN x.1) = some o) : WC Try.prog T E0 Try.f93.ntmps (codeOf Try.f93) (argsEnv 0 [.sl k (ns.map xc)]) [] n0 (fun x e' h' n' => (x = .normal ∨ x = .ret) ∧ ∃ ls', resE e' T h' Try.f93.results.toList = some ls' ∧ PhiN (28) lo n0 o 0 (resultLV ls') h' n') := by
 refine (nouts_own n0 k ns ln).mono ?_
 rintro x e h n ⟨hx, h1, q, hr, h2, h3, h4⟩
 rw [ho] at hr h4
 exact ⟨hx, _, hr, q, rfl, h1, om, h3, fun h => ⟨h2, h4 h⟩⟩
theorem pH (n0 lo k : Nat) (ns : List X1) (o : List (List NM)) (ln : ns.length < 1099511627776) (lr : ∀ r, r ∈ ns → r.2.length < 1099511627776) (hlo : lo ≤ n0) (ho : (ns.mapM fun r : X1 => r.2.mapM fun x : X => outN x.1) = some o) : WC Try.prog T E0 Try.f88.ntmps (codeOf Try.f88) (argsEnv 0 [.sl k (ns.map fX)]) [] n0 (fun x e' h' n' => (x = .normal ∨ x = .ret) ∧ ∃ ls', resE e' T h' Try.f88.results.toList = some ls' ∧ PhiM (41) (28) lo n0 o 0 (resultLV ls') h' n') := by
 refine (mouts_own n0 k ns ln lr).mono ?_
 rintro x e h n ⟨hx, h1, q, a, hr, h2⟩
 rw [ho] at hr h2
 exact ⟨hx, _, hr, q, a, rfl, h1, h2.mono hlo (Nat.le_refl _) (fun r o _ _ h => h), fun _ => h2⟩
end Go.Proofs.Ytcblgjaomljikaa
namespace Go.Proofs.Ytcblgjaomljikaa
open Go.Ab Go.RowKit
theorem cpn_run (k : Nat) (ns : List NM) (ln : ns.length < 1099511627776) : Run Try.prog T E0 (.call 27 [.sl k (ns.map mc)] (.sl (kd2 ns.length) (ns.map mc))) := by
 refine bC Try.func27 J J (cW J) <| Rg 1 J <| Ua J J <| Wn <| kO (z := 4) J <| aA (dJ (cs := []) (rows := []) J J (by decide) J J J) J <| Um J J <| WO.apD (te := ti28) (rows := ns.map mc) J J J J J (by decide) (bK (f := mc) (n := 2) fun _ => rfl) (by rw [List.length_map]; show (2 * (0 + ns.length) + 256) * 16 ≤ _; omega) (by rw [List.length_map]; omega) J <| Ua J J <| Wn <| Fz.env2 (t := 2) (us := ns.map mc) [] trivial J (fun _ r o hr => by simp [getH] at hr) (by decide) (bK (f := mc) (n := 2) fun _ => rfl) (aU pU) <| aK ?_
 rw [List.length_map]
 refine post (n := 0) (.inr J) J ?_ (.sl _ _ fun row hr => aU pU row hr)
 rfl
theorem cpn_G (n0 q : Nat) (H : Hp) (L : List NM) (ll : L.length < 1099511627776) (hlt : ∀ r o, getH H r = some o → r < n0) (hg : L ≠ [] → getH H q = some (obN (28) L)) : WC Try.prog T E0 Try.f27.ntmps (codeOf Try.f27) (argsEnv 0 [outV q 2 (L.map mc)]) H n0 (fun x e' h' n' => (x = .normal ∨ x = .ret) ∧ ∃ ls', resE e' T h' Try.f27.results.toList = some ls' ∧ (resultLV ls' = .sl (kd2 L.length) (L.map mc) ∧ n0 ≤ n' ∧ h' = H)) := by
 change WC _ _ _ _ _ [(0, outV q 2 (L.map mc))] _ _ _
 refine Rg 1 J <| Ua J J <| Wn <| kO (z := 4) J <| aA (dJ (cs := []) (rows := []) J J (by decide) J J J) J <| Um J J <| WO.apC (te := ti28) (q := q) (rows := L.map mc) (el3 := (28)) J J J J J (by decide) (bK (f := mc) (n := 2) fun _ => rfl) (fun h => hg (fun h2 => h (by rw [h2]; rfl))) (by rw [List.length_map]; show (2 * (0 + L.length) + 256) * 16 ≤ _; omega) (by rw [List.length_map]; omega) J <| Ua J J <| Wn <| Fz.env2 (t := 2) (us := L.map mc) [] trivial J (fun _ r o hr => by have := hlt r o hr; omega) (by decide) (bK (f := mc) (n := 2) fun _ => rfl) (aU pU) <| aK ?_
 rw [List.length_map]
 exact ⟨.inr J, _, rfl, rfl, om, rfl⟩
theorem cpm_run (k : Nat) (m : List M1) (lm : m.length < 1000000) (lr : ∀ r, r ∈ m → r.2.length < 1000000) : Run Try.prog T E0 (.call 26 [.sl k (m.map fM)] (.sl (kd m.length) ((m.map fun r => cp2 r.2).map fM))) := by
 refine bC Try.func26 J J (cW J) <| Rg 1 J <| Ua J J <| Wn <| Rg 1 J <| Ua J J <| Wn <| aC <| Rg 3 J <| Um J J <| aA (aX J J) J <| Um J J <| Wn <| aG <| aY (α := Nat × Nat) (fun ⟨i, q⟩ => [(3, outV q 1 ((tab i (fun t => cp2 (m.getD t default).2)).map fM)), (6, .sl k (m.map fM)), (7, .v (.int .i64 (m.length : Int))), (8, .v (.int .i64 (i : Int)))]) (fun ⟨i, q⟩ => outH q 1 (41) ((tab i (fun t => cp2 (m.getD t default).2)).map fM) []) (fun ⟨i, q⟩ n => i ≤ m.length ∧ q < n) (fun ⟨i, q⟩ => m.length - i) (0, 0) ⟨J, J, J, J, trivial⟩ trivial ⟨Nat.zero_le _, om⟩ ?_
 rintro ⟨i, q⟩ n hF
 change WC _ _ _ _ _ (_ :: _) (outH _ _ _ _ _) n _
 obtain ⟨hi, hq⟩ := hF
 refine Rg 1 J <| aA (bS J J) J <| aW (fun h9 => ?_) (fun h9 => ?_)
 rotate_left
 ·refine Wn <| aR J <| aT <| aP <| aN J <| Rg 2 J <| Um J J <| Ua J J <| Wn <| aK ?_
  obtain rfl : i = m.length := by omega
  have eu : tab m.length (fun t => cp2 (m.getD t default).2) = m.map fun r => cp2 r.2 := kB (by rw [fT, List.length_map]) fun t ht => by
   rw [fT] at ht
   rw [tab_get _ ht, lO (f := fun r : M1 => cp2 r.2) ht]
  rw [eu]
  rw [show LV.sl (kd m.length) ((m.map fun r => cp2 r.2).map fM) = outR ((m.map fun r => cp2 r.2).map fM) by rw [fB, List.length_map]]
  exact mN (n := 0) (.inr J) J (by decide) (bK (f := fM) (n := 1) fun _ => rfl) (aU iM)
 refine Wn <| aV J <| aF <| aG ?_
 have hr := lr _ (bD (us := m) (i := i) om)
 refine Rg 3 J <| aA (bY J J J J J om J) J <| aA (dQ (l := .sl (m.getD i default).1 ((m.getD i default).2.map mc)) J J J) J <| Ua J J <| Wn <| aI (z := 6) J <| Um J J <| Um J J <| aA (aE J (cpn_run (m.getD i default).1 (m.getD i default).2 om) (bA (by intro c hc; rw [List.mem_singleton] at hc; subst hc; exact (.sl _ _ fun row hr => aU pU row hr)))) J <| aA (dJ (cs := [_]) (rows := [[_]]) J J (by decide) J J J) J <| fJ (te := ti41) (f := fM) (q := q) (us := (tab i (fun t => cp2 (m.getD t default).2))) (u := cp2 (m.getD i default).2) J J J J J (fun _ => rfl) (by decide) (by rw [fT]; show (2 * (i + 1) + 256) * 24 ≤ _; omega) (by rw [fT]; omega) J J J <| Ua J J <| Wn <| aD <| aI (z := 2) J <| aA (cI (((i + 1 : Nat) : Int)) (aQ J J om) om) J <| Um J J <| Wn <| aH ?_
 have ea : tab (i + 1) (fun t => cp2 (m.getD t default).2) = (tab i (fun t => cp2 (m.getD t default).2)) ++ [cp2 (m.getD i default).2] := qU _
 refine ⟨⟨i + 1, _⟩, ⟨congrArg some (by rw [ea]; rfl), rfl, rfl, rfl, trivial⟩, by dsimp only; rw [ea]; exact dT, ⟨om, om⟩, by show m.length - (i + 1) < m.length - i; omega⟩
theorem spn_G (n0 q : Nat) (H : Hp) (L : List NM) (ll : L.length < 1000000) (hb : ∀ t, t < L.length → -9223372036854775809 < (L.getD t default).1 ∧ (L.getD t default).1 < 9223372036854775807) (hg : L ≠ [] → getH H q = some (obN (28) L)) : WC Try.prog T E0 Try.f37.ntmps (codeOf Try.f37) (argsEnv 0 [outV q 2 (L.map mc)]) H n0 (fun x e' h' n' => (x = .normal ∨ x = .ret) ∧ ∃ ls', resE e' T h' Try.f37.results.toList = some ls' ∧ (n0 ≤ n' ∧ ∀ r o, r ≠ q → getH H r = some o → getH h' r = some o)) := by
 change WC _ _ _ _ _ [(0, outV q 2 (L.map mc))] _ _ _
 refine Rg 3 J <| Um J J <| aA (oLenO J J) J <| Um J J <| Wn <| eQ <| aY (α := Nat × (List NM) × Hp) (fun ⟨i, cur, hh⟩ => [(0, outV q 2 (L.map mc)), (4, .v (.int .i64 (L.length : Int))), (5, .v (.int .i64 (i : Int)))]) (fun ⟨i, cur, hh⟩ => nrm hh) (fun ⟨i, cur, hh⟩ n => i ≤ L.length ∧ cur.length = L.length ∧ (L ≠ [] → getH hh q = some (obN (28) cur)) ∧ (∀ t, i ≤ t → cur.getD t default = L.getD t default) ∧ (∀ r o, r ≠ q → getH H r = some o → getH hh r = some o) ∧ n0 ≤ n) (fun ⟨i, cur, hh⟩ => L.length - i) (0, L, H) ⟨J, J, J, trivial⟩ (gB fun _ _ h => h) ⟨Nat.zero_le _, rfl, hg, fun _ _ => rfl, fun _ _ _ h => h, om⟩ ?_
 rintro ⟨i, cur, hh⟩ n hF
 change WC _ _ _ _ _ [(0, outV q 2 (L.map mc)), (4, .v (.int .i64 (L.length : Int))), (5, .v (.int .i64 (i : Int)))] (nrm hh) n _
 obtain ⟨hi, hcl, hgc, hct, hke, hn⟩ := hF
 refine Rg 1 J <| aA (bS J J) J <| aW (fun h6 => ?_) (fun h6 => ?_)
 rotate_left
 ·refine Wn <| aR J <| aT <| aP <| jT J ?_
  exact ⟨.inl J, _, rfl, om, fun r o hr h => nrm_get.trans (hke r o hr h)⟩
 refine Wn <| aV J <| aF <| aG ?_
 have hil : i < L.length := by omega
 have hov : outV q 2 (L.map mc) = .ref q 2 0 L.length := by rw [kY (fun h => iR hil (List.map_eq_nil_iff.1 h)), List.length_map]
 rw [hov]
 have hgi : getH (nrm hh) q = some { cells := (cur.map mc).flatten, sz := 2, elem := (28), st := 0 } := nrm_get.trans (hgc (iR hil))
 have hbi := hb i hil
 rw [← hct i (Nat.le_refl _)] at hbi
 refine Rg 2 J <| Um J J <| Ua J J <| Wn <| aI (z := 11) J <| Um J J <| Um J J <| Um J J <| Um J J <| aA (cC (j := i) J J J J J om J) J <| aA (cO J J J J J) J <| aA (oLdF0 (us := cur) (j := i) J J hgi om (fun _ _ => rfl)) J <| aA (cI ((cur.getD i default).1 + 1) (aQ J J om) om) J <| aA (mJ (cs := [.v (.int .i64 ((cur.getD i default).1 + 1)), .v (.int .i64 7)]) J J J J J) J <| aA (cC (j := i) J J J J J om J) J <| bB (eA (f := mc) (us := cur) ((cur.getD i default).1 + 1, 7) J J J hgi (fun _ => rfl) J J om J) <| Wn <| aD <| Ck [0,4,5] J <| aI (z := 2) J <| aA (cI (((i + 1 : Nat) : Int)) (aQ J J om) om) J <| Um J J <| Wn <| aH ?_
 refine ⟨⟨i + 1, _, (q, obN (28) (cur.set i ((cur.getD i default).1 + 1, 7))) :: nrm hh⟩, ⟨J, J, J, trivial⟩, gB fun _ _ h => h, ⟨om, by rw [List.length_set]; exact hcl, fun _ => g0, fun t ht => ?_, fun r o hr h => g1 (fun e => hr e.symm) (nrm_get.trans (hke r o hr h)), om⟩, by show L.length - (i + 1) < L.length - i; omega⟩
 rw [pY om]; exact hct t om
theorem cpm_G (n0 q : Nat) (a : Nat → Nat) (H : Hp) (R : List (List NM)) (lR : R.length < 1000000) (lr : ∀ t, t < R.length → (R.getD t []).length < 1000000) (hlt : ∀ r o, getH H r = some o → r < n0) (hai : ∀ t, t < R.length → a t < n0) (hqn : q < n0) (hR : RdM H (41) (28) q a R) : WC Try.prog T E0 Try.f26.ntmps (codeOf Try.f26) (argsEnv 0 [outV q 1 (rwC a R)]) H n0 (fun x e' h' n' => (x = .normal ∨ x = .ret) ∧ ∃ ls', resE e' T h' Try.f26.results.toList = some ls' ∧ (resultLV ls' = .sl (kd R.length) ((R.map cp2).map fM) ∧ n0 ≤ n' ∧ h' = nrm H)) := by
 change WC _ _ _ _ _ [(0, outV q 1 (rwC a R))] _ _ _
 refine Rg 1 J <| Ua J J <| Wn <| Rg 1 J <| Ua J J <| Wn <| aC <| Rg 3 J <| Um J J <| aA (cI ((R.length : Int)) (oLenO J J) (congrArg Int.ofNat List.length_range)) J <| Um J J <| Wn <| aG <| aY (α := Nat × Nat) (fun ⟨i, qc⟩ => [(3, outV qc 1 ((tab i (fun t => cp2 (R.getD t []))).map fM)), (6, outV q 1 (rwC a R)), (7, .v (.int .i64 (R.length : Int))), (8, .v (.int .i64 (i : Int)))]) (fun ⟨i, qc⟩ => outH qc 1 (41) ((tab i (fun t => cp2 (R.getD t []))).map fM) (nrm H)) (fun ⟨i, qc⟩ n => i ≤ R.length ∧ n0 ≤ qc ∧ qc < n) (fun ⟨i, qc⟩ => R.length - i) (0, n0) ⟨J, J, J, J, trivial⟩ (gB fun _ _ h => h) ⟨Nat.zero_le _, om, om⟩ ?_
 rintro ⟨i, qc⟩ n hF
 change WC _ _ _ _ _ (_ :: _) (outH _ _ _ _ _) n _
 obtain ⟨hi, hq0, hq⟩ := hF
 refine Rg 1 J <| aA (bS J J) J <| aW (fun h9 => ?_) (fun h9 => ?_)
 rotate_left
 ·refine Wn <| aR J <| aT <| aP <| aN J <| kO (z := 2) J <| Um J J <| Ua J J <| Wn <| Fz.env (t := 2) (us := (tab i (fun t => cp2 (R.getD t []))).map fM) [] trivial J (fun _ r o hr => by rw [nrm_get] at hr; have := hlt r o hr; omega) (by decide) (bK (f := fM) (n := 1) fun _ => rfl) (aU iM) <| aK ?_
  obtain rfl : i = R.length := by omega
  have eu : tab R.length (fun t => cp2 (R.getD t [])) = R.map cp2 := kB (by rw [fT, List.length_map]) fun t ht => by
   rw [fT] at ht
   rw [tab_get _ ht]; exact (lO (f := cp2) ht).symm
  refine ⟨.inr J, _, rfl, ?_, om, rfl⟩
  rw [eu]
  show LV.sl (kd _) _ = _
  rw [List.length_map, List.length_map]
 refine Wn <| aV J <| aF <| aG ?_
 have hil : i < R.length := by omega
 have hov : outV q 1 (rwC a R) = .ref q 1 0 R.length := by rw [kY (fun h => iR hil (List.eq_nil_of_length_eq_zero (by rw [← iE a R, h]; rfl))), iE]
 rw [hov]
 refine Rg 3 J <| aA (cC (j := i) J J J J J om J) J <| aA (aS (b := outV (a i) 2 ((R.getD i []).map mc)) (dZ (f := ffN) (us := rwT a R) (j := i) J J ((aM om J).trans (nrm_get.trans ((hR.top (iR hil)).trans (by rw [rwC_map])))) (fun _ => rfl) J (by decide) (by rw [rwT_len]; exact hil) J) (by rw [rwT_get hil])) J <| Ua J J <| Wn <| WC.regn1 (z := 6) J <| bR (cR J) J <| bR (cR J) J ?_
 have hlt5 : ∀ r o, getH (outH qc 1 (41) ((tab i (fun t => cp2 (R.getD t []))).map fM) (nrm H)) r = some o → r < (n + 1 + 3 + 6) := fun r o hr => by
  by_cases e : qc = r
  ·omega
  ·have h2 : getH (outH qc 1 (41) ((tab i (fun t => cp2 (R.getD t []))).map fM) (nrm H)) r = getH (nrm H) r := aM e rfl
   rw [h2, nrm_get] at hr; have := hlt r o hr; omega
 refine lW (ls := [outV (a i) 2 ((R.getD i []).map mc)]) (Φ := fun r h' n' => r = .sl (kd2 (R.getD i []).length) ((R.getD i []).map mc) ∧ (n + 1 + 3 + 6) ≤ n' ∧ h' = outH qc 1 (41) ((tab i (fun t => cp2 (R.getD t []))).map fM) (nrm H)) J Try.func27 J J (cW J) J ((cpn_G (n + 1 + 3 + 6) (a i) (outH qc 1 (41) ((tab i (fun t => cp2 (R.getD t []))).map fM) (nrm H)) (R.getD i []) (by have := lr i hil; omega) hlt5 (fun hne => (aM (by have := hai i hil; omega) J).trans (nrm_get.trans (hR.rd.row i hil hne)))).mono (by rintro x e h m ⟨hx, ls, hr, h1, h2, h3⟩; exact ⟨hx, ls, hr, h1, h2, h3⟩)) ?_
 rintro r h' n1 ⟨rfl, hn1, rfl⟩
 refine WN.O <| aA (dJ (cs := [_]) (rows := [[_]]) J J (by decide) J J J) J <| fJ (te := ti41) (f := fM) (q := qc) (us := (tab i (fun t => cp2 (R.getD t [])))) (u := cp2 (R.getD i [])) J J J J J (fun _ => rfl) (by decide) (by rw [fT]; show (2 * (i + 1) + 256) * 24 ≤ _; omega) (by rw [fT]; omega) (by cases hk : getH (nrm H) qc with
 | none => rfl
 | some o => rw [nrm_get] at hk; have := hlt _ _ hk; omega) (by cases hk : getH (nrm H) (n + 1 + 3 + 4) with
 | none => rfl
 | some o => rw [nrm_get] at hk; have := hlt _ _ hk; omega) rfl ?_
 refine Ua J J <| Wn <| aD <| aI (z := 2) J <| aA (cI (((i + 1 : Nat) : Int)) (aQ J J om) om) J <| Um J J <| Wn <| aH ?_
 have ea : tab (i + 1) (fun t => cp2 (R.getD t [])) = (tab i (fun t => cp2 (R.getD t []))) ++ [cp2 (R.getD i [])] := qU _
 refine ⟨⟨i + 1, _⟩, ⟨congrArg some (by rw [ea]; rfl), rfl, rfl, rfl, trivial⟩, by dsimp only; rw [ea]; exact gC (fun hne => by rw [fA hne]; exact g0) (gB fun r o hr => aM (by have := hlt r o hr; omega) (nrm_get.trans hr)), ⟨om, om, om⟩, by show R.length - (i + 1) < R.length - i; omega⟩
theorem spm_G (n0 q : Nat) (a : Nat → Nat) (H : Hp) (R : List (List NM)) (lR : R.length < 1000000) (lr : ∀ t, t < R.length → (R.getD t []).length < 1000000) (hb : ∀ t, t < R.length → ∀ s, s < (R.getD t []).length → -9223372036854775809 < ((R.getD t []).getD s default).1 ∧ ((R.getD t []).getD s default).1 < 9223372036854775807) (hR : RdM H (41) (28) q a R) : WC Try.prog T E0 Try.f36.ntmps (codeOf Try.f36) (argsEnv 0 [outV q 1 (rwC a R)]) H n0 (fun x e' h' n' => (x = .normal ∨ x = .ret) ∧ ∃ ls', resE e' T h' Try.f36.results.toList = some ls' ∧ (n0 ≤ n' ∧ ∀ r o, (∀ t, t < R.length → r ≠ a t) → getH H r = some o → getH h' r = some o)) := by
 change WC _ _ _ _ _ [(0, outV q 1 (rwC a R))] _ _ _
 refine Rg 3 J <| Um J J <| aA (cI ((R.length : Int)) (oLenO J J) (congrArg Int.ofNat List.length_range)) J <| Um J J <| Wn <| eQ <| aY (α := Nat × Hp) (fun ⟨i, hh⟩ => [(4, outV q 1 (rwC a R)), (5, .v (.int .i64 (R.length : Int))), (6, .v (.int .i64 (i : Int)))]) (fun ⟨i, hh⟩ => nrm hh) (fun ⟨i, hh⟩ n => i ≤ R.length ∧ (∀ r o, (∀ t, t < i → r ≠ a t) → getH H r = some o → getH hh r = some o) ∧ n0 ≤ n) (fun ⟨i, hh⟩ => R.length - i) (0, H) ⟨J, J, J, trivial⟩ (gB fun _ _ h => h) ⟨Nat.zero_le _, fun _ _ _ h => h, om⟩ ?_
 rintro ⟨i, hh⟩ n hF
 change WC _ _ _ _ _ [(4, outV q 1 (rwC a R)), (5, .v (.int .i64 (R.length : Int))), (6, .v (.int .i64 (i : Int)))] (nrm hh) n _
 obtain ⟨hi, hke, hn⟩ := hF
 refine Rg 1 J <| aA (bS J J) J <| aW (fun h7 => ?_) (fun h7 => ?_)
 rotate_left
 ·refine Wn <| aR J <| aT <| aP <| jT J ?_
  exact ⟨.inl J, _, rfl, om, fun r o hr h => nrm_get.trans (hke r o (fun t ht => hr t om) h)⟩
 refine Wn <| aV J <| aF <| aG ?_
 have hil : i < R.length := by omega
 have hov : outV q 1 (rwC a R) = .ref q 1 0 R.length := by rw [kY (fun h => iR hil (List.eq_nil_of_length_eq_zero (by rw [← iE a R, h]; rfl))), iE]
 rw [hov]
 refine Rg 3 J <| aA (cC (j := i) J J J J J om J) J <| aA (aS (b := outV (a i) 2 ((R.getD i []).map mc)) (dZ (f := ffN) (us := rwT a R) (j := i) J J (nrm_get.trans (hke _ _ (fun t ht => (hR.ne t om).symm) ((hR.top (iR hil)).trans (by rw [rwC_map])))) (fun _ => rfl) J (by decide) (by rw [rwT_len]; exact hil) J) (by rw [rwT_get hil])) J <| Ua J J <| Wn <| WC.regn1 (z := 2) J <| bR (cR J) J <| lW (ls := [outV (a i) 2 ((R.getD i []).map mc)]) (Φ := fun r h' n' => (n + 1 + 3 + 2) ≤ n' ∧ ∀ r o, r ≠ a i → getH (nrm hh) r = some o → getH h' r = some o) J Try.func37 J J (cW J) J ((spn_G (n + 1 + 3 + 2) (a i) (nrm hh) (R.getD i []) (by have := lr i hil; omega) (hb i hil) (fun hne => nrm_get.trans (hke _ _ (fun t ht e => by have := hR.rd.inj i t hil om e; omega) (hR.rd.row i hil hne)))).mono (by rintro x e h m ⟨hx, ls, hr, h1, h2⟩; exact ⟨hx, ls, hr, h1, h2⟩)) ?_
 rintro r h' n1 ⟨hn1, hke1⟩
 refine dV <| aD <| aI (z := 2) J <| aA (cI (((i + 1 : Nat) : Int)) (aQ J J om) om) J <| Um J J <| Wn <| aH <| ⟨⟨i + 1, h'⟩, ⟨J, J, J, trivial⟩, gB fun _ _ h => h, ⟨om, fun r o hr h => hke1 r o (hr i om) (nrm_get.trans (hke r o (fun t ht => hr t om) h)), om⟩, by show R.length - (i + 1) < R.length - i; omega⟩
end Go.Proofs.Ytcblgjaomljikaa
namespace Go.Proofs.Ytcblgjaomljikaa
open Go.Ab Go.RowKit
theorem mMul_own (n0 lo : Nat) (k k2 : Nat) (a b : List M1) (hI : IM a) (hIb : IM b) (hF : Few8 a) (hFb : Few8 b) (hlo : lo ≤ n0) (hL : mulR a b ≠ []) : WC Try.prog T E0 Try.f28.ntmps (codeOf Try.f28) (argsEnv 0 [.sl k (a.map fM), .sl k2 (b.map fM)]) [] n0 (fun yy e' h' n' => (yy = .normal ∨ yy = .ret) ∧ ∃ ls', resE e' T h' Try.f28.results.toList = some ls' ∧ PhiM (41) (28) lo n0 (mulR a b) (mule a b) (resultLV ls') h' n') := by
 obtain ⟨hok, o, hmo, hone, hLo, _⟩ := oL_ne (er := 0) (show oL (mulOk a b = true) (mulO a b) ≠ [] from hL)
 have hLo : mulR a b = o := hLo
 have hEo : mule a b = 0 := mule_0 hok hmo
 obtain ⟨hVa, hVb, hdm⟩ := mulOk_f hok
 have l1 := hF.ln
 have l2 : ∀ r, r ∈ a → r.2.length < 1099511627776 := fun r hr => by have := hF.lr r hr; omega
 have l3 := hFb.ln
 have l4 : ∀ r, r ∈ b → r.2.length < 1099511627776 := fun r hr => by have := hFb.lr r hr; omega
 change WC _ _ _ _ _ [(0, .sl k (a.map fM)), (1, .sl k2 (b.map fM))] _ _ _
 have J5 : ∀ (h8 : VM a = true) (h12 : VM b = true) (hdim : 0 < a.length → wd a = b.length) (n : Nat) (hn0 : n0 ≤ n), WC Try.prog T E0 Try.f28.ntmps (codeR (codeR (codeOf Try.f28))) [(0, .sl k (a.map fM)), (1, .sl k2 (b.map fM))] [] n (fun yy e' h' n' => (yy = .normal ∨ yy = .ret) ∧ ∃ ls', resE e' T h' Try.f28.results.toList = some ls' ∧ PhiM (41) (28) lo n0 (mulR a b) (mule a b) (resultLV ls') h' n') := by
  intro h8 h12 hdim n hn0
  refine dE (z := 10) J ?_
  obtain ⟨f1, f2⟩ := VM.facts h8
  obtain ⟨f3, f4⟩ := VM.facts h12
  have hva : ∀ r, r ∈ a → ∀ x, x ∈ r.2 → VN x := fun r hr => (f2 r hr).2.2
  have hvb : ∀ r, r ∈ b → ∀ x, x ∈ r.2 → VN x := fun r hr => (f4 r hr).2.2
  have hw8 := iG h12 hFb
  have hxa : ∀ r, r ∈ a.map nxr → r.2.length = (b.map nxr).length := fun r hr => by
   obtain ⟨s, hs, rfl⟩ := List.mem_map.1 hr
   show (s.2.map nx).length = _
   rw [List.length_map, List.length_map, (f2 s hs).1]; exact hdim (List.length_pos_of_mem hs)
  have hxb : ∀ r, r ∈ b.map nxr → r.2.length = wd b := fun r hr => by
   obtain ⟨s, hs, rfl⟩ := List.mem_map.1 hr
   show (s.2.map nx).length = _
   rw [List.length_map]; exact (f4 s hs).1
  have hAb : ∀ r, r ∈ a.map nxr → ∀ x, x ∈ r.2 → Bd 2 x.1 := fun r hr x hx => by
   obtain ⟨s, hs, rfl⟩ := List.mem_map.1 hr
   obtain ⟨y, hy, rfl⟩ := List.mem_map.1 hx
   exact (hva s hs y hy).bd
  have hBb : ∀ r, r ∈ b.map nxr → ∀ x, x ∈ r.2 → Bd 2 x.1 := fun r hr x hx => by
   obtain ⟨s, hs, rfl⟩ := List.mem_map.1 hr
   obtain ⟨y, hy, rfl⟩ := List.mem_map.1 hx
   exact (hvb s hs y hy).bd
  obtain ⟨_, hr, rows, rfl, hrows⟩ := gF (kd (a.map nxr).length) (kd (b.map nxr).length) (a.map nxr) (b.map nxr) 2 2 (by rw [List.length_map]; omega) (by rw [List.length_map]; omega) (by rw [nZ]; omega) (by rw [nZ]; exact hxb) hxa hAb hBb om (by rw [List.length_map]; omega)
  rw [eP, eP, nZ] at hrows
  have hrl : rows.length = a.length := by have := congrArg List.length hrows; rw [iU, bQ] at this; simpa [vM] using this
  have hrw := vX_rows hrows nT
  have hxo : (rows.mapM fun r : X1 => r.2.mapM fun x : X => outN x.1) = some o := by rw [iD, hrows]; exact hmo
  refine bR (cR J) J <| bR (aE J (cE k a om hI (fun r hr x hx => by have := (hva r hr x hx).1; omega) l2) dD) J <| bR (cR J) J <| bR (aE J (cE k2 b om hIb (fun r hr x hx => by have := (hvb r hr x hx).1; omega) l4) dD) J <| bR (aE J (hr) dD) J <| jM (Φ := PhiM (41) (28) lo (n + 10) o 0) J (bA (by intro c hc; rw [List.mem_singleton] at hc; subst hc; exact (.sl _ _ fun row hr => aU dfX row hr))) Try.func88 J J (cW J) J (.inr (pH (n + 10) lo _ rows o om (fun r hr => by rw [hrw r hr]; omega) om hxo)) ?_
  intro r h' n1 hP
  refine ⟨cutH (n + 10) h', .cut, ?_⟩
  obtain ⟨q9, a9, hr9, hP2⟩ := hP
  subst hr9
  refine bR (bU J J) J <| bR (bU J J) J <| bR (fV J) J <| bR (fV J) J <| dV <| aK ?_
  exact ⟨.inr J, _, rfl, PhiM.to (lo := lo) (n := n + 10) ⟨q9, a9, rfl, hP2⟩ hLo hEo hone om om (fun q x hq h => (gW hq).trans h)⟩
 refine Rg 2 J <| Ua J J <| Ua J J <| Wn <| aG <| Rg 9 J <| Um J J <| aA (aE J (bV k a hI om (fun r hr => by have := l2 r hr; omega)) dD) J <| dM (fun h8 => ?_) (fun h8 => ?_)
 rotate_left
 ·refine aA (bZ J) J <| Um J J <| K1 J J <| K1 J J <| K1 J J <| aA (cG J J) J <| Ua J J <| Wn <| bI J <| Rg 2 J <| Ua J J <| Ua J J <| Wn <| aK <| aO ?_
  rw [hVa] at h8; cases h8
 refine aA (bZ J) J <| Um J J <| aJ J (cR J) J <| aJ J (aE J (bV k2 b hIb om (fun r hr => by have := l4 r hr; omega)) dD) J <| dM (fun h12 => ?_) (fun h12 => ?_)
 rotate_left
 ·refine aJ J (bZ J) J <| aA (cD J J) J <| Ua J J <| Wn <| bI J <| Rg 2 J <| Ua J J <| Ua J J <| Wn <| aK <| aO ?_
  rw [hVb] at h12; cases h12
 refine aJ J (bZ J) J <| aA (cD J J) J <| Ua J J <| Wn <| bH J <| Rg 11 J <| Um J J <| aA (aX J J) J <| aA (fU J J) J <| aW (fun h18 => ?_) (fun h18 => ?_)
 rotate_left
 ·refine Um J J <| K1 J J <| K1 J J <| K1 J J <| K1 J J <| K1 J J <| aA (cD J J) J <| Ua J J <| Nk [0,1,15] J <| bH J <| bJ <| aD <| Ck [0,1] J ?_
  exact J5 h8 h12 om _ om
 refine Um J J <| aJ J (cR J) J <| aJ J (aE J (cN k a) dD) J <| aJ J (cR J) J <| aJ J (aX J J) J <| aJ J (eG J J) J <| aW (fun h24 => ?_) (fun h24 => ?_)
 rotate_left
 ·refine aA (cG J J) J <| Ua J J <| Nk [0,1,15] J <| bH J <| bJ <| aD <| Ck [0,1] J ?_
  exact J5 h8 h12 om _ om
 refine aA (cG J J) J <| Ua J J <| Nk [0,1,15] J <| bI J <| Rg 2 J <| Ua J J <| Ua J J <| Wn <| aK <| aO ?_
 have := hdm om; omega
theorem mApply_own (n0 lo : Nat) (k k2 : Nat) (a : List M1) (x : List NM) (hI : IM a) (hIb : IV x) (hF : Few8 a) (lx : x.length ≤ 70) (hlo : lo ≤ n0) (hL : app1 a x ≠ []) : WC Try.prog T E0 Try.f29.ntmps (codeOf Try.f29) (argsEnv 0 [.sl k (a.map fM), .sl k2 (x.map mc)]) [] n0 (fun yy e' h' n' => (yy = .normal ∨ yy = .ret) ∧ ∃ ls', resE e' T h' Try.f29.results.toList = some ls' ∧ PhiN (28) lo n0 (app1 a x) (appe a x) (resultLV ls') h' n') := by
 obtain ⟨hok, o, hmo, hone, hLo, _⟩ := oL_ne (er := 0) (show oL (appOk a x = true) (appO a x) ≠ [] from hL)
 have hLo : app1 a x = o := hLo
 have hEo : appe a x = 0 := appe_0 hok hmo
 obtain ⟨hVa0, hVb0, hdm⟩ := appOk_f hok
 have l1 := hF.ln
 have l2 : ∀ r, r ∈ a → r.2.length < 1099511627776 := fun r hr => by have := hF.lr r hr; omega
 change WC _ _ _ _ _ [(0, .sl k (a.map fM)), (1, .sl k2 (x.map mc))] _ _ _
 have J5 : ∀ (hVa : VM a = true) (hVb : VV x = true) (hdim : 0 < a.length → wd a = x.length) (n : Nat) (hn0 : n0 ≤ n), WC Try.prog T E0 Try.f29.ntmps (codeR (codeR (codeOf Try.f29))) [(0, .sl k (a.map fM)), (1, .sl k2 (x.map mc))] [] n (fun yy e' h' n' => (yy = .normal ∨ yy = .ret) ∧ ∃ ls', resE e' T h' Try.f29.results.toList = some ls' ∧ PhiN (28) lo n0 (app1 a x) (appe a x) (resultLV ls') h' n') := by
  intro hVa hVb hdim n hn0
  refine Rg 1 J ?_
  have hla : (a.map nxr).length = a.length := List.length_map _
  obtain ⟨f1, f2⟩ := VM.facts hVa
  obtain ⟨f3, hvb⟩ := VV.facts hVb
  have hva : ∀ r, r ∈ a → ∀ x, x ∈ r.2 → VN x := fun r hr => (f2 r hr).2.2
  refine Ua J J <| Wn <| Rg 3 J <| Um J J <| aA (aE J (fZ k2 x om hIb (fun y hy => by have := (hvb y hy).1; omega)) dD) J <| Ua J J <| Wn <| aC <| Rg 4 J <| Um J J <| aA (aE J (cE k a om hI (fun r hr x hx => by have := (hva r hr x hx).1; omega) l2) dD) J <| aA (aX J J) J <| Um J J <| Wn <| aG <| aY (α := Nat × Nat × (List X)) (fun ⟨i, q, ds⟩ => [(6, outV q 4 (ds.map xc)), (7, .sl (kd (x.map nx).length) ((x.map nx).map xc)), (33, .sl (kd (a.map nxr).length) ((a.map nxr).map fX)), (34, .v (.int .i64 ((a.map nxr).length : Int))), (35, .v (.int .i64 (i : Int)))]) (fun ⟨i, q, ds⟩ => outH q 4 114 (ds.map xc) []) (fun ⟨i, q, ds⟩ n => i ≤ (a.map nxr).length ∧ ds.map (·.1) = ((vM a).take i).map (fun r => dotR r (x.map nq)) ∧ ds.length = i ∧ q < n ∧ n0 ≤ n) (fun ⟨i, q, ds⟩ => (a.map nxr).length - i) (0, 0, []) ⟨J, J, J, J, J, trivial⟩ trivial ⟨Nat.zero_le _, by simp, rfl, om, om⟩ ?_
  rintro ⟨i, q, ds⟩ n hF
  change WC _ _ _ _ _ (_ :: _) (outH _ _ _ _ _) n _
  obtain ⟨hi, hds, hdl, hq, hn0⟩ := hF
  refine kO (z := 1) J <| aA (bS J J) J <| aW (fun h36 => ?_) (fun h36 => ?_)
  rotate_left
  ·refine Wn <| Fz.env (t := 6) (us := ds.map xc) [(7, _), (33, _), (34, _), (35, _), (36, _)] ⟨J, J, J, J, J, trivial⟩ J (fun _ r o hr => by simp [getH] at hr) (by decide) (bK (n := 4) (fun _ => rfl)) (aU rD) <| aR J <| aT <| aP <| aN J ?_
   have hap : (vM a).take i = vM a := List.take_of_length_le (by simp [vM] at *; omega)
   rw [hap] at hds
   have hxo : (ds.mapM fun x : X => outN x.1) = some o := by rw [show (ds.mapM fun x : X => outN x.1) = (ds.map (·.1)).mapM outN from (fW outN (·.1) ds).symm, hds]; exact hmo
   refine dE (z := 6) J <| bR (cR J) J <| jM (Φ := PhiN (28) lo (n + 1 + 6) o 0) J (bA (by intro c hc; rw [List.mem_singleton] at hc; subst hc; exact (.sl _ _ fun row hr => aU rD row hr))) Try.func93 J J (cW J) J (.inr (nouts_F (n + 1 + 6) lo _ ds o (by rw [List.length_map] at *; omega) om hxo)) ?_
   rintro r h' n1 ⟨q9, rfl, hn1, hq0, hq1, hg⟩
   refine ⟨outH q9 2 (28) (o.map mc) [], bothN hg .nil, ?_⟩
   refine bR (bU J J) J <| bR (bU J J) J <| bR (fV J) J <| bR (fV J) J <| dV <| aK <| ⟨.inr J, _, rfl, PhiN.to (n := n + 1 + 6) (lo := lo) ⟨q9, rfl, hn1, hq0, hq1, fun h => ⟨(hg h).1, ogN h⟩⟩ hLo hEo om (Nat.le_refl _) (fun _ _ _ h => h)⟩
  refine Wn <| Fz.same [(6, _), (7, _), (33, _), (34, _), (35, _), (36, _)] _ ⟨J, J, J, J, J, J, trivial⟩ (fun _ _ h => h) <| aV J <| aF <| aG <| Rg 3 J <| aA (bY J J J J J om J) J <| aA (dQ J J J) J <| Ua J J <| cM ?_
  have hro : ((a.map nxr).getD i default) = nxr (a.getD i default) := lO (by rw [List.length_map] at *; omega)
  have hma := bD (us := a) (i := i) (by rw [List.length_map] at *; omega)
  have hrl : ((a.map nxr).getD i default).2.length = x.length := by
   rw [hro]; show ((a.getD i default).2.map nx).length = _
   rw [List.length_map, (f2 _ hma).1]; exact hdim (List.length_pos_of_mem hma)
  have hAb : ∀ y, y ∈ ((a.map nxr).getD i default).2 → Bd 2 y.1 := fun y hy => by
   rw [hro] at hy
   obtain ⟨z, hz, rfl⟩ := List.mem_map.1 hy
   exact (hva _ hma z hz).bd
  have hBb : ∀ y, y ∈ x.map nx → Bd 2 y.1 := fun y hy => by
   obtain ⟨z, hz, rfl⟩ := List.mem_map.1 hy
   exact (hvb z hz).bd
  obtain ⟨_, hr, s, rfl, hs⟩ := qI ((a.map nxr).getD i default).1 (kd (x.map nx).length) ((a.map nxr).getD i default).2 (x.map nx) 2 2 (by rw [List.length_map, hrl]; omega) (by rw [hrl]; omega) hAb hBb om (by rw [hrl]; omega)
  refine aI (z := 7) J <| Um J J <| Um J J <| Um J J <| aA (aE J (hr) dD) J <| aA (dJ (cs := [_, _, _, _]) (rows := [[_, _, _, _]]) J J (by decide) J J J) J <| fJ (te := ti114) (f := xc) (q := q) (us := ds) (u := s) J J J J J (fun _ => rfl) (by decide) (by rw [List.length_map] at *; show (2 * (ds.length + 1) + 256) * 64 ≤ _; omega) (by rw [List.length_map] at *; omega) J J J <| Ua J J <| Wn <| aD <| Ck [6,7,33,34,35] J <| aI (z := 2) J <| aA (cI (((i + 1 : Nat) : Int)) (aQ J J om) om) J <| Um J J <| Wn <| aH <| ⟨⟨i + 1, _, ds ++ [s]⟩, ⟨J, J, J, J, J, trivial⟩, dT, ⟨om, ?_, by simp; omega, om, om⟩, by show (a.map nxr).length - (i + 1) < (a.map nxr).length - i; omega⟩
  rw [List.map_append, hds, dX (us := vM a) (f := (fun r => dotR r (x.map nq))) (by simp [vM] at *; omega)]
  congr 1
  show [s.1] = [dotR ((vM a).getD i default) (x.map nq)]
  have hvm : (vM a).getD i default = (a.getD i default).2.map nq := lO (f := fun r : M1 => r.2.map nq) (by rw [List.length_map] at *; omega)
  rw [hvm, hs, hro]
  show [dotR (((a.getD i default).2.map nx).map (·.1)) ((x.map nx).map (·.1))] = _
  rw [List.map_map, List.map_map]; rfl
 refine Rg 2 J <| Ua J J <| Ua J J <| Wn <| aG <| Rg 9 J <| Um J J <| aA (aE J (bV k a hI om (fun r hr => by have := l2 r hr; omega)) dD) J <| dM (fun h12 => ?_) (fun h12 => ?_)
 rotate_left
 ·refine aA (bZ J) J <| Um J J <| K1 J J <| K1 J J <| K1 J J <| aA (cG J J) J <| Ua J J <| Wn <| bI J <| Rg 2 J <| Ua J J <| Ua J J <| Wn <| aK <| aO ?_
  rw [hVa0] at h12; cases h12
 refine aA (bZ J) J <| Um J J <| aJ J (cR J) J <| aJ J (aE J (lU k2 x hIb om) dD) J <| dM (fun h16 => ?_) (fun h16 => ?_)
 rotate_left
 ·refine aJ J (bZ J) J <| aA (cD J J) J <| Ua J J <| Wn <| bI J <| Rg 2 J <| Ua J J <| Ua J J <| Wn <| aK <| aO ?_
  rw [hVb0] at h16; cases h16
 refine aJ J (bZ J) J <| aA (cD J J) J <| Ua J J <| Wn <| bH J <| Rg 11 J <| Um J J <| aA (aX J J) J <| aA (fU J J) J <| aW (fun h22 => ?_) (fun h22 => ?_)
 rotate_left
 ·refine Um J J <| K1 J J <| K1 J J <| K1 J J <| K1 J J <| K1 J J <| aA (cD J J) J <| Ua J J <| Nk [0,1,19] J <| bH J <| bJ <| aD <| Ck [0,1] J ?_
  exact J5 h12 h16 om _ om
 refine Um J J <| aJ J (cR J) J <| aJ J (aE J (cN k a) dD) J <| aJ J (cR J) J <| aJ J (aX J J) J <| aJ J (eG J J) J <| aW (fun h28 => ?_) (fun h28 => ?_)
 rotate_left
 ·refine aA (cG J J) J <| Ua J J <| Nk [0,1,19] J <| bH J <| bJ <| aD <| Ck [0,1] J ?_
  exact J5 h12 h16 om _ om
 refine aA (cG J J) J <| Ua J J <| Nk [0,1,19] J <| bI J <| Rg 2 J <| Ua J J <| Ua J J <| Wn <| aK <| aO ?_
 have := hdm om; omega
theorem mpower_own (n0 lo : Nat) (k : Nat) (a : List M1) (z : Int) (hI : IM a) (hF : Few8 a) (hlo : lo ≤ n0) (hL : powR a z ≠ []) : WC Try.prog T E0 Try.f30.ntmps (codeOf Try.f30) (argsEnv 0 [.sl k (a.map fM), .v (.int .i64 z)]) [] n0 (fun yy e' h' n' => (yy = .normal ∨ yy = .ret) ∧ ∃ ls', resE e' T h' Try.f30.results.toList = some ls' ∧ PhiM (41) (28) lo n0 (powR a z) (powe a z) (resultLV ls') h' n') := by
 obtain ⟨hok, o, hmo, hone, hLo, _⟩ := oL_ne (er := 0) (show oL (powOk a z = true) (powO a z) ≠ [] from hL)
 have hLo : powR a z = o := hLo
 have hEo : powe a z = 0 := powe_0 hok hmo
 obtain ⟨hVa0, hsq0, hz0, hz1⟩ := powOk_f hok
 have l1 := hF.ln
 have l2 : ∀ r, r ∈ a → r.2.length < 1099511627776 := fun r hr => by have := hF.lr r hr; omega
 change WC _ _ _ _ _ [(0, .sl k (a.map fM)), (1, .v (.int .i64 z))] _ _ _
 refine Rg 2 J <| Ua J J <| Ua J J <| Wn <| aG <| Rg 4 J <| Um J J <| aA (aE J (bV k a hI om (fun r hr => by have := l2 r hr; omega)) dD) J <| dM (fun h11 => ?_) (fun h11 => ?_)
 rotate_left
 ·refine aA (bZ J) J <| Ua J J <| Wn <| bI J <| Rg 2 J <| Ua J J <| Ua J J <| Wn <| aK <| aO ?_
  rw [hVa0] at h11; cases h11
 refine aA (bZ J) J <| Ua J J <| Wn <| bH J <| Rg 4 J <| Um J J <| aA (aE J (eL k a) dD) J <| dM (fun h15 => ?_) (fun h15 => ?_)
 rotate_left
 ·refine aA (bZ J) J <| Ua J J <| Wn <| bI J <| Rg 2 J <| Ua J J <| Ua J J <| Wn <| aK <| aO ?_
  rw [hsq0] at h15; cases h15
 refine aA (bZ J) J <| Ua J J <| Wn <| bH J <| Rg 7 J <| Um J J <| aA (bS J J) J <| aW (fun h19 => ?_) (fun h19 => ?_)
 ·refine Um J J <| K1 J J <| K1 J J <| aA (cG J J) J <| Ua J J <| Nk [0,1,17] J <| bI J <| Rg 2 J <| Ua J J <| Ua J J <| Wn <| aK <| aO ?_
  omega
 refine Um J J <| aJ J (cR J) J <| aJ J (fU J J) J <| aW (fun h22 => ?_) (fun h22 => ?_)
 ·refine aA (cD J J) J <| Ua J J <| Nk [0,1,17] J <| bI J <| Rg 2 J <| Ua J J <| Ua J J <| Wn <| aK <| aO ?_
  omega
 refine aA (cD J J) J <| Ua J J <| Nk [0,1,17] J <| bH J <| bJ <| aD ?_
 obtain ⟨f1, f2⟩ := VM.facts h11
 have hvn : ∀ r, r ∈ a → ∀ x, x ∈ r.2 → VN x := fun r hr => (f2 r hr).2.2
 have hw8 := iG h11 hF
 have hsq := qS h15
 have hmr := cE k a om hI (fun r hr x hx => by have := (hvn r hr x hx).1; omega) l2
 obtain ⟨al, hal⟩ : ∃ al, al = a.map nxr := ⟨_, rfl⟩
 have hl8 : al.length = a.length := by rw [hal]; simp
 have hvm : vX al = vM a := by rw [hal]; exact eP a
 rw [← hal] at hmr
 have hvl : (vM a).length = a.length := by simp [vM]
 have hvw : Wid a.length (vM a) := by rw [← hsq]; exact iJ h11
 obtain ⟨hpb, hqb⟩ := pw_bd (iF h11) hvl hvw om
 obtain ⟨m, rfl⟩ : ∃ m : Nat, z = m := ⟨z.toNat, om⟩
 have hun : vX ((List.range a.length).map fun i => (((1 : Nat), uX a.length i) : X1)) = unitR a.length := by
  unfold vX unitR; rw [List.map_map]; exact List.map_congr_left fun j _ => uX_v _ _
 refine Rg 3 J <| Um J J <| aA (aE J (hmr) dD) J <| Ua J J <| Wn <| Rg 4 J <| Um J J <| aA (cI ((a.length : Int)) (aX J J) (by simp)) J <| aA (aE J (kC a.length om) dD) J <| Ua J J <| Wn <| aC <| Rg 4 J <| Um J J <| aA (cI ((m : Int)) (bX J J J) (by rw [IntKind.wrap_u64]; omega)) J <| aA (aE J (len_run m om) dD) J <| Um J J <| Wn <| aG <| aY (α := Nat × Nat × Nat × (List X1) × (List X1)) (fun ⟨i, kx, ko, xs, os⟩ => [(1, .v (.int .i64 (m : Int))), (6, .sl kx (xs.map fX)), (7, .sl ko (os.map fX)), (31, .v (.int .i64 ((blen m : Nat) : Int))), (32, .v (.int .i64 (i : Int)))]) (fun ⟨i, kx, ko, xs, os⟩ => []) (fun ⟨i, kx, ko, xs, os⟩ n => i ≤ blen m ∧ (i < blen m → vX xs = sqm (vM a) a.length i) ∧ vX os = pw (vM a) a.length (m % 2 ^ i) ∧ n0 ≤ n) (fun ⟨i, kx, ko, xs, os⟩ => blen m - i) (0, _, _, al, ((List.range a.length).map fun i => (((1 : Nat), uX a.length i) : X1))) ⟨J, J, J, J, J, trivial⟩ trivial ⟨Nat.zero_le _, fun _ => hvm, by rw [Nat.pow_zero, Nat.mod_one]; exact hun, om⟩ ?_
 rintro ⟨i, kx, ko, xs, os⟩ n hF
 change WC _ _ _ _ _ (_ :: _) ([]) n _
 obtain ⟨hi, hxs, hos, hn0⟩ := hF
 refine Rg 1 J <| aA (bS J J) J <| aW (fun h33 => ?_) (fun h33 => ?_)
 rotate_left
 ·refine Wn <| aR J <| aT <| aP <| aN J ?_
  have hos2 : vX os = pw (vM a) a.length m := by rw [hos, show i = blen m by omega, Nat.mod_eq_of_lt (blen_lt m)]
  have hol : os.length = a.length := by have := congrArg List.length hos2; rw [bQ, nU] at this; exact this
  have how := iK (lS (vM a) a.length m) hos2
  have hxo : (os.mapM fun r : X1 => r.2.mapM fun x : X => outN x.1) = some o := by rw [iD, hos2]; exact hmo
  refine dE (z := 6) J <| bR (cR J) J <| jM (Φ := PhiM (41) (28) lo (n + 1 + 6) o 0) J (bA (by intro c hc; rw [List.mem_singleton] at hc; subst hc; exact (.sl _ _ fun row hr => aU dfX row hr))) Try.func88 J J (cW J) J (.inr (pH (n + 1 + 6) lo ko os o om (fun r hr => by have := how r hr; omega) om hxo)) ?_
  intro r h' n1 hP
  refine ⟨cutH (n + 1 + 6) h', .cut, ?_⟩
  obtain ⟨q9, a9, hr9, hP2⟩ := hP
  subst hr9
  refine bR (bU J J) J <| bR (bU J J) J <| bR (fV J) J <| bR (fV J) J <| dV <| aK ?_
  exact ⟨.inr J, _, rfl, PhiM.to (lo := lo) (n := n + 1 + 6) ⟨q9, a9, rfl, hP2⟩ hLo hEo hone om om (fun q x hq h => (gW hq).trans h)⟩
 refine Wn <| aV J <| aF <| aG ?_
 have hol : os.length = a.length := by have := congrArg List.length hos; rw [bQ, nU] at this; exact this
 have how := iK (lS (vM a) a.length (m % 2 ^ i)) hos
 have hob : ∀ r, r ∈ os → ∀ x, x ∈ r.2 → Bd 131001 x.1 := fun r hr x hx => hpb (m % 2 ^ i) (by have := Nat.mod_le m (2 ^ i); omega) (r.2.map (·.1)) (by rw [← hos]; exact List.mem_map.2 ⟨r, hr, rfl⟩) x.1 (List.mem_map.2 ⟨x, hx, rfl⟩)
 have hb10 := jA (x := m) (n := 10) om
 have hxv := hxs om
 have hxl : xs.length = a.length := by have := congrArg List.length hxv; rw [bQ, lF hvl] at this; exact this
 have hxw := iK (nA hvw i) hxv
 have hxb : ∀ r, r ∈ xs → ∀ x, x ∈ r.2 → Bd 131001 x.1 := fun r hr x hx => hqb i om (r.2.map (·.1)) (by rw [← hxv]; exact List.mem_map.2 ⟨r, hr, rfl⟩) x.1 (List.mem_map.2 ⟨x, hx, rfl⟩)
 have hwx := wdx_of hxl hxw
 have hstep := mod_step m i
 refine Rg 2 J <| Um J J <| Ua J J <| Wn <| aC <| Rg 5 J <| Um J J <| Um J J <| aA (oShrI (m := m) (s := i) J J om) J <| aA (eW (a := ((m / 2 ^ i : Nat) : Int)) (b := 1) J J (and1I (by have := Nat.div_le_self m (2 ^ i); omega))) J <| aA (fR J J) J <| aW (fun h39 => ?_) (fun h39 => ?_)
 rotate_left
 ·refine Wn <| aR J <| aF ?_
  have hos2 : vX os = pw (vM a) a.length (m % 2 ^ (i + 1)) := by rw [hos, hstep, show m / 2 ^ i % 2 = 0 by omega, Nat.mul_zero, Nat.add_zero]
  refine Rg 5 J <| Um J J <| Um J J <| aA (cI (((i + 1 : Nat) : Int)) (aQ J J om) om) J <| aA (oShrI (m := m) (s := i + 1) J J om) J <| aA (fU J J) J <| aW (fun h47 => ?_) (fun h47 => ?_)
  rotate_left
  ·refine Nk [1,6,7,31,32,47] J <| bH J <| bJ <| aD <| aI (z := 2) J <| aA (cI (((i + 1 : Nat) : Int)) (aQ J J om) om) J <| Um J J <| Wn <| aH <| ⟨⟨i + 1, _, _, xs, os⟩, ⟨J, J, J, J, J, trivial⟩, trivial, ⟨om, fun h => absurd (kW h) om, hos2, om⟩, by show blen m - (i + 1) < blen m - i; omega⟩
  refine Nk [1,6,7,31,32,47] J <| bI J ?_
  obtain ⟨r2, hr2, rows2, rfl, hrows2⟩ := gF kx kx xs xs 131001 131001 om om om (fun r hr => by rw [hwx]; exact hxw r hr) (fun r hr => by rw [hxl]; exact hxw r hr) hxb hxb (by decide) om
  have hx2 : vX rows2 = sqm (vM a) a.length (i + 1) := by rw [hrows2, hxv, hwx]; rfl
  refine aI (z := 4) J <| Um J J <| Um J J <| aA (aE J (hr2) dD) J <| Ua J J <| Wn <| aD <| aI (z := 2) J <| aA (cI (((i + 1 : Nat) : Int)) (aQ J J om) om) J <| Um J J <| Wn <| aH <| ⟨⟨i + 1, _, _, rows2, os⟩, ⟨J, J, J, J, J, trivial⟩, trivial, ⟨om, fun _ => hx2, hos2, om⟩, by show blen m - (i + 1) < blen m - i; omega⟩
 refine Wn <| aV J ?_
 obtain ⟨r, hr, rows, rfl, hrows⟩ := gF ko kx os xs 131001 131001 om om om (fun r hr => by rw [hwx]; exact hxw r hr) (fun r hr => by rw [hxl]; exact how r hr) hob hxb (by decide) om
 have hos2 : vX rows = pw (vM a) a.length (m % 2 ^ (i + 1)) := by
  rw [hrows, hos, hxv, hwx, pw_sq hvl hvw i, hstep, show m / 2 ^ i % 2 = 1 by omega, Nat.mul_one]
 refine Rg 4 J <| Um J J <| Um J J <| aA (aE J (hr) dD) J <| Ua J J <| Nk [1,6,7,8,31,32] J <| Rg 5 J <| Um J J <| Um J J <| aA (cI (((i + 1 : Nat) : Int)) (aQ J J om) om) J <| aA (oShrI (m := m) (s := i + 1) J J om) J <| aA (fU J J) J <| aW (fun h47 => ?_) (fun h47 => ?_)
 rotate_left
 ·refine Wn <| bH J <| bJ <| aD <| aI (z := 2) J <| aA (cI (((i + 1 : Nat) : Int)) (aQ J J om) om) J <| Um J J <| Wn <| aH <| ⟨⟨i + 1, _, _, xs, rows⟩, ⟨J, J, J, J, J, trivial⟩, trivial, ⟨om, fun h => absurd (kW h) om, hos2, om⟩, by show blen m - (i + 1) < blen m - i; omega⟩
 refine Wn <| bI J ?_
 obtain ⟨r2, hr2, rows2, rfl, hrows2⟩ := gF kx kx xs xs 131001 131001 om om om (fun r hr => by rw [hwx]; exact hxw r hr) (fun r hr => by rw [hxl]; exact hxw r hr) hxb hxb (by decide) om
 have hx2 : vX rows2 = sqm (vM a) a.length (i + 1) := by rw [hrows2, hxv, hwx]; rfl
 refine aI (z := 4) J <| Um J J <| Um J J <| aA (aE J (hr2) dD) J <| Ua J J <| Wn <| aD <| aI (z := 2) J <| aA (cI (((i + 1 : Nat) : Int)) (aQ J J om) om) J <| Um J J <| Wn <| aH <| ⟨⟨i + 1, _, _, rows2, rows⟩, ⟨J, J, J, J, J, trivial⟩, trivial, ⟨om, fun _ => hx2, hos2, om⟩, by show blen m - (i + 1) < blen m - i; omega⟩
theorem mreduce_own (n0 lo : Nat) (k : Nat) (a : List M1) (hI : IM a) (hF : Few8 a) (hne : 0 < a.length) (hlo : lo ≤ n0) (hL : redR a ≠ []) : WC Try.prog T E0 Try.f31.ntmps (codeOf Try.f31) (argsEnv 0 [.sl k (a.map fM)]) [] n0 (fun yy e' h' n' => (yy = .normal ∨ yy = .ret) ∧ ∃ ls', resE e' T h' Try.f31.results.toList = some ls' ∧ PhiM (41) (28) lo n0 (redR a) (re a) (resultLV ls') h' n') := by
 obtain ⟨hVa0, o, hmo, hone, hLo, _⟩ := oL_ne (er := 0) (show oL (VM a = true) (redO a) ≠ [] from hL)
 have hLo : redR a = o := hLo
 have hEo : re a = 0 := re_0 hVa0 hmo
 have l1 := hF.ln
 have l2 : ∀ r, r ∈ a → r.2.length < 1099511627776 := fun r hr => by have := hF.lr r hr; omega
 change WC _ _ _ _ _ [(0, .sl k (a.map fM))] _ _ _
 refine Rg 2 J <| Ua J J <| Ua J J <| Wn <| aC <| Rg 3 J <| Um J J <| aA (aE J (bV k a hI om (fun r hr => by have := l2 r hr; omega)) dD) J <| dM (fun h8 => ?_) (fun h8 => ?_)
 rotate_left
 ·refine aA (bZ J) J <| Wn <| aV J <| aC <| Rg 2 J <| Ua J J <| Ua J J <| Wn <| bM ?_
  rw [hVa0] at h8; cases h8
 refine aA (bZ J) J <| Wn <| aR J <| aF ?_
 obtain ⟨f1, f2⟩ := VM.facts h8
 have hvn : ∀ r, r ∈ a → ∀ x, x ∈ r.2 → VN x := fun r hr => (f2 r hr).2.2
 have hw8 := iG h8 hF
 have hl8 : (a.map nxr).length = a.length := by simp
 obtain ⟨r, hr, rows, d, rfl, hrows, hd⟩ := eU (a.map nxr) (wd a) (wd a) (by rw [hl8]; exact hne) (by rw [hl8]; omega) (by rw [eP a]; exact iJ h8) om om om (by rw [eP a]; exact iF h8)
 rw [eP a] at hrows hr
 refine Rg 13 J <| Um J J <| aA (aS (b := .sl 1 ((a.map nxr).map fX)) (aE J (cE k a om hI (fun r hr x hx => by have := (hvn r hr x hx).1; omega) l2) dD) (by rw [hl8, kd, if_neg om])) J <| Um J J <| aA (aE J (cN k a) dD) J <| aA (aE J (hr) dD) J <| Um J J <| aA (bU J J) J <| aA (bU J J) J <| aA (bU J J) J <| bL (gM J) J <| Ua J J <| Ua J J <| bB (dH (cs' := [_, _, _, _]) J J J g0 J J J J) <| Nk [4] J ?_
 have hrl : ∀ r, r ∈ rows → r.2.length < 1099511627776 := by
  intro r hr
  have GI := GInv.all (iF h8) (iJ h8) (wd a)
  have := GI.wid (r.2.map (·.1)) (by rw [← hrows]; exact List.mem_map.2 ⟨r, hr, rfl⟩)
  rw [List.length_map] at this; omega
 have hxo : (rows.mapM fun r : X1 => r.2.mapM fun x : X => outN x.1) = some o := by rw [iD, hrows]; exact hmo
 refine dE (z := 6) J <| bR (cR J) J <| jM (Φ := PhiM (41) (28) lo (n0 + 2 + 3 + 13 + 6) o 0) J (bA (by intro c hc; rw [List.mem_singleton] at hc; subst hc; exact (.sl _ _ fun row hr => aU dfX row hr))) Try.func88 J J (cW J) J (.inr (pH (n0 + 2 + 3 + 13 + 6) lo 1 rows o (by rw [← bQ rows, hrows, cP]; simp [vM]; omega) hrl om hxo)) ?_
 intro r h' n1 hP
 refine ⟨cutH (n0 + 2 + 3 + 13 + 6) h', .cut, ?_⟩
 obtain ⟨q9, a9, hr9, hP2⟩ := hP
 subst hr9
 refine bR (bU J J) J <| bR (bU J J) J <| bR (fV J) J <| bR (fV J) J <| dV <| aK ?_
 exact ⟨.inr J, _, rfl, PhiM.to (lo := lo) (n := (n0 + 2 + 3 + 13 + 6)) ⟨q9, a9, rfl, hP2⟩ hLo hEo hone om om (fun q x hq h => (gW hq).trans h)⟩
theorem msolve_own (n0 lo : Nat) (k k2 : Nat) (a : List M1) (b : List NM) (hI : IM a) (hIb : IV b) (hF : Few8 a) (lb : b.length ≤ 70) (hne : 0 < a.length) (hlo : lo ≤ n0) (hL : sll a b ≠ []) : WC Try.prog T E0 Try.f32.ntmps (codeOf Try.f32) (argsEnv 0 [.sl k (a.map fM), .sl k2 (b.map mc)]) [] n0 (fun yy e' h' n' => (yy = .normal ∨ yy = .ret) ∧ ∃ ls', resE e' T h' Try.f32.results.toList = some ls' ∧ PhiS (28) lo n0 (sln a b) (sll a b) (sle a b) (resultLV ls') h' n') := by
 obtain ⟨hok, o, hmo, hone, hLo, _⟩ := oL_ne (er := 0) (show oL (solOk a b = true) (solO a b) ≠ [] from hL)
 have hLo : sll a b = o := hLo
 obtain ⟨hVa0, hVb0, hab0, hns⟩ := solOk_f hok
 have l1 := hF.ln
 have l2 : ∀ r, r ∈ a → r.2.length < 1099511627776 := fun r hr => by have := hF.lr r hr; omega
 change WC _ _ _ _ _ [(0, .sl k (a.map fM)), (1, .sl k2 (b.map mc))] _ _ _
 refine Rg 3 J <| Ua J J <| Ua J J <| Ua J J <| Wn <| aG <| Rg 9 J <| Um J J <| aA (aE J (bV k a hI om (fun r hr => by have := l2 r hr; omega)) dD) J <| dM (fun h13 => ?_) (fun h13 => ?_)
 rotate_left
 ·refine aA (bZ J) J <| Um J J <| K1 J J <| K1 J J <| K1 J J <| aA (cG J J) J <| Ua J J <| Wn <| bI J <| Rg 3 J <| Ua J J <| Ua J J <| Ua J J <| Wn <| aK <| aO ?_
  rw [hVa0] at h13; cases h13
 refine aA (bZ J) J <| Um J J <| aJ J (cR J) J <| aJ J (aE J (lU k2 b hIb om) dD) J <| dM (fun h17 => ?_) (fun h17 => ?_)
 rotate_left
 ·refine aJ J (bZ J) J <| aA (cD J J) J <| Ua J J <| Wn <| bI J <| Rg 3 J <| Ua J J <| Ua J J <| Ua J J <| Wn <| aK <| aO ?_
  rw [hVb0] at h17; cases h17
 refine aJ J (bZ J) J <| aA (cD J J) J <| Ua J J <| Wn <| bH J <| Rg 6 J <| Um J J <| aA (aX J J) J <| Um J J <| aA (aX J J) J <| aA (eG J J) J <| aW (fun h25 => ?_) (fun h25 => ?_)
 ·refine Ua J J <| Nk [0,1,20] J <| bI J <| Rg 3 J <| Ua J J <| Ua J J <| Ua J J <| Wn <| aK <| aO ?_
  omega
 refine Ua J J <| Nk [0,1,20] J <| bH J <| bJ <| aD ?_
 obtain ⟨f1, f2⟩ := VM.facts h13
 have hvn : ∀ r, r ∈ a → ∀ x, x ∈ r.2 → VN x := fun r hr => (f2 r hr).2.2
 obtain ⟨g1', hvb⟩ := VV.facts h17
 have hw8 := iG h13 hF
 have hab : a.length = b.length := by omega
 have hl8 : (a.map nxr).length = a.length := by simp
 obtain ⟨r, hr, hrr⟩ := oK (a.map nxr) (kd (b.map nx).length) (b.map nx) (wd a) (by rw [hl8]; exact hne) (by rw [hl8]; omega) (fun r hr => by obtain ⟨s, hs, rfl⟩ := List.mem_map.1 hr; show (s.2.map nx).length = _; rw [List.length_map]; exact (f2 s hs).1) (fun r hr => by obtain ⟨s, hs, rfl⟩ := List.mem_map.1 hr; rfl) (by simp [hab]) om (by rw [eP]; exact iF h13) (fun x hx => by obtain ⟨y, hy, rfl⟩ := List.mem_map.1 hx; exact (hvb y hy).bd)
 rw [wR_M] at hrr
 obtain ⟨ks, kk, xs, rfl, hx1, hx2, hxl⟩ : ∃ (ks : Int) (kk : Nat) (xs : List X), r = .tup [.v (.int .i64 ks), .sl kk (xs.map xc)] ∧ (nosol (solS a b) (wd a) = true → ks = 0 ∧ xs = []) ∧ (nosol (solS a b) (wd a) = false → ks = solk (solS a b) (wd a) ∧ xs.map (·.1) = solv (solS a b) (wd a) (solS a b).2.length) ∧ xs.length ≤ 8 := by
  cases hn : nosol (solS a b) (wd a) with
  | true => rw [show nosol (gjn (wR (vM a) (b.map nq)) (wd a)) (wd a) = true from hn, if_pos rfl] at hrr; exact ⟨0, 0, [], hrr, fun _ => ⟨rfl, rfl⟩, fun h => by (cases h), by decide⟩
  | false =>
   rw [show nosol (gjn (wR (vM a) (b.map nq)) (wd a)) (wd a) = false from hn, if_neg (by decide)] at hrr
   obtain ⟨xs, h1, h2⟩ := hrr
   exact ⟨_, 1, xs, h1, fun h => by (cases h), fun _ => ⟨rfl, h2⟩, by have := congrArg List.length h2; rw [qR, List.length_map] at this; omega⟩
 have ho1 : nosol (solS a b) (wd a) = true → ks = 0 ∧ (xs.mapM fun x => outN x.1) = some [] := fun h => ⟨(hx1 h).1, by rw [(hx1 h).2]; rfl⟩
 have ho2 : nosol (solS a b) (wd a) = false → ks = solk (solS a b) (wd a) ∧ (xs.mapM fun x => outN x.1) = solO a b := fun h => ⟨(hx2 h).1, by rw [show (xs.mapM fun x => outN x.1) = (xs.map (·.1)).mapM outN from (fW outN (·.1) xs).symm, (hx2 h).2]; rfl⟩
 have hfin := qD h13 h17 hab (xs.mapM fun x => outN x.1) ks ho1 ho2
 refine Rg 12 J <| Um J J <| aA (aS (b := .sl 1 ((a.map nxr).map fX)) (aE J (cE k a om hI (fun r hr x hx => by have := (hvn r hr x hx).1; omega) l2) dD) (by rw [hl8, kd, if_neg om])) J <| Um J J <| aA (aE J (fZ k2 b om hIb (fun x hx => by have := (hvb x hx).1; omega)) dD) J <| Um J J <| aA (aE J (cN k a) dD) J <| aA (aE J (hr) dD) J <| Um J J <| aA (bU J J) J <| aA (bU J J) J <| Ua J J <| Ua J J <| Nk [7,8] J ?_
 have hxo : (xs.mapM fun x : X => outN x.1) = some o := by rw [(ho2 hns).2]; exact hmo
 refine dE (z := 7) J <| bR (cR J) J <| jM (Φ := PhiN (28) lo (n0 + 3 + 9 + 6 + 12 + 7) o 0) J (bA (by intro c hc; rw [List.mem_singleton] at hc; subst hc; exact (.sl _ _ fun row hr => aU rD row hr))) Try.func93 J J (cW J) J (.inr (nouts_F (n0 + 3 + 9 + 6 + 12 + 7) lo kk xs o om om hxo)) ?_
 rintro r h' n1 ⟨q9, rfl, hn1, hq0, hq1, hg⟩
 refine ⟨outH q9 2 (28) (o.map mc) [], bothN hg .nil, ?_⟩
 refine bR (cR J) J <| bR (bU J J) J <| bR (bU J J) J <| bR (fV J) J <| bR (fV J) J <| dV <| aC <| Rg 2 J <| Um J J <| aA (eG J J) J <| aW (fun h42 => ?_) (fun h42 => ?_)
 ·refine Wn <| aV J <| aC <| Rg 4 J <| Um J J <| Ua J J <| Ua J J <| Ua J J <| Nk [4,5,6] J <| bM ?_
  exact absurd J h42
 refine Wn <| aR J <| aF <| Rg 5 J <| Um J J <| Um J J <| Ua J J <| Ua J J <| Ua J J <| Nk [4,5,6] J <| aK ?_
 have hfin2 := hfin
 rw [hxo] at hfin2
 have e3 : lvSol a b = .tup [.v (.int .i64 ks), .sl (kd o.length) (o.map mc), .v (.int .i64 0)] := hfin2.trans (by rfl)
 unfold lvSol at e3
 injection e3 with e3
 injection e3 with e4 e5
 injection e5 with e5 e6
 injection e6 with e6 _
 refine ⟨.inr J, _, rfl, q9, ?_, om, om, om, fun h => ⟨by rw [hLo] at h; have := (hg h).1; omega, by rw [hLo] at h ⊢; exact ogN h⟩⟩
 rw [hLo, e4, e6]; rfl
theorem minverse_own (n0 lo : Nat) (k : Nat) (a : List M1) (hI : IM a) (hF : Few8 a) (hne : 0 < a.length) (hlo : lo ≤ n0) (hL : ivRR a ≠ []) : WC Try.prog T E0 Try.f33.ntmps (codeOf Try.f33) (argsEnv 0 [.sl k (a.map fM)]) [] n0 (fun yy e' h' n' => (yy = .normal ∨ yy = .ret) ∧ ∃ ls', resE e' T h' Try.f33.results.toList = some ls' ∧ PhiM (41) (28) lo n0 (ivRR a) (inve a) (resultLV ls') h' n') := by
 obtain ⟨hok, o, hmo, hone, hLo, _⟩ := oL_ne (er := 0) (show oL (invOk a = true) (invO a) ≠ [] from hL)
 have hLo : ivRR a = o := hLo
 have hEo : inve a = 0 := inve_0 hok hmo
 obtain ⟨hVa0, hsq0, hns0⟩ := invOk_f hok
 have l1 := hF.ln
 have l2 : ∀ r, r ∈ a → r.2.length < 1099511627776 := fun r hr => by have := hF.lr r hr; omega
 change WC _ _ _ _ _ [(0, .sl k (a.map fM))] _ _ _
 refine Rg 2 J <| Ua J J <| Ua J J <| Wn <| aG <| Rg 4 J <| Um J J <| aA (aE J (bV k a hI om (fun r hr => by have := l2 r hr; omega)) dD) J <| dM (fun h15 => ?_) (fun h15 => ?_)
 rotate_left
 ·refine aA (bZ J) J <| Ua J J <| Wn <| bI J <| Rg 2 J <| Ua J J <| Ua J J <| Wn <| aK <| aO ?_
  rw [hVa0] at h15; cases h15
 refine aA (bZ J) J <| Ua J J <| Wn <| bH J <| Rg 4 J <| Um J J <| aA (aE J (eL k a) dD) J <| dM (fun h19 => ?_) (fun h19 => ?_)
 rotate_left
 ·refine aA (bZ J) J <| Ua J J <| Wn <| bI J <| Rg 2 J <| Ua J J <| Ua J J <| Wn <| aK <| aO ?_
  rw [hsq0] at h19; cases h19
 refine aA (bZ J) J <| Ua J J <| Wn <| bH J <| bJ <| aD ?_
 obtain ⟨f1, f2⟩ := VM.facts h15
 have hvn : ∀ r, r ∈ a → ∀ x, x ∈ r.2 → VN x := fun r hr => (f2 r hr).2.2
 have hw8 := iG h15 hF
 have hsq := qS h19
 have hmr := cE k a om hI (fun r hr x hx => by have := (hvn r hr x hx).1; omega) l2
 obtain ⟨al, hal⟩ : ∃ al, al = a.map nxr := ⟨_, rfl⟩
 have hl8 : al.length = a.length := by rw [hal]; simp
 have hw : ∀ r, r ∈ al → r.2.length = al.length := fun r hr => by
  rw [hal] at hr; obtain ⟨s, hs, rfl⟩ := List.mem_map.1 hr
  show (s.2.map nx).length = _; rw [List.length_map, (f2 s hs).1, hsq, hl8]
 have hk : ∀ r, r ∈ al → r.1 = kd r.2.length := fun r hr => by
  rw [hal] at hr; obtain ⟨s, hs, rfl⟩ := List.mem_map.1 hr; rfl
 have hvm : vX al = vM a := by rw [hal]; exact eP a
 have hba : BdL 2 (vX al) := by rw [hvm]; exact iF h15
 rw [← hal] at hmr
 have hvmr := congrArg List.length hvm
 have hiS : invS a = gjn (wU (vX al)) al.length := by unfold invS; rw [hvm, hl8]
 rw [kd, if_neg om] at hmr
 refine Rg 3 J <| Um J J <| aA (cI ((al.length : Int)) (aX J J) (by simp [hl8])) J <| Ua J J <| Wn <| Rg 1 J <| Ua J J <| Nk [0,4,5] J <| Rg 3 J <| Um J J <| aA (aE J (kC al.length om) dD) J <| Ua J J <| Wn <| aC <| Rg 4 J <| Um J J <| aA (aE J (hmr) dD) J <| aA (aX J J) J <| Um J J <| Wn <| aG <| aY (α := Nat × Nat × (List X1)) (fun ⟨i, q, ds⟩ => [(4, .v (.int .i64 (al.length : Int))), (5, outV q 1 (ds.map fX)), (6, .sl 1 (((List.range al.length).map fun i => (((1 : Nat), uX al.length i) : X1)).map fX)), (26, .sl 1 (al.map fX)), (27, .v (.int .i64 (al.length : Int))), (28, .v (.int .i64 (i : Int)))]) (fun ⟨i, q, ds⟩ => outH q 1 108 (ds.map fX) []) (fun ⟨i, q, ds⟩ n => i ≤ al.length ∧ ds = (List.range i).map (wUX al) ∧ ds.length = i ∧ q < n ∧ n0 ≤ n) (fun ⟨i, q, ds⟩ => al.length - i) (0, 0, []) ⟨J, J, J, J, J, J, trivial⟩ trivial ⟨Nat.zero_le _, rfl, rfl, om, om⟩ ?_
 rintro ⟨i, q, ds⟩ n hF
 change WC _ _ _ _ _ (_ :: _) (outH _ _ _ _ _) n _
 obtain ⟨hi, hds, hdl, hq, hn0⟩ := hF
 refine Rg 1 J <| aA (bS J J) J <| aW (fun h29 => ?_) (fun h29 => ?_)
 ·refine Wn <| aV J <| aF <| aG <| Rg 5 J <| Um J J <| aA (bY J J J J J om J) J <| aA (dQ J J J) J <| Ua J J <| Ua J J <| cM ?_
  have hm := bD (us := al) (i := i) om
  have hrw := hw _ hm
  have hrk := hk _ hm
  have hc0 : ((al.getD i default).2.map xc) = [] → Run Try.prog T E0 (.call 99 [.sl (al.getD i default).1 ((al.getD i default).2.map xc)] (.sl 0 [])) := fun h => by
   rw [hrk, xc_nil h]; exact lK
  have hc1 : ((al.getD i default).2.map xc) ≠ [] → Run Try.prog T E0 (.callO 99 [.sl (al.getD i default).1 ((al.getD i default).2.map xc)] (.ref 0 4 0 ((al.getD i default).2.map xc).length) { cells := ((al.getD i default).2.map xc).flatten, sz := 4, elem := 114, st := 0 }) := fun h => by
   have h2 : 0 < (al.getD i default).2.length := by
    rcases Nat.eq_zero_or_pos (al.getD i default).2.length with h3 | h3
    ·exact absurd (by rw [List.length_eq_zero_iff.1 h3]; rfl) h
    ·exact h3
   obtain ⟨_, _, _, h4, rfl, rfl, rfl⟩ := jC (al.getD i default).1 (al.getD i default).2 (by rw [hrk, kd, if_neg om]; decide) h2 om
   rw [List.length_map]; exact h4
  have hux : (uX al.length i).length = al.length := qZ _ _
  have hul : ((List.range al.length).map fun i => (((1 : Nat), uX al.length i) : X1)).length = al.length := by simp
  refine nD (z := 11) J kR <| Dm J J <| Dm J J <| pO (us := (al.getD i default).2.map xc) (sz := 4) (el := 114) J hc0 hc1 dD J <| Dm J J <| Dm J J <| aL (bY (j := i) J J J J om om J) J <| aL (aS (b := .sl 1 ((uX al.length i).map xc)) (dQ J J J) (by rw [eN om])) J <| pN (te := ti114) (k0 := 0) (us := (al.getD i default).2.map xc) (rows := (uX al.length i).map xc) (.inl J) J J J J J (by decide) (bK (n := 4) (fun _ => rfl)) (bK (n := 4) (fun _ => rfl)) (by rw [List.length_map, hux]; omega) (by rw [List.length_map, List.length_map, hrw, hux]; show (2 * (al.length + al.length) + 256) * 64 ≤ _; omega) (by rw [List.length_map, List.length_map, hrw, hux]; show al.length + al.length < _; omega) (aM om J) J <| aL (dJ (cs := [_]) (rows := [[_]]) J J (by decide) J J J) J <| lV _ (nS om) <| pN (te := ti108) (k0 := 0) (us := ds.map fX) (rows := [[_]]) (.inl J) J J J (by rw [kX]; rfl) J (by decide) (by intro r hr; rw [List.mem_singleton] at hr; subst hr; rfl) (bK (n := 1) (fun _ => rfl)) (by simp) (by rw [List.length_map]; show (2 * (ds.length + 1) + 256) * 24 ≤ _; omega) (by rw [List.length_map]; show ds.length + 1 < _; omega) (g1 om J) J <| aL (fV J) J <| bT (lL (rn n) (by simp only [List.reverse_cons, List.reverse_nil, List.nil_append, List.cons_append, List.map_cons, List.map_nil, ren, Nat.add_assoc, rn_add, rn_lt hq]; kernel_rfl)) J <| Fz.rows (d := 5) ds (wUX al i) (ys := ((al.getD i default).2 ++ (uX al.length i)).map xc) [(4, _), (6, _), (26, _), (27, _), (28, _)] ⟨J, J, J, J, J, trivial⟩ J (by simp) J om (by simp) (by decide) (by simp) (bK (n := 4) (fun _ => rfl)) (aU rD) <| aD <| aI (z := 2) J <| aA (cI (((i + 1 : Nat) : Int)) (aQ J J om) om) J <| Um J J <| Wn <| aH ?_
  refine ⟨⟨i + 1, _, ds ++ [wUX al i]⟩, ⟨J, J, J, J, J, J, trivial⟩, dT, ⟨om, by rw [List.range_succ, List.map_append, hds]; rfl, by simp; omega, om, om⟩, by show al.length - (i + 1) < al.length - i; omega⟩
 refine Wn <| aR J <| aT <| aP <| aN J ?_
 obtain ⟨d0, dt, rfl⟩ : ∃ d0 dt, ds = d0 :: dt := by
  cases ds with
  | nil => simp at hdl; omega
  | cons d dt => exact ⟨d, dt, rfl⟩
 obtain rfl : i = al.length := by omega
 have hvw : vX (d0 :: dt) = wU (vX al) := by rw [hds]; exact vX_wU al
 have hwid : Wid (al.length + al.length) (wU (vX al)) := by
  have h := wU_wid (A := vX al) (w := al.length) (fun r hr => by obtain ⟨s, hs, rfl⟩ := List.mem_map.1 hr; rw [List.length_map]; exact hw s hs)
  rwa [bQ] at h
 have hbd : BdL 2 (wU (vX al)) := wU_bd (by decide) hba
 obtain ⟨sz, len, ob, rest, hr, rfl, rows, d, rfl, rfl, rfl, hrows⟩ := mI (d0 :: dt) al.length (al.length + al.length) (by simp) om (by rw [hvw]; exact hwid) om om om (by rw [hvw]; exact hbd)
 rw [hvw] at hr hrows
 obtain ⟨_, gw, gl, gc⟩ := GInv.all hbd hwid al.length
 have hrl : rows.length = al.length := by
  have := congrArg List.length hrows
  rw [cP, rA, bQ, bQ] at this; exact this
 rw [rA, bQ] at gl
 rw [← hiS] at hr hrows gw gl
 have hwr := iK gw hrows
 clear hiS hvmr
 refine Rg 11 J <| Um J J <| Um J J <| bL (oCallOF [.sl 1 ((d0 :: dt).map fX), .v (.int .i64 (al.length : Int))] [(q, { cells := ((d0 :: dt).map fX).flatten, sz := 1, elem := 108, st := 1 })] J hr (.own (ob := { cells := ((d0 :: dt).map fX).flatten, sz := 1, elem := 108, st := 0 }) ((d0 :: dt).map fX) (by simp) g0 (by show (0 : Nat) ≠ 2; decide) J (by decide) (by simp [keys]) J (bK (n := 1) (fun _ => rfl)) (aU dfX) (.data (.v _) .nil)) (by intro p hp; rw [List.mem_singleton] at hp; subst hp; exact ⟨_, g0, by show (0 : Nat) ≠ 2; decide, rfl⟩)) J <| Um J J <| aA (bU J J) J <| aA (bU J J) J <| aA (bU J J) J <| bL (gM J) J <| Ua J J <| Ua J J <| bB (dH (cs' := [_, _, _, _]) J J J g0 J J J J) <| Nk [4,9,10] J <| aC <| Rg 4 J <| Um J J <| aA (aX J J) J <| Um J J <| aA (bS J J) J <| aW (fun h54 => ?_) (fun h54 => ?_)
 ·refine Wn <| aV J <| aC <| Rg 2 J <| Ua J J <| Ua J J <| Wn <| bM ?_
  exact absurd (show (invS a).2.length < a.length by omega) hns0
 refine Wn <| aR J <| aF <| aC <| Rg 3 J <| Um J J <| aA (kF J J) J <| Um J J <| Wn <| aG <| aY (α := Nat × Nat × (List X1)) (fun ⟨i, q2, cs⟩ => [(4, .v (.int .i64 (al.length : Int))), (9, .ref q2 1 0 rows.length), (56, .v (.int .i64 (rows.length : Int))), (57, .v (.int .i64 (i : Int)))]) (fun ⟨i, q2, cs⟩ => [(q2, { cells := (cs.map fX).flatten, sz := 1, elem := 108, st := 0 })]) (fun ⟨i, q2, cs⟩ n => i ≤ rows.length ∧ cs = (rows.take i).map (cutX al.length) ++ rows.drop i ∧ n0 ≤ n) (fun ⟨i, q2, cs⟩ => rows.length - i) (0, _, rows) ⟨J, J, J, J, trivial⟩ ⟨gG, trivial⟩ ⟨Nat.zero_le _, rfl, om⟩ ?_
 rintro ⟨i, q2, cs⟩ n hF
 change WC _ _ _ _ _ (_ :: _) (_ :: _) n _
 obtain ⟨hi, hcs, hn02⟩ := hF
 have hcl : cs.length = rows.length := by rw [hcs, half_len hi]
 refine kO (z := 1) J <| aA (bS J J) J <| aW (fun h58 => ?_) (fun h58 => ?_)
 ·refine Wn <| Fz.same [(4, _), (9, _), (56, _), (57, _), (58, _)] _ ⟨J, J, J, J, J, trivial⟩ (fun _ _ h => h) <| aV J <| aF <| aG <| Rg 2 J <| Um J J <| Ua J J <| Wn <| aI (z := 10) J <| Um J J <| Um J J <| Um J J <| Um J J <| aA (cC J J J J J om J) J <| aA (aS (b := .sl (rows.getD i default).1 ((rows.getD i default).2.map xc)) (dZ (f := fX) (us := cs) (j := i) J J g0 (fun _ => rfl) J (by decide) om J) (by rw [hcs, rO om])) J <| Um J J <| aA (aS (b := .sl (rows.getD i default).1 (((rows.getD i default).2.drop al.length).map xc)) (oSlLo (i := al.length) J J J (bK (f := xc) (n := 4) (fun _ => rfl)) J J (by rw [List.length_map, hwr _ (bD om)]; omega)) (by rw [List.map_drop])) J <| aA (cC J J J J J om J) J <| bB (eA (f := fX) (us := cs) (cutX al.length (rows.getD i default)) J J J g0 (fun _ => rfl) J J om J) <| Wn <| aD <| Ck [4,9,56,57] J <| aI (z := 2) J ?_
  refine aA (cI (((i + 1 : Nat) : Int)) (aQ J J om) om) J <| Um J J <| Wn <| aH <| ⟨⟨i + 1, _, cs.set i (cutX al.length (rows.getD i default))⟩, ⟨J, J, J, J, trivial⟩, ⟨g0, trivial⟩, ⟨om, ?_, om⟩, by show rows.length - (i + 1) < rows.length - i; omega⟩
  rw [hcs, half_set om]
 refine cM ?_
 have hov : outV q2 1 (cs.map fX) = .ref q2 1 0 rows.length := by rw [kY (fun h => by have := congrArg List.length h; rw [List.length_map, List.length_nil] at this; omega), List.length_map, hcl]
 refine Fz.weakH (outH q2 1 108 (cs.map fX) []) (subsM.get (gC (fun _ => g0) trivial)) <| Fz.env (t := 9) (us := cs.map fX) [(4, _), (56, _), (57, _), (58, _)] ⟨J, J, J, J, trivial⟩ (by rw [hov]; rfl) (fun _ r o hr => by simp [getH] at hr) (by decide) (bK (n := 1) (fun _ => rfl)) (aU dfX) <| aR J <| aT <| aP <| aN J ?_
 have hcs' : cs = rows.map (cutX al.length) := by
  rw [hcs, show i = rows.length by omega, List.take_length, List.drop_length, List.append_nil]
 have hcr : ∀ r, r ∈ cs → r.2.length < 1099511627776 := by
  intro r hr
  rw [hcs'] at hr
  obtain ⟨s, hs, rfl⟩ := List.mem_map.1 hr
  have := hwr s hs
  show (s.2.drop al.length).length < _
  rw [List.length_drop]; omega
 have hxo : (cs.mapM fun r : X1 => r.2.mapM fun x : X => outN x.1) = some o := by rw [← hmo, iD, hcs', vX_cut, hrows, hl8]; rfl
 refine dE (z := 6) J <| bR (cR J) J <| jM (Φ := PhiM (41) (28) lo (n + 1 + 6) o 0) J (bA (by intro c hc; rw [List.mem_singleton] at hc; subst hc; exact (.sl _ _ fun row hr => aU dfX row hr))) Try.func88 J J (cW J) J (.inr (pH (n + 1 + 6) lo _ cs o om hcr om hxo)) ?_
 intro r h' n1 hP
 refine ⟨cutH (n + 1 + 6) h', .cut, ?_⟩
 obtain ⟨q9, a9, hr9, hP2⟩ := hP
 subst hr9
 refine bR (bU J J) J <| bR (bU J J) J <| bR (fV J) J <| bR (fV J) J <| dV <| aK ?_
 exact ⟨.inr J, _, rfl, PhiM.to (lo := lo) (n := n + 1 + 6) ⟨q9, a9, rfl, hP2⟩ hLo hEo hone om om (fun q x hq h => (gW hq).trans h)⟩
end Go.Proofs.Ytcblgjaomljikaa
namespace Go.Proofs.Ytcblgjaomljikaa
open Go.Ab Go.RowKit
theorem fY (k1 k2 : Nat) (a b : List M1) (hab : a.map (·.2) = b.map (·.2)) (ln : a.length < 1099511627776) (lr : ∀ r, r ∈ a → r.2.length < 1099511627776) : Run Try.prog T E0 (.call 38 [.sl k1 (a.map fM), .sl k2 (b.map fM)] (.v (.bool true))) := by
 have hl : a.length = b.length := by have := congrArg List.length hab; simpa using this
 have hij : ∀ i, i < a.length → (b.getD i default).2 = (a.getD i default).2 := fun i hi => by
  have := congrArg (fun l => l.getD i default) hab
  simp only [] at this
  rw [lO (f := fun r : M1 => r.2) hi, lO (f := fun r : M1 => r.2) om] at this
  exact this.symm
 refine bC Try.func38 J J (cW J) <| Rg 1 J <| Ua J J <| Wn <| aC <| Rg 5 J <| Um J J <| aA (aX J J) J <| Um J J <| aA (aX J J) J <| aA (eG J J) J <| aW (fun h10 => ?_) (fun h10 => ?_)
 ·omega
 refine Wn <| aR J <| aF <| aC <| Rg 3 J <| Um J J <| aA (aX J J) J <| Um J J <| Wn <| aG <| aY (α := Nat) (fun i => [(0, .sl k1 (a.map fM)), (1, .sl k2 (b.map fM)), (12, .v (.int .i64 (a.length : Int))), (13, .v (.int .i64 (i : Int)))]) (fun i => []) (fun i n => i ≤ a.length) (fun i => a.length - i) (0) ⟨J, J, J, J, trivial⟩ trivial (Nat.zero_le _) ?_
 rintro i n hF
 change WC _ _ _ _ _ (_ :: _) ([]) n _
 have hi : i ≤ a.length := hF
 refine Rg 1 J <| aA (bS J J) J <| aW (fun h14 => ?_) (fun h14 => ?_)
 rotate_left
 ·refine Wn <| aR J <| aT <| aP <| aN J <| Rg 1 J <| Ua J J <| Wn <| aK ?_
  exact post (n := 0) (.inr J) J J (by simp)
 refine Wn <| aV J <| aF <| aG <| Rg 2 J <| Um J J <| Ua J J <| Wn <| cJ (z := 10) J kR <| Dm J J <| Dm J J <| aL (bY J J J J J om J) J <| aL (dQ J J J) J <| Dm J J <| Dm J J <| aL (bY J J J J J om J) J <| aL (aS (b := .sl (b.getD i default).1 ((a.getD i default).2.map mc)) (dQ J J J) (by rw [hij i om])) J <| aL (aE J (gU (a.getD i default).1 (b.getD i default).1 (a.getD i default).2 (lr _ (bD om))) dD) J <| aL (bZ J) J <| bT (bE kR) J <| Ck [0,1,12,13,25] J <| bH J <| bJ <| aD ?_
 refine aI (z := 2) J <| aA (cI (((i + 1 : Nat) : Int)) (aQ J J om) om) J <| Um J J <| Wn <| aH <| ⟨i + 1, ⟨J, J, J, J, trivial⟩, trivial, by show i + 1 ≤ _; omega, by show a.length - (i + 1) < a.length - i; omega⟩
theorem mdet_o (k : Nat) (a : List M1) (hI : IM a) (hF : Few8 a) : Run Try.prog T E0 (.call 34 [.sl k (a.map fM)] (lvDet a)) := by
 cases a with
 | nil => exact mdetf_nil k
 | cons r a => exact mdetf_run k _ hI hF (by simp)
theorem mrank_o (k : Nat) (a : List M1) (hI : IM a) (hF : Few8 a) : Run Try.prog T E0 (.call 35 [.sl k (a.map fM)] (lvRank a)) := by
 cases a with
 | nil => exact mrank_nil k
 | cons r a => exact mrank_run k _ hI hF (by simp)
theorem minv_o (k : Nat) (a : List M1) (hI : IM a) (hF : Few8 a) : Run Try.prog T E0 (.call 33 [.sl k (a.map fM)] (lvInv a)) := by
 cases a with
 | nil => exact minverse_nil k
 | cons r a => exact minverse_run k _ hI hF (by simp)
theorem mred_o (k : Nat) (a : List M1) (hI : IM a) (hF : Few8 a) : Run Try.prog T E0 (.call 31 [.sl k (a.map fM)] (lvRed a)) := by
 cases a with
 | nil => exact mreduce_nil k
 | cons r a => exact oM k _ hI hF (by simp)
theorem msol_o (k k2 : Nat) (a : List M1) (b : List NM) (hI : IM a) (hIb : IV b) (hF : Few8 a) (lb : b.length ≤ 70) : Run Try.prog T E0 (.call 32 [.sl k (a.map fM), .sl k2 (b.map mc)] (lvSol a b)) := by
 cases a with
 | nil => exact msolve_nil k k2 b hIb lb
 | cons r a => exact msolve_run k k2 _ b hI hIb hF lb (by simp)
theorem mul_F (n lo : Nat) (k k2 : Nat) (a b : List M1) (hI : IM a) (hIb : IM b) (hF : Few8 a) (hFb : Few8 b) (hn : lo < n) : (∃ r, Run Try.prog T E0 (.call 28 [.sl k (a.map fM), .sl k2 (b.map fM)] r) ∧ PhiM (41) (28) lo n (mulR a b) (mule a b) r [] n) ∨ WC Try.prog T E0 Try.f28.ntmps (codeOf Try.f28) (argsEnv 0 [.sl k (a.map fM), .sl k2 (b.map fM)]) [] n (fun yy e' h' n' => (yy = .normal ∨ yy = .ret) ∧ ∃ ls', resE e' T h' Try.f28.results.toList = some ls' ∧ PhiM (41) (28) lo n (mulR a b) (mule a b) (resultLV ls') h' n') := by
 by_cases hL : mulR a b = []
 ·exact .inl ⟨_, mMul_run k k2 a b hI hIb hF hFb, .data hn hL (lvMul_eq a b)⟩
 ·exact .inr (mMul_own n lo k k2 a b hI hIb hF hFb om hL)
theorem app_F (n lo : Nat) (k k3 : Nat) (a : List M1) (x : List NM) (hI : IM a) (hIx : IV x) (hF : Few8 a) (lx : x.length ≤ 70) (hn : lo < n) : (∃ r, Run Try.prog T E0 (.call 29 [.sl k (a.map fM), .sl k3 (x.map mc)] r) ∧ PhiN (28) lo n (app1 a x) (appe a x) r [] n) ∨ WC Try.prog T E0 Try.f29.ntmps (codeOf Try.f29) (argsEnv 0 [.sl k (a.map fM), .sl k3 (x.map mc)]) [] n (fun yy e' h' n' => (yy = .normal ∨ yy = .ret) ∧ ∃ ls', resE e' T h' Try.f29.results.toList = some ls' ∧ PhiN (28) lo n (app1 a x) (appe a x) (resultLV ls') h' n') := by
 by_cases hL : app1 a x = []
 ·exact .inl ⟨_, qE k k3 a x hI hIx hF lx, .data hn hL (rfl)⟩
 ·exact .inr (mApply_own n lo k k3 a x hI hIx hF lx om hL)
theorem pow_F (n lo : Nat) (k : Nat) (a : List M1) (z : Int) (hI : IM a) (hF : Few8 a) (hn : lo < n) : (∃ r, Run Try.prog T E0 (.call 30 [.sl k (a.map fM), .v (.int .i64 z)] r) ∧ PhiM (41) (28) lo n (powR a z) (powe a z) r [] n) ∨ WC Try.prog T E0 Try.f30.ntmps (codeOf Try.f30) (argsEnv 0 [.sl k (a.map fM), .v (.int .i64 z)]) [] n (fun yy e' h' n' => (yy = .normal ∨ yy = .ret) ∧ ∃ ls', resE e' T h' Try.f30.results.toList = some ls' ∧ PhiM (41) (28) lo n (powR a z) (powe a z) (resultLV ls') h' n') := by
 by_cases hL : powR a z = []
 ·exact .inl ⟨_, qK k a z hI hF, .data hn hL (lvPow_eq a z)⟩
 ·exact .inr (mpower_own n lo k a z hI hF om hL)
theorem red_F (n lo : Nat) (k : Nat) (a : List M1) (hI : IM a) (hF : Few8 a) (hn : lo < n) : (∃ r, Run Try.prog T E0 (.call 31 [.sl k (a.map fM)] r) ∧ PhiM (41) (28) lo n (redR a) (re a) r [] n) ∨ WC Try.prog T E0 Try.f31.ntmps (codeOf Try.f31) (argsEnv 0 [.sl k (a.map fM)]) [] n (fun yy e' h' n' => (yy = .normal ∨ yy = .ret) ∧ ∃ ls', resE e' T h' Try.f31.results.toList = some ls' ∧ PhiM (41) (28) lo n (redR a) (re a) (resultLV ls') h' n') := by
 by_cases hL : redR a = []
 ·exact .inl ⟨_, mred_o k a hI hF, .data hn hL (lvRed_eq a)⟩
 ·have hne : 0 < a.length := by
   cases a with
   | nil => exact absurd (by rfl) hL
   | cons r a => simp
  exact .inr (mreduce_own n lo k a hI hF hne om hL)
theorem sol_F (n lo : Nat) (k k3 : Nat) (a : List M1) (x : List NM) (hI : IM a) (hIx : IV x) (hF : Few8 a) (lx : x.length ≤ 70) (hn : lo < n) : (∃ r, Run Try.prog T E0 (.call 32 [.sl k (a.map fM), .sl k3 (x.map mc)] r) ∧ PhiS (28) lo n (sln a x) (sll a x) (sle a x) r [] n) ∨ WC Try.prog T E0 Try.f32.ntmps (codeOf Try.f32) (argsEnv 0 [.sl k (a.map fM), .sl k3 (x.map mc)]) [] n (fun yy e' h' n' => (yy = .normal ∨ yy = .ret) ∧ ∃ ls', resE e' T h' Try.f32.results.toList = some ls' ∧ PhiS (28) lo n (sln a x) (sll a x) (sle a x) (resultLV ls') h' n') := by
 by_cases hL : sll a x = []
 ·exact .inl ⟨_, msol_o k k3 a x hI hIx hF lx, .data hn hL (rfl)⟩
 ·have hne : 0 < a.length := by
   cases a with
   | nil => exact absurd (by have := sll_len ([] : List M1) x; exact List.length_eq_zero_iff.1 (by have h0 : wd ([] : List M1) = 0 := rfl; omega)) hL
   | cons r a => simp
  exact .inr (msolve_own n lo k k3 a x hI hIx hF lx hne om hL)
theorem inv_F (n lo : Nat) (k : Nat) (a : List M1) (hI : IM a) (hF : Few8 a) (hn : lo < n) : (∃ r, Run Try.prog T E0 (.call 33 [.sl k (a.map fM)] r) ∧ PhiM (41) (28) lo n (ivRR a) (inve a) r [] n) ∨ WC Try.prog T E0 Try.f33.ntmps (codeOf Try.f33) (argsEnv 0 [.sl k (a.map fM)]) [] n (fun yy e' h' n' => (yy = .normal ∨ yy = .ret) ∧ ∃ ls', resE e' T h' Try.f33.results.toList = some ls' ∧ PhiM (41) (28) lo n (ivRR a) (inve a) (resultLV ls') h' n') := by
 by_cases hL : ivRR a = []
 ·exact .inl ⟨_, minv_o k a hI hF, .data hn hL (lvInv_eq a)⟩
 ·have hne : 0 < a.length := by
   cases a with
   | nil => exact absurd (by rfl) hL
   | cons r a => simp
  exact .inr (minverse_own n lo k a hI hF hne om hL)
theorem mW {R : List (List NM)} (h : SmlM R) {y : List NM} (hy : y ∈ R) : y.length ≤ 1000 := by
 obtain ⟨i, hi, rfl⟩ := List.getElem_of_mem hy
 have := (h.row i hi).len
 rw [List.getD_eq_getElem?_getD, List.getElem?_eq_getElem hi] at this
 exact this
theorem rI (k k2 k3 : Nat) (a b : List M1) (x : List NM) (hI : IM a) (hIb : IM b) (hIx : IV x) : Run Try.prog T E0 (.call 5 [.sl k (a.map fM), .sl k2 (b.map fM), .sl k3 (x.map mc)] (.v (.bool true))) := by
 refine bC Try.func5 J J (cW J) <| Rg 1 J <| Ua J J <| Wn <| aC <| Rg 10 J <| Um J J <| Um J J <| aA (dJ (cs := [_, _]) (rows := [[_], [_]]) J J (by decide) J J J) J <| aA (aE J (few2_run k k2 a b) dD) J <| dM (fun h34 => ?_) (fun h34 => ?_)
 rotate_left
 ·refine aA (bZ J) J <| Um J J <| K1 J J <| K1 J J <| K1 J J <| aA (cG J J) J <| Wn <| aV J <| aC <| Rg 2 J <| aA (aE J (qH) dD) J <| Ua J J <| Nk [6] J <| bM ?_
  exact post (n := 0) (.inr J) J J (by simp)
 refine aA (bZ J) J <| Um J J <| aJ J (cR J) J <| aJ J (aX J J) J <| aJ J (fU J J) J <| aW (fun h39 => ?_) (fun h39 => ?_)
 ·refine aA (cD J J) J <| Wn <| aV J <| aC <| Rg 2 J <| aA (aE J (qH) dD) J <| Ua J J <| Nk [6] J <| bM <| post (n := 0) (.inr J) J ?_ dD
  rfl
 refine aA (cD J J) J <| Wn <| aR J <| aF ?_
 obtain ⟨hfa, hfb⟩ := (Bool.and_eq_true _ _).mp h34
 have hF := few8 hfa
 have hFb := few8 hfb
 have l1 := hF.ln
 have lb1 := hFb.ln
 have lx : x.length ≤ 70 := by omega
 have hwb : wd b ≤ 70 := by
  unfold wd; split
  ·omega
  ·exact hFb.lr _ (bD om)
 have hwa : wd a ≤ 70 := by
  unfold wd; split
  ·omega
  ·exact hF.lr _ (bD om)
 have hs1 : SmlM (mulR a b) := smlM_mul om om
 have hs2 : SmlN (app1 a x) := smlN_app om
 have hs3 : SmlM (powR a 1) := smlM_pow hF
 have hs4 : SmlM (redR a) := smlM_red hF
 have hs5 : SmlN (sll a x) := smlN_sol om
 have hs6 : SmlM (ivRR a) := smlM_inv hF
 have hv1 := lvMul_eq a b
 have hv2 : lvApp a x = .tup [.sl (kd (app1 a x).length) ((app1 a x).map mc), .v (.int .i64 (appe a x))] := rfl
 have hv3 := lvPow_eq a 1
 have hv4 := lvRed_eq a
 have hv5 : lvSol a x = .tup [.v (.int .i64 (sln a x)), .sl (kd (sll a x).length) ((sll a x).map mc), .v (.int .i64 (sle a x))] := rfl
 have hv6 := lvInv_eq a
 obtain ⟨P1, hP1⟩ : ∃ z, mulR a b = z := ⟨_, rfl⟩
 rw [hP1] at hv1 hs1
 obtain ⟨E1, hE1⟩ : ∃ z, mule a b = z := ⟨_, rfl⟩
 rw [hE1] at hv1
 obtain ⟨L2, hL2⟩ : ∃ z, app1 a x = z := ⟨_, rfl⟩
 rw [hL2] at hv2 hs2
 obtain ⟨E2, hE2⟩ : ∃ z, appe a x = z := ⟨_, rfl⟩
 rw [hE2] at hv2
 obtain ⟨P3, hP3⟩ : ∃ z, powR a 1 = z := ⟨_, rfl⟩
 rw [hP3] at hv3 hs3
 obtain ⟨E3, hE3⟩ : ∃ z, powe a 1 = z := ⟨_, rfl⟩
 rw [hE3] at hv3
 obtain ⟨P4, hP4⟩ : ∃ z, redR a = z := ⟨_, rfl⟩
 rw [hP4] at hv4 hs4
 obtain ⟨E4, hE4⟩ : ∃ z, re a = z := ⟨_, rfl⟩
 rw [hE4] at hv4
 obtain ⟨K5, hK5⟩ : ∃ z, sln a x = z := ⟨_, rfl⟩
 rw [hK5] at hv5
 obtain ⟨L5, hL5⟩ : ∃ z, sll a x = z := ⟨_, rfl⟩
 rw [hL5] at hv5 hs5
 obtain ⟨E5, hE5⟩ : ∃ z, sle a x = z := ⟨_, rfl⟩
 rw [hE5] at hv5
 obtain ⟨P6, hP6⟩ : ∃ z, ivRR a = z := ⟨_, rfl⟩
 rw [hP6] at hv6 hs6
 obtain ⟨E6, hE6⟩ : ∃ z, inve a = z := ⟨_, rfl⟩
 rw [hE6] at hv6
 refine Rg 9 J <| Um J J <| aA (aE J (cpm_run k a om (fun r hr => by have := hF.lr r hr; omega)) (bA (by intro c hc; simp only [List.mem_cons, List.not_mem_nil, or_false] at hc; rcases hc with rfl; exact (.sl _ _ fun row hr => aU iM row hr)))) J <| Um J J <| aA (aE J (cpm_run k2 b om (fun r hr => by have := hFb.lr r hr; omega)) (bA (by intro c hc; simp only [List.mem_cons, List.not_mem_nil, or_false] at hc; rcases hc with rfl; exact (.sl _ _ fun row hr => aU iM row hr)))) J <| Um J J <| aA (aE J (cpn_run k3 x om) (bA (by intro c hc; simp only [List.mem_cons, List.not_mem_nil, or_false] at hc; rcases hc with rfl; exact (.sl _ _ fun row hr => aU pU row hr)))) J <| Ua J J <| Ua J J <| Ua J J <| Nk [0,1,2,7,8,9] J <| dE (z := 8) J <| bR (cR J) J <| bR (cR J) J <| jM (Φ := PhiM (41) (28) 20 28 P1 E1) J (bA (by intro c hc; simp only [List.mem_cons, List.not_mem_nil, or_false] at hc; rcases hc with rfl | rfl; exact (.sl _ _ fun row hr => aU iM row hr); exact (.sl _ _ fun row hr => aU iM row hr))) Try.func28 J J (cW J) J (by have := mul_F 28 20 k k2 a b hI hIb hF hFb om; rw [hP1, hE1] at this; exact this) ?_
 rintro r h' n4 ⟨q1, a1, rfl, hn4, hO1, hO1'⟩
 have hfa1 := hO1.at_
 have hb1 := hO1.ql
 have hb1' := hO1.qh
 refine ⟨matH (41) (28) q1 a1 P1 ([]), bothM hO1' .nil, ?_⟩
 refine bR (cR J) J <| bR (bU J J) J <| bR (bU J J) J <| bR (fV J) J <| bR (fV J) J <| dV <| dE (z := 8) J <| bR (cR J) J <| bR (cR J) J <| jM (Φ := PhiN (28) n4 (n4 + 8) L2 E2) J (bA (by intro c hc; simp only [List.mem_cons, List.not_mem_nil, or_false] at hc; rcases hc with rfl | rfl; exact (.sl _ _ fun row hr => aU iM row hr); exact (.sl _ _ fun row hr => aU pU row hr))) Try.func29 J J (cW J) J (by have := app_F (n4 + 8) n4 k k3 a x hI hIx hF lx om; rw [hL2, hE2] at this; exact this) ?_
 rintro r h' n5 ⟨q2, rfl, hn5, hb2, hb2', hg2⟩
 refine ⟨outH q2 2 (28) (L2.map mc) (matH (41) (28) q1 a1 P1 []), bothN hg2 (.old (fun r o hr => by
  apply Classical.byContradiction
  intro hge
  have hnone : getH (matH (41) (28) q1 a1 P1 []) r = none := (by repeat (first | rfl | refine dA om ?_ | refine (cS (fun s hs => by first | (have := hfa1 s hs; omega) | (have := hfa3 s hs; omega) | (have := hfa4 s hs; omega) | (have := hfa6 s hs; omega)) om).trans ?_))
  cases hr.symm.trans hnone)), ?_⟩
 refine bR (cR J) J <| bR (bU J J) J <| bR (bU J J) J <| bR (fV J) J <| bR (fV J) J <| dV <| Ck [0,1,2,7,8,9,10,11,12,13] J <| dE (z := 7) J <| bR (cR J) J <| jM (Φ := PhiM (41) (28) n5 (n5 + 7) P3 E3) J (bA (by intro c hc; simp only [List.mem_cons, List.not_mem_nil, or_false] at hc; rcases hc with rfl | rfl; exact (.sl _ _ fun row hr => aU iM row hr); exact .v _)) Try.func30 J J (cW J) J (by have := pow_F (n5 + 7) n5 k a 1 hI hF om; rw [hP3, hE3] at this; exact this) ?_
 rintro r h' n6 ⟨q3, a3, rfl, hn6, hO3, hO3'⟩
 have hfa3 := hO3.at_
 have hb3 := hO3.ql
 have hb3' := hO3.qh
 refine ⟨matH (41) (28) q3 a3 P3 (outH q2 2 (28) (L2.map mc) (matH (41) (28) q1 a1 P1 [])), bothM hO3' (.old (fun r o hr => by
  apply Classical.byContradiction
  intro hge
  have hnone : getH (outH q2 2 (28) (L2.map mc) (matH (41) (28) q1 a1 P1 [])) r = none := (by repeat (first | rfl | refine dA om ?_ | refine (cS (fun s hs => by first | (have := hfa1 s hs; omega) | (have := hfa3 s hs; omega) | (have := hfa4 s hs; omega) | (have := hfa6 s hs; omega)) om).trans ?_))
  cases hr.symm.trans hnone)), ?_⟩
 refine bR (cR J) J <| bR (bU J J) J <| bR (bU J J) J <| bR (fV J) J <| bR (fV J) J <| dV <| Ck [0,1,2,7,8,9,10,11,12,13,14,15] J <| dE (z := 7) J <| bR (cR J) J <| jM (Φ := PhiM (41) (28) n6 (n6 + 7) P4 E4) J (bA (by intro c hc; simp only [List.mem_cons, List.not_mem_nil, or_false] at hc; rcases hc with rfl; exact (.sl _ _ fun row hr => aU iM row hr))) Try.func31 J J (cW J) J (by have := red_F (n6 + 7) n6 k a hI hF om; rw [hP4, hE4] at this; exact this) ?_
 rintro r h' n7 ⟨q4, a4, rfl, hn7, hO4, hO4'⟩
 have hfa4 := hO4.at_
 have hb4 := hO4.ql
 have hb4' := hO4.qh
 refine ⟨matH (41) (28) q4 a4 P4 (matH (41) (28) q3 a3 P3 (outH q2 2 (28) (L2.map mc) (matH (41) (28) q1 a1 P1 []))), bothM hO4' (.old (fun r o hr => by
  apply Classical.byContradiction
  intro hge
  have hnone : getH (matH (41) (28) q3 a3 P3 (outH q2 2 (28) (L2.map mc) (matH (41) (28) q1 a1 P1 []))) r = none := (by repeat (first | rfl | refine dA om ?_ | refine (cS (fun s hs => by first | (have := hfa1 s hs; omega) | (have := hfa3 s hs; omega) | (have := hfa4 s hs; omega) | (have := hfa6 s hs; omega)) om).trans ?_))
  cases hr.symm.trans hnone)), ?_⟩
 refine bR (cR J) J <| bR (bU J J) J <| bR (bU J J) J <| bR (fV J) J <| bR (fV J) J <| dV <| Ck [0,1,2,7,8,9,10,11,12,13,14,15,16,17] J <| dE (z := 10) J <| bR (cR J) J <| bR (cR J) J <| jM (Φ := PhiS (28) n7 (n7 + 10) K5 L5 E5) J (bA (by intro c hc; simp only [List.mem_cons, List.not_mem_nil, or_false] at hc; rcases hc with rfl | rfl; exact (.sl _ _ fun row hr => aU iM row hr); exact (.sl _ _ fun row hr => aU pU row hr))) Try.func32 J J (cW J) J (by have := sol_F (n7 + 10) n7 k k3 a x hI hIx hF lx om; rw [hK5, hL5, hE5] at this; exact this) ?_
 rintro r h' n8 ⟨q5, rfl, hn8, hb5, hb5', hg5⟩
 refine ⟨outH q5 2 (28) (L5.map mc) (matH (41) (28) q4 a4 P4 (matH (41) (28) q3 a3 P3 (outH q2 2 (28) (L2.map mc) (matH (41) (28) q1 a1 P1 [])))), bothN hg5 (.old (fun r o hr => by
  apply Classical.byContradiction
  intro hge
  have hnone : getH (matH (41) (28) q4 a4 P4 (matH (41) (28) q3 a3 P3 (outH q2 2 (28) (L2.map mc) (matH (41) (28) q1 a1 P1 [])))) r = none := (by repeat (first | rfl | refine dA om ?_ | refine (cS (fun s hs => by first | (have := hfa1 s hs; omega) | (have := hfa3 s hs; omega) | (have := hfa4 s hs; omega) | (have := hfa6 s hs; omega)) om).trans ?_))
  cases hr.symm.trans hnone)), ?_⟩
 refine bR (cR J) J <| bR (bU J J) J <| bR (bU J J) J <| bR (bU J J) J <| bR (fV J) J <| bR (fV J) J <| bR (fV J) J <| dV <| Ck [0,1,2,7,8,9,10,11,12,13,14,15,16,17,19,20] J <| dE (z := 7) J <| bR (cR J) J <| jM (Φ := PhiM (41) (28) n8 (n8 + 7) P6 E6) J (bA (by intro c hc; simp only [List.mem_cons, List.not_mem_nil, or_false] at hc; rcases hc with rfl; exact (.sl _ _ fun row hr => aU iM row hr))) Try.func33 J J (cW J) J (by have := inv_F (n8 + 7) n8 k a hI hF om; rw [hP6, hE6] at this; exact this) ?_
 rintro r h' n9 ⟨q6, a6, rfl, hn9, hO6, hO6'⟩
 have hfa6 := hO6.at_
 have hb6 := hO6.ql
 have hb6' := hO6.qh
 refine ⟨matH (41) (28) q6 a6 P6 (outH q5 2 (28) (L5.map mc) (matH (41) (28) q4 a4 P4 (matH (41) (28) q3 a3 P3 (outH q2 2 (28) (L2.map mc) (matH (41) (28) q1 a1 P1 []))))), bothM hO6' (.old (fun r o hr => by
  apply Classical.byContradiction
  intro hge
  have hnone : getH (outH q5 2 (28) (L5.map mc) (matH (41) (28) q4 a4 P4 (matH (41) (28) q3 a3 P3 (outH q2 2 (28) (L2.map mc) (matH (41) (28) q1 a1 P1 []))))) r = none := (by repeat (first | rfl | refine dA om ?_ | refine (cS (fun s hs => by first | (have := hfa1 s hs; omega) | (have := hfa3 s hs; omega) | (have := hfa4 s hs; omega) | (have := hfa6 s hs; omega)) om).trans ?_))
  cases hr.symm.trans hnone)), ?_⟩
 refine bR (cR J) J <| bR (bU J J) J <| bR (bU J J) J <| bR (fV J) J <| bR (fV J) J <| dV <| Ck [0,1,2,7,8,9,10,11,12,13,14,15,16,17,19,20,21,22] J <| Rg 5 J <| Um J J <| aA (aE J (mdet_o k a hI hF) (bA (by intro c hc; simp only [List.mem_cons, List.not_mem_nil, or_false] at hc; rcases hc with rfl; exact (.sl _ _ fun row hr => aU iM row hr)))) J <| Um J J <| aA (bU J J) J <| aA (bU J J) J <| Nk [0,1,2,7,8,9,10,11,12,13,14,15,16,17,19,20,21,22] J <| Rg 5 J <| Um J J <| aA (aE J (mrank_o k a hI hF) (bA (by intro c hc; simp only [List.mem_cons, List.not_mem_nil, or_false] at hc; rcases hc with rfl; exact (.sl _ _ fun row hr => aU iM row hr)))) J <| Um J J <| aA (bU J J) J <| aA (bU J J) J <| Nk [0,1,2,7,8,9,10,11,12,13,14,15,16,17,19,20,21,22] J ?_
 obtain ⟨HH, hHH⟩ : ∃ z, z = matH (41) (28) q6 a6 P6 (outH q5 2 (28) (L5.map mc) (matH (41) (28) q4 a4 P4 (matH (41) (28) q3 a3 P3 (outH q2 2 (28) (L2.map mc) (matH (41) (28) q1 a1 P1 []))))) := ⟨_, rfl⟩
 have kp1 : RdM HH (41) (28) q1 a1 P1 := by rw [hHH]; exact (pG hO1).mono (fun o h => ((cS (fun s hs => by have := hfa6 s hs; omega) om).trans (aM om ((cS (fun s hs => by have := hfa4 s hs; omega) om).trans ((cS (fun s hs => by have := hfa3 s hs; omega) om).trans (aM om h)))))) (fun t o ht h => ((cS (fun s hs => by have := hfa6 s hs; have := hfa1 t ht; omega) (by have := hfa1 t ht; omega)).trans (aM (by have := hfa1 t ht; omega) ((cS (fun s hs => by have := hfa4 s hs; have := hfa1 t ht; omega) (by have := hfa1 t ht; omega)).trans ((cS (fun s hs => by have := hfa3 s hs; have := hfa1 t ht; omega) (by have := hfa1 t ht; omega)).trans (aM (by have := hfa1 t ht; omega) h))))))
 have kp3 : RdM HH (41) (28) q3 a3 P3 := by rw [hHH]; exact (pG hO3).mono (fun o h => ((cS (fun s hs => by have := hfa6 s hs; omega) om).trans (aM om ((cS (fun s hs => by have := hfa4 s hs; omega) om).trans h)))) (fun t o ht h => ((cS (fun s hs => by have := hfa6 s hs; have := hfa3 t ht; omega) (by have := hfa3 t ht; omega)).trans (aM (by have := hfa3 t ht; omega) ((cS (fun s hs => by have := hfa4 s hs; have := hfa3 t ht; omega) (by have := hfa3 t ht; omega)).trans h))))
 have kp4 : RdM HH (41) (28) q4 a4 P4 := by rw [hHH]; exact (pG hO4).mono (fun o h => ((cS (fun s hs => by have := hfa6 s hs; omega) om).trans (aM om h))) (fun t o ht h => ((cS (fun s hs => by have := hfa6 s hs; have := hfa4 t ht; omega) (by have := hfa4 t ht; omega)).trans (aM (by have := hfa4 t ht; omega) h)))
 have kp6 : RdM HH (41) (28) q6 a6 P6 := by rw [hHH]; exact (pG hO6).mono (fun o h => h) (fun t o ht h => h)
 have k2' : L2 ≠ [] → getH HH q2 = some (obN (28) L2) := by rw [hHH]; exact (fun hne => by repeat (first | exact ogN hne | refine aM om ?_ | refine (cS (fun s hs => by first | (have := hfa1 s hs; omega) | (have := hfa3 s hs; omega) | (have := hfa4 s hs; omega) | (have := hfa6 s hs; omega)) om).trans ?_))
 have k5' : L5 ≠ [] → getH HH q5 = some (obN (28) L5) := by rw [hHH]; exact (fun hne => by repeat (first | exact ogN hne | refine aM om ?_ | refine (cS (fun s hs => by first | (have := hfa1 s hs; omega) | (have := hfa3 s hs; omega) | (have := hfa4 s hs; omega) | (have := hfa6 s hs; omega)) om).trans ?_))
 have hlt : ∀ r o, getH (nrm HH) r = some o → r < n9 := fun r o hr => by
  rw [nrm_get, hHH] at hr
  apply Classical.byContradiction
  intro hge
  have hnone : getH (matH (41) (28) q6 a6 P6 (outH q5 2 (28) (L5.map mc) (matH (41) (28) q4 a4 P4 (matH (41) (28) q3 a3 P3 (outH q2 2 (28) (L2.map mc) (matH (41) (28) q1 a1 P1 [])))))) r = none := (by repeat (first | rfl | refine dA om ?_ | refine (cS (fun s hs => by first | (have := hfa1 s hs; omega) | (have := hfa3 s hs; omega) | (have := hfa4 s hs; omega) | (have := hfa6 s hs; omega)) om).trans ?_))
  cases hr.symm.trans hnone
 refine fI (nrm HH) (gB (by rw [hHH]; exact fun _ _ h => h)) <| dE (z := 18) J <| bR (cR J) J <| lW (ls := [outV q1 1 (rwC a1 P1)]) (Φ := fun r h' n' => r = .sl (kd P1.length) ((P1.map cp2).map fM) ∧ (n9 + 5 + 5 + 18) ≤ n' ∧ h' = nrm (nrm HH)) J Try.func26 J J (cW J) J ((cpm_G (n9 + 5 + 5 + 18) q1 a1 (nrm HH) P1 (by have := hs1.len; omega) (fun t ht => by have := (hs1.row t ht).len; omega) (fun r o hr => by have := hlt r o hr; omega) (fun t ht => by have := hfa1 t ht; omega) om (kp1.mono (fun o h => nrm_get.trans h) (fun t o ht h => nrm_get.trans h))).mono (by rintro x e h m ⟨hx, ls, hr, hk⟩; exact ⟨hx, ls, hr, hk⟩)) ?_
 rintro r h' m1 ⟨rfl, hm1, rfl⟩
 refine jQ (nrm HH) (fun r o h => nrm_get.trans h) <| bR (cR J) J <| lW (ls := [outV q2 2 (L2.map mc)]) (Φ := fun r h' n' => r = .sl (kd2 L2.length) (L2.map mc) ∧ m1 ≤ n' ∧ h' = nrm HH) J Try.func27 J J (cW J) J ((cpn_G m1 q2 (nrm HH) L2 (by have := hs2.len; omega) (fun r o hr => by have := hlt r o hr; omega) (fun h => nrm_get.trans (k2' h))).mono (by rintro x e h m ⟨hx, ls, hr, hk⟩; exact ⟨hx, ls, hr, hk⟩)) ?_
 rintro r h' m2 ⟨rfl, hm2, rfl⟩
 refine bR (cR J) J <| lW (ls := [outV q3 1 (rwC a3 P3)]) (Φ := fun r h' n' => r = .sl (kd P3.length) ((P3.map cp2).map fM) ∧ m2 ≤ n' ∧ h' = nrm (nrm HH)) J Try.func26 J J (cW J) J ((cpm_G m2 q3 a3 (nrm HH) P3 (by have := hs3.len; omega) (fun t ht => by have := (hs3.row t ht).len; omega) (fun r o hr => by have := hlt r o hr; omega) (fun t ht => by have := hfa3 t ht; omega) om (kp3.mono (fun o h => nrm_get.trans h) (fun t o ht h => nrm_get.trans h))).mono (by rintro x e h m ⟨hx, ls, hr, hk⟩; exact ⟨hx, ls, hr, hk⟩)) ?_
 rintro r h' m3 ⟨rfl, hm3, rfl⟩
 refine jQ (nrm HH) (fun r o h => nrm_get.trans h) <| bR (cR J) J <| lW (ls := [outV q4 1 (rwC a4 P4)]) (Φ := fun r h' n' => r = .sl (kd P4.length) ((P4.map cp2).map fM) ∧ m3 ≤ n' ∧ h' = nrm (nrm HH)) J Try.func26 J J (cW J) J ((cpm_G m3 q4 a4 (nrm HH) P4 (by have := hs4.len; omega) (fun t ht => by have := (hs4.row t ht).len; omega) (fun r o hr => by have := hlt r o hr; omega) (fun t ht => by have := hfa4 t ht; omega) om (kp4.mono (fun o h => nrm_get.trans h) (fun t o ht h => nrm_get.trans h))).mono (by rintro x e h m ⟨hx, ls, hr, hk⟩; exact ⟨hx, ls, hr, hk⟩)) ?_
 rintro r h' m4 ⟨rfl, hm4, rfl⟩
 refine jQ (nrm HH) (fun r o h => nrm_get.trans h) <| bR (cR J) J <| lW (ls := [outV q5 2 (L5.map mc)]) (Φ := fun r h' n' => r = .sl (kd2 L5.length) (L5.map mc) ∧ m4 ≤ n' ∧ h' = nrm HH) J Try.func27 J J (cW J) J ((cpn_G m4 q5 (nrm HH) L5 (by have := hs5.len; omega) (fun r o hr => by have := hlt r o hr; omega) (fun h => nrm_get.trans (k5' h))).mono (by rintro x e h m ⟨hx, ls, hr, hk⟩; exact ⟨hx, ls, hr, hk⟩)) ?_
 rintro r h' m5 ⟨rfl, hm5, rfl⟩
 refine bR (cR J) J <| lW (ls := [outV q6 1 (rwC a6 P6)]) (Φ := fun r h' n' => r = .sl (kd P6.length) ((P6.map cp2).map fM) ∧ m5 ≤ n' ∧ h' = nrm (nrm HH)) J Try.func26 J J (cW J) J ((cpm_G m5 q6 a6 (nrm HH) P6 (by have := hs6.len; omega) (fun t ht => by have := (hs6.row t ht).len; omega) (fun r o hr => by have := hlt r o hr; omega) (fun t ht => by have := hfa6 t ht; omega) om (kp6.mono (fun o h => nrm_get.trans h) (fun t o ht h => nrm_get.trans h))).mono (by rintro x e h m ⟨hx, ls, hr, hk⟩; exact ⟨hx, ls, hr, hk⟩)) ?_
 rintro r h' m6 ⟨rfl, hm6, rfl⟩
 refine jQ (nrm HH) (fun r o h => nrm_get.trans h) <| bR (fV J) J <| bR (fV J) J <| bR (fV J) J <| bR (fV J) J <| bR (fV J) J <| bR (fV J) J <| dV <| Ck [0,1,2,7,8,9,10,11,12,13,14,15,16,17,19,20,21,22,23,24,25,26,27,28] J <| dE (z := 2) J <| bR (cR J) J ?_
 have k_0 : ∀ r o, getH HH r = some o → getH (nrm HH) r = some o := fun r o h => nrm_get.trans h
 refine lW (ls := [outV q1 1 (rwC a1 P1)]) (Φ := fun r h' n' => (m6 + 2) ≤ n' ∧ ∀ r o, (∀ t, t < P1.length → r ≠ a1 t) → getH (nrm HH) r = some o → getH h' r = some o) J Try.func36 J J (cW J) J ((spm_G (m6 + 2) q1 a1 (nrm HH) P1 (by have := hs1.len; omega) (fun t ht => by have := (hs1.row t ht).len; omega) (fun t ht => (hs1.row t ht).rng) (kp1.mono (fun o h => k_0 _ _  h) (fun t o ht h => k_0 _ _  h))).mono (by rintro x e h m ⟨hx, ls, hr, hk⟩; exact ⟨hx, ls, hr, hk⟩)) ?_
 rintro r g1 p1 ⟨hp1, hk1⟩
 have k_1 : ∀ r o, (∀ t, t < P1.length → r ≠ a1 t) → getH HH r = some o → getH g1 r = some o := fun r o c1 h => hk1 r o c1 (k_0 r o  h)
 refine dV <| Ck [0,1,2,7,8,9,11,12,13,14,15,16,17,19,20,21,22,23,24,25,26,27,28] J <| dE (z := 2) J <| bR (cR J) J <| lW (ls := [outV q2 2 (L2.map mc)]) (Φ := fun r h' n' => (p1 + 2) ≤ n' ∧ ∀ r o, r ≠ q2 → getH g1 r = some o → getH h' r = some o) J Try.func37 J J (cW J) J ((spn_G (p1 + 2) q2 g1 L2 (by have := hs2.len; omega) hs2.rng (fun h => k_1 _ _ (fun s hs => by have := hfa1 s hs; omega) (k2' h))).mono (by rintro x e h m ⟨hx, ls, hr, hk⟩; exact ⟨hx, ls, hr, hk⟩)) ?_
 rintro r g2 p2 ⟨hp2, hk2⟩
 have k_2 : ∀ r o, (∀ t, t < P1.length → r ≠ a1 t) → r ≠ q2 → getH HH r = some o → getH g2 r = some o := fun r o c1 c2 h => hk2 r o c2 (k_1 r o c1 h)
 refine dV <| Ck [0,1,2,7,8,9,11,13,14,15,16,17,19,20,21,22,23,24,25,26,27,28] J <| dE (z := 2) J <| bR (cR J) J <| lW (ls := [outV q3 1 (rwC a3 P3)]) (Φ := fun r h' n' => (p2 + 2) ≤ n' ∧ ∀ r o, (∀ t, t < P3.length → r ≠ a3 t) → getH g2 r = some o → getH h' r = some o) J Try.func36 J J (cW J) J ((spm_G (p2 + 2) q3 a3 g2 P3 (by have := hs3.len; omega) (fun t ht => by have := (hs3.row t ht).len; omega) (fun t ht => (hs3.row t ht).rng) (kp3.mono (fun o h => k_2 _ _ (fun s hs => by have := hfa1 s hs; omega) om h) (fun t o ht h => k_2 _ _ (fun s hs => by have := hfa1 s hs; have := hfa3 t ht; omega) (by have := hfa3 t ht; omega) h))).mono (by rintro x e h m ⟨hx, ls, hr, hk⟩; exact ⟨hx, ls, hr, hk⟩)) ?_
 rintro r g3 p3 ⟨hp3, hk3⟩
 have k_3 : ∀ r o, (∀ t, t < P1.length → r ≠ a1 t) → r ≠ q2 → (∀ t, t < P3.length → r ≠ a3 t) → getH HH r = some o → getH g3 r = some o := fun r o c1 c2 c3 h => hk3 r o c3 (k_2 r o c1 c2 h)
 refine dV <| Ck [0,1,2,7,8,9,11,13,15,16,17,19,20,21,22,23,24,25,26,27,28] J <| dE (z := 2) J <| bR (cR J) J <| lW (ls := [outV q4 1 (rwC a4 P4)]) (Φ := fun r h' n' => (p3 + 2) ≤ n' ∧ ∀ r o, (∀ t, t < P4.length → r ≠ a4 t) → getH g3 r = some o → getH h' r = some o) J Try.func36 J J (cW J) J ((spm_G (p3 + 2) q4 a4 g3 P4 (by have := hs4.len; omega) (fun t ht => by have := (hs4.row t ht).len; omega) (fun t ht => (hs4.row t ht).rng) (kp4.mono (fun o h => k_3 _ _ (fun s hs => by have := hfa1 s hs; omega) om (fun s hs => by have := hfa3 s hs; omega) h) (fun t o ht h => k_3 _ _ (fun s hs => by have := hfa1 s hs; have := hfa4 t ht; omega) (by have := hfa4 t ht; omega) (fun s hs => by have := hfa3 s hs; have := hfa4 t ht; omega) h))).mono (by rintro x e h m ⟨hx, ls, hr, hk⟩; exact ⟨hx, ls, hr, hk⟩)) ?_
 rintro r g4 p4 ⟨hp4, hk4⟩
 have k_4 : ∀ r o, (∀ t, t < P1.length → r ≠ a1 t) → r ≠ q2 → (∀ t, t < P3.length → r ≠ a3 t) → (∀ t, t < P4.length → r ≠ a4 t) → getH HH r = some o → getH g4 r = some o := fun r o c1 c2 c3 c4 h => hk4 r o c4 (k_3 r o c1 c2 c3 h)
 refine dV <| Ck [0,1,2,7,8,9,11,13,15,17,19,20,21,22,23,24,25,26,27,28] J <| dE (z := 2) J <| bR (cR J) J <| lW (ls := [outV q5 2 (L5.map mc)]) (Φ := fun r h' n' => (p4 + 2) ≤ n' ∧ ∀ r o, r ≠ q5 → getH g4 r = some o → getH h' r = some o) J Try.func37 J J (cW J) J ((spn_G (p4 + 2) q5 g4 L5 (by have := hs5.len; omega) hs5.rng (fun h => k_4 _ _ (fun s hs => by have := hfa1 s hs; omega) om (fun s hs => by have := hfa3 s hs; omega) (fun s hs => by have := hfa4 s hs; omega) (k5' h))).mono (by rintro x e h m ⟨hx, ls, hr, hk⟩; exact ⟨hx, ls, hr, hk⟩)) ?_
 rintro r g5 p5 ⟨hp5, hk5⟩
 have k_5 : ∀ r o, (∀ t, t < P1.length → r ≠ a1 t) → r ≠ q2 → (∀ t, t < P3.length → r ≠ a3 t) → (∀ t, t < P4.length → r ≠ a4 t) → r ≠ q5 → getH HH r = some o → getH g5 r = some o := fun r o c1 c2 c3 c4 c5 h => hk5 r o c5 (k_4 r o c1 c2 c3 c4 h)
 refine dV <| Ck [0,1,2,7,8,9,11,13,15,17,20,21,22,23,24,25,26,27,28] J <| dE (z := 2) J <| bR (cR J) J <| lW (ls := [outV q6 1 (rwC a6 P6)]) (Φ := fun r h' n' => (p5 + 2) ≤ n' ∧ ∀ r o, (∀ t, t < P6.length → r ≠ a6 t) → getH g5 r = some o → getH h' r = some o) J Try.func36 J J (cW J) J ((spm_G (p5 + 2) q6 a6 g5 P6 (by have := hs6.len; omega) (fun t ht => by have := (hs6.row t ht).len; omega) (fun t ht => (hs6.row t ht).rng) (kp6.mono (fun o h => k_5 _ _ (fun s hs => by have := hfa1 s hs; omega) om (fun s hs => by have := hfa3 s hs; omega) (fun s hs => by have := hfa4 s hs; omega) om h) (fun t o ht h => k_5 _ _ (fun s hs => by have := hfa1 s hs; have := hfa6 t ht; omega) (by have := hfa6 t ht; omega) (fun s hs => by have := hfa3 s hs; have := hfa6 t ht; omega) (fun s hs => by have := hfa4 s hs; have := hfa6 t ht; omega) (by have := hfa6 t ht; omega) h))).mono (by rintro x e h m ⟨hx, ls, hr, hk⟩; exact ⟨hx, ls, hr, hk⟩)) ?_
 rintro r g6 p6 ⟨hp6, hk6⟩
 have k_6 : ∀ r o, (∀ t, t < P1.length → r ≠ a1 t) → r ≠ q2 → (∀ t, t < P3.length → r ≠ a3 t) → (∀ t, t < P4.length → r ≠ a4 t) → r ≠ q5 → (∀ t, t < P6.length → r ≠ a6 t) → getH HH r = some o → getH g6 r = some o := fun r o c1 c2 c3 c4 c5 c6 h => hk6 r o c6 (k_5 r o c1 c2 c3 c4 c5 h)
 refine dV <| Ck [0,1,2,7,8,9,11,13,15,17,20,22,23,24,25,26,27,28] J <| aC <| fI [] trivial <| Rg 16 J <| Um J J <| Um J J <| aA (aE J (fY k (kd a.length) a (a.map fun r => cp2 r.2) (by rw [List.map_map]; rfl) om (fun r hr => by have := hF.lr r hr; omega)) (bA (by intro c hc; simp only [List.mem_cons, List.not_mem_nil, or_false] at hc; rcases hc with rfl | rfl; exact (.sl _ _ fun row hr => aU iM row hr); exact (.sl _ _ fun row hr => aU iM row hr)))) J <| aA (bZ J) J <| Um J J <| aJ J (cR J) J <| aJ J (cR J) J <| aJ J (aE J (fY k2 (kd b.length) b (b.map fun r => cp2 r.2) (by rw [List.map_map]; rfl) om (fun r hr => by have := hFb.lr r hr; omega)) (bA (by intro c hc; simp only [List.mem_cons, List.not_mem_nil, or_false] at hc; rcases hc with rfl | rfl; exact (.sl _ _ fun row hr => aU iM row hr); exact (.sl _ _ fun row hr => aU iM row hr)))) J <| aJ J (bZ J) J <| aA (cD J J) J <| Um J J <| aJ J (cR J) J <| aJ J (cR J) J <| aJ J (aE J (gU k3 (kd2 x.length) x om) (bA (by intro c hc; simp only [List.mem_cons, List.not_mem_nil, or_false] at hc; rcases hc with rfl | rfl; exact (.sl _ _ fun row hr => aU pU row hr); exact (.sl _ _ fun row hr => aU pU row hr)))) J <| aJ J (bZ J) J <| aA (cD J J) J <| Nk [0,1,2,11,13,15,17,20,22,23,24,25,26,27,28,131] J <| aR J ?_
 refine aF <| Rg 8 J <| Um J J <| Um J J <| aA (aS (b := .tup [.sl (kd P1.length) ((P1.map kM).map fM), .v (.int .i64 E1)]) (aE J (mMul_run k k2 a b hI hIb hF hFb) (bA (by intro c hc; simp only [List.mem_cons, List.not_mem_nil, or_false] at hc; rcases hc with rfl | rfl; exact (.sl _ _ fun row hr => aU iM row hr); exact (.sl _ _ fun row hr => aU iM row hr)))) hv1) J <| Um J J <| aA (bU J J) J <| aA (bU J J) J <| Ua J J <| Ua J J <| Nk [0,2,10,11,13,15,17,20,22,23,24,25,26,27,28,29] J <| Rg 8 J <| Um J J <| Um J J <| aA (aS (b := .tup [.sl (kd L2.length) (L2.map mc), .v (.int .i64 E2)]) (aE J (qE k k3 a x hI hIx hF lx) (bA (by intro c hc; simp only [List.mem_cons, List.not_mem_nil, or_false] at hc; rcases hc with rfl | rfl; exact (.sl _ _ fun row hr => aU iM row hr); exact (.sl _ _ fun row hr => aU pU row hr)))) hv2) J <| Um J J <| aA (bU J J) J <| aA (bU J J) J <| Ua J J <| Ua J J <| Nk [0,2,10,11,12,13,15,17,20,22,23,24,25,26,27,28,29,30] J <| aC ?_
 refine Rg 20 J <| Um J J <| Um J J <| aA (aS (b := .v (.bool false)) (eG J J) (by simp)) J <| Um J J <| aJ J (cR J) J <| aJ J (cR J) J <| aJ J (aS (b := .v (.bool false)) (eG J J) (by simp)) J <| aA (cD J J) J <| Um J J <| aJ J (cR J) J <| aJ J (cR J) J <| aJ J (aE J (fY (kd P1.length) (kd P1.length) (P1.map kM) (P1.map cp2) (by rw [List.map_map, List.map_map]; rfl) (by rw [List.length_map]; have := hs1.len; omega) (fun r hr => by obtain ⟨y, hy, rfl⟩ := List.mem_map.1 hr; have := mW hs1 hy; show y.length < _; omega)) (bA (by intro c hc; simp only [List.mem_cons, List.not_mem_nil, or_false] at hc; rcases hc with rfl | rfl; exact (.sl _ _ fun row hr => aU iM row hr); exact (.sl _ _ fun row hr => aU iM row hr)))) J <| aJ J (bZ J) J <| aA (cD J J) J <| Um J J <| aJ J (cR J) J <| aJ J (cR J) J <| aJ J (aE J (gU (kd L2.length) (kd2 L2.length) L2 (by have := hs2.len; omega)) (bA (by intro c hc; simp only [List.mem_cons, List.not_mem_nil, or_false] at hc; rcases hc with rfl | rfl; exact (.sl _ _ fun row hr => aU pU row hr); exact (.sl _ _ fun row hr => aU pU row hr)))) J <| aJ J (bZ J) J <| aA (cD J J) J <| Nk [0,2,15,17,20,22,25,26,27,28,163] J <| aR J ?_
 refine aF <| Rg 7 J <| Um J J <| aA (aS (b := .tup [.sl (kd P3.length) ((P3.map kM).map fM), .v (.int .i64 E3)]) (aE J (qK k a 1 hI hF) (bA (by intro c hc; simp only [List.mem_cons, List.not_mem_nil, or_false] at hc; rcases hc with rfl | rfl; exact (.sl _ _ fun row hr => aU iM row hr); exact .v _))) hv3) J <| Um J J <| aA (bU J J) J <| aA (bU J J) J <| Ua J J <| Ua J J <| Nk [0,2,14,15,17,20,22,25,26,27,28,29] J <| Rg 7 J <| Um J J <| aA (aS (b := .tup [.sl (kd P4.length) ((P4.map kM).map fM), .v (.int .i64 E4)]) (aE J (mred_o k a hI hF) (bA (by intro c hc; simp only [List.mem_cons, List.not_mem_nil, or_false] at hc; rcases hc with rfl; exact (.sl _ _ fun row hr => aU iM row hr)))) hv4) J <| Um J J <| aA (bU J J) J <| aA (bU J J) J <| Ua J J <| Ua J J <| Nk [0,2,14,15,16,17,20,22,25,26,27,28,29,30] J <| aC <| Rg 20 J <| Um J J ?_
 refine Um J J <| aA (aS (b := .v (.bool false)) (eG J J) (by simp)) J <| Um J J <| aJ J (cR J) J <| aJ J (cR J) J <| aJ J (aS (b := .v (.bool false)) (eG J J) (by simp)) J <| aA (cD J J) J <| Um J J <| aJ J (cR J) J <| aJ J (cR J) J <| aJ J (aE J (fY (kd P3.length) (kd P3.length) (P3.map kM) (P3.map cp2) (by rw [List.map_map, List.map_map]; rfl) (by rw [List.length_map]; have := hs3.len; omega) (fun r hr => by obtain ⟨y, hy, rfl⟩ := List.mem_map.1 hr; have := mW hs3 hy; show y.length < _; omega)) (bA (by intro c hc; simp only [List.mem_cons, List.not_mem_nil, or_false] at hc; rcases hc with rfl | rfl; exact (.sl _ _ fun row hr => aU iM row hr); exact (.sl _ _ fun row hr => aU iM row hr)))) J <| aJ J (bZ J) J <| aA (cD J J) J <| Um J J <| aJ J (cR J) J <| aJ J (cR J) J <| aJ J (aE J (fY (kd P4.length) (kd P4.length) (P4.map kM) (P4.map cp2) (by rw [List.map_map, List.map_map]; rfl) (by rw [List.length_map]; have := hs4.len; omega) (fun r hr => by obtain ⟨y, hy, rfl⟩ := List.mem_map.1 hr; have := mW hs4 hy; show y.length < _; omega)) (bA (by intro c hc; simp only [List.mem_cons, List.not_mem_nil, or_false] at hc; rcases hc with rfl | rfl; exact (.sl _ _ fun row hr => aU iM row hr); exact (.sl _ _ fun row hr => aU iM row hr)))) J <| aJ J (bZ J) J <| aA (cD J J) J <| Nk [0,2,20,22,27,28,193] J <| aR J <| aF <| Rg 9 J ?_
 refine Um J J <| Um J J <| aA (aS (b := .tup [.v (.int .i64 K5), .sl (kd L5.length) (L5.map mc), .v (.int .i64 E5)]) (aE J (msol_o k k3 a x hI hIx hF lx) (bA (by intro c hc; simp only [List.mem_cons, List.not_mem_nil, or_false] at hc; rcases hc with rfl | rfl; exact (.sl _ _ fun row hr => aU iM row hr); exact (.sl _ _ fun row hr => aU pU row hr)))) hv5) J <| Um J J <| aA (bU J J) J <| aA (bU J J) J <| aA (bU J J) J <| Ua J J <| Ua J J <| Nk [0,19,20,22,27,28,29] J <| Rg 7 J <| Um J J <| aA (aS (b := .tup [.sl (kd P6.length) ((P6.map kM).map fM), .v (.int .i64 E6)]) (aE J (minv_o k a hI hF) (bA (by intro c hc; simp only [List.mem_cons, List.not_mem_nil, or_false] at hc; rcases hc with rfl; exact (.sl _ _ fun row hr => aU iM row hr)))) hv6) J <| Um J J <| aA (bU J J) J <| aA (bU J J) J <| Ua J J <| Ua J J <| Wn <| Rg 22 J <| Um J J <| Um J J <| aA (aS (b := .v (.bool true)) (fR J J) (by exact congrArg (fun z => LV.v (.bool z)) (decide_eq_true J))) J ?_
 refine Um J J <| aJ J (cR J) J <| aJ J (cR J) J <| aJ J (aS (b := .v (.bool true)) (fR J J) (by exact congrArg (fun z => LV.v (.bool z)) (decide_eq_true J))) J <| aA (cG J J) J <| Um J J <| aJ J (cR J) J <| aJ J (cR J) J <| aJ J (aE J (gU (kd L5.length) (kd2 L5.length) L5 (by have := hs5.len; omega)) (bA (by intro c hc; simp only [List.mem_cons, List.not_mem_nil, or_false] at hc; rcases hc with rfl | rfl; exact (.sl _ _ fun row hr => aU pU row hr); exact (.sl _ _ fun row hr => aU pU row hr)))) J <| aA (cG J J) J <| Um J J <| aJ J (cR J) J <| aJ J (cR J) J <| aJ J (aE J (fY (kd P6.length) (kd P6.length) (P6.map kM) (P6.map cp2) (by rw [List.map_map, List.map_map]; rfl) (by rw [List.length_map]; have := hs6.len; omega) (fun r hr => by obtain ⟨y, hy, rfl⟩ := List.mem_map.1 hr; have := mW hs6 hy; show y.length < _; omega)) (bA (by intro c hc; simp only [List.mem_cons, List.not_mem_nil, or_false] at hc; rcases hc with rfl | rfl; exact (.sl _ _ fun row hr => aU iM row hr); exact (.sl _ _ fun row hr => aU iM row hr)))) J <| aA (cG J J) J <| Um J J <| aJ J (aE J (qH) dD) J <| aA (cG J J) J <| Ua J J <| Nk [6] J <| aK ?_
 exact post (n := 0) (.inr J) J J (by simp)
end Go.Proofs.Ytcblgjaomljikaa
