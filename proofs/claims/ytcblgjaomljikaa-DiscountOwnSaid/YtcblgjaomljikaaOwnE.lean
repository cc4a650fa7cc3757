/- Part E of the proof of discountOwn_holds: what it rests on. No condition. -/
import Derived.Test.YtcblgjaomljikaaOwnD
set_option linter.unusedVariables false
set_option linter.unusedSimpArgs false
set_option maxRecDepth 100000
set_option maxHeartbeats 16000000
namespace Go.Proofs.Ytcblgjaomljikaa
open Go.Ab Go.RowKit
theorem worth_share (n0 : Nat) (H : Hp) (k : Nat) (ss : List Go.Ab.ST) (d : X) (st : List Int) (qs : Nat) (hnd : subsM H H) (hlt : ∀ q o, getH H q = some o → q < n0) (hq : getH H qs = some { cells := ((st).map ic).flatten, sz := 1, elem := (3), st := 0 }) (hV : VMo ss = true) (hd : Bd 2 d.1) (hd0 : 0 < d.1) (hd1 : d.1 < 1) (hst : vSt ss st = true) : WC Try.prog T E0 Try.f115.ntmps (codeOf Try.f115) (argsEnv 0 [lvMo k ss, lvX d, .ref qs 1 0 ss.length]) H n0 (fun x e' h' n' => (x = .normal ∨ x = .ret) ∧ n0 ≤ n' ∧ ∃ xs : List X, resE e' T h' Try.f115.results.toList = some [.sl 1 (xs.map xc)] ∧ xs.length = ss.length ∧ WV ss d.1 st (vl xs) ∧ (∀ x, x ∈ xs → Bd 268435456 x.1) ∧ ∀ q o, getH H q = some o → getH h' q = some o) := by
 have hV1 := fS hV
 have hn40 := hV1.wt.len
 have hpos := hV1.pos
 have hsl := gM hst
 have hD := gC hV hd0 hd1
 have hql := hlt qs _ hq
 have hfr : ∀ q, n0 ≤ q → getH H q = none := fun q hq => by
  cases h : getH H q with
  | none => rfl
  | some o => have := hlt q o h; omega
 change WC _ _ _ _ _ [(0, lvMo k ss), (1, lvX d), (2, .ref qs 1 0 ss.length)] _ _ _
 refine Rg 3 J <| bB (eG J J) J <| bB (eG J J) J <| Ua J J <| Wn <| Rg 4 J <| aA (bH J J J J J) J <| aA (aL J J gG J J) J ?_
 refine aA (bD J J) J <| Ua J J <| Wn <| Rg 1 J <| Ua J J <| Wn <| Rg 1 J <| Ua J J <| Wn <| aB <| Rg 4 J <| aA (bH J J J J J) J <| aA (aL J J gG J J) J ?_
 refine aA (bD J J) J <| Um J J <| Nk [2,4,7,8,9,22,23,24] J <| aI <| aX (α := Nat × Nat × Nat × (List X1) × (List X)) (fun ⟨i, qa, qb, al, bl⟩ => [(2, .ref qs 1 0 ss.length), (4, .ptr (n0 + 1) 0), (7, .v (.int .i64 (ss.length : Int))), (8, outV qa 1 (al.map fX)), (9, outV qb 4 (bl.map xc)), (22, .sl k (ss.map stc)), (23, .v (.int .i64 (ss.length : Int))), (24, .v (.int .i64 (i : Int)))]) (fun ⟨i, qa, qb, al, bl⟩ => outH qa 1 108 (al.map fX) (outH qb 4 114 (bl.map xc) ((n0 + 1, { cells := xc (d), sz := 4, elem := (114), st := 0 }) :: H))) (fun ⟨i, qa, qb, al, bl⟩ n => i ≤ ss.length ∧ al.length = i ∧ bl.length = i ∧ (∀ a, a < i → RowOk ss.length d.1 (ch ss a (st.getD a default).toNat).2.2 a ((al.getD a default).2.map (·.1)) ∧ (al.getD a default).1 = kd (al.getD a default).2.length ∧ (bl.getD a default).1 = nq (ch ss a (st.getD a default).toNat).1) ∧ (∀ r, r ∈ al → ∀ x, x ∈ r.2 → Bd 8 x.1) ∧ (∀ x, x ∈ bl → Bd 8 x.1) ∧ n0 + 1 < qa ∧ n0 + 1 < qb ∧ qa ≠ qb ∧ qa < n ∧ qb < n ∧ n0 + 6 ≤ n) (fun ⟨i, qa, qb, al, bl⟩ => ss.length - i) (0, n0 + 2, n0 + 3, [], []) ⟨J, J, J, J, J, J, J, J, trivial⟩ ⟨gG, cJ hnd (by intro q o hq'; have := hlt q o hq'; repeat (first | exact hq' | refine g1 om ?_))⟩ ⟨Nat.zero_le _, rfl, rfl, fun a ha => absurd ha om, by simp, by simp, om, om, om, om, om, om⟩ ?_
 rintro ⟨i, qa, qb, al, bl⟩ n hF
 change WC _ _ _ _ _ (_ :: _) (outH _ _ _ _ _) n _
 obtain ⟨hi, hal, hbl, hrows, hba, hbb, hqa, hqb, hqab, hqa3, hqb3, hn⟩ := hF
 obtain ⟨nK, hnK⟩ : ∃ z, z = n := ⟨n, rfl⟩
 subst hnK
 refine Rg 1 J <| aA (bU J J) J <| bE (fun h25 => ?_) (fun h25 => ?_)
 rotate_left
 ·refine Wn <| aT J <| aU <| aN <| aO J ?_
  obtain ⟨a0, at', rfl⟩ : ∃ a t, al = a :: t := by
   cases al with
   | nil => simp at hal; omega
   | cons a t => exact ⟨a, t, rfl⟩
  obtain ⟨b0, bt, rfl⟩ : ∃ a t, bl = a :: t := by
   cases bl with
   | nil => simp at hbl; omega
   | cons a t => exact ⟨a, t, rfl⟩
  obtain rfl : i = ss.length := by omega
  obtain ⟨hg1, _, hns, hsvl, hwv, hsb⟩ := worth_sys hD hn40 hst (A := vX (a0 :: at')) (b := (b0 :: bt).map (·.1)) (by rw [cU]; exact hal) (by rw [List.length_map]; exact hbl) (fun a ha => by rw [cZ]; exact (hrows a ha).1) (fun a ha => by show fn_ ((b0 :: bt).map (·.1)) a = _; exact (iZ (b0 :: bt) a).symm.trans (hrows a ha).2.2) (fun r hr x hx => by obtain ⟨y, hy, rfl⟩ := List.mem_map.1 hr; obtain ⟨z, hz, rfl⟩ := List.mem_map.1 hx; exact hba y hy z hz) (fun x hx => by obtain ⟨y, hy, rfl⟩ := List.mem_map.1 hx; exact hbb y hy)
  have hrow2 : ∀ r, r ∈ a0 :: at' → r.2.length = ss.length ∧ r.1 = kd r.2.length := fun r hr => by
   obtain ⟨a, ha, rfl⟩ := List.getElem_of_mem hr
   have h1 := hrows a om
   rw [show (a0 :: at').getD a default = (a0 :: at')[a] by rw [List.getD_eq_getElem?_getD, List.getElem?_eq_getElem ha]; rfl] at h1
   have h2 := h1.1.1
   rw [List.length_map] at h2
   exact ⟨h2, h1.2.1⟩
  obtain ⟨r, hr, hphi⟩ := nM (a0 :: at') 1 (b0 :: bt) ss.length (by simp) om (fun r hr => (hrow2 r hr).1) (fun r hr => (hrow2 r hr).2) om om 268435456 (Nat.le_refl _) hg1
  rw [if_neg (by rw [hns]; decide)] at hphi
  obtain ⟨xs, rfl, hxs⟩ := hphi
  have hxl : xs.length = ss.length := by have := congrArg List.length hxs; rw [hsvl, List.length_map] at this; exact this
  refine Rg 9 J <| Um J J <| Um J J <| Um J J <| bB (kZ [.sl 1 ((a0 :: at').map fX), .sl 1 ((b0 :: bt).map xc), .v (.int .i64 (ss.length : Int))] [(qa, { cells := ((a0 :: at').map fX).flatten, sz := 1, elem := 108, st := 1 }), (qb, { cells := ((b0 :: bt).map xc).flatten, sz := 4, elem := 114, st := 1 })] J hr (.own (ob := { cells := ((a0 :: at').map fX).flatten, sz := 1, elem := 108, st := 0 }) ((a0 :: at').map fX) (by simp) g0 (by show (0 : Nat) ≠ 2; decide) J (by decide) (by simp [keys]) J (bL (f := fX) (n := 1) (fun _ => rfl)) (aW dfX) (.own (ob := { cells := ((b0 :: bt).map xc).flatten, sz := 4, elem := 114, st := 0 }) ((b0 :: bt).map xc) (by simp) (g1 om g0) (by show (0 : Nat) ≠ 2; decide) J (by decide) (by simp [keys]) J (bL (f := xc) (n := 4) (fun _ => rfl)) (aW jI) (.data (.v _) .nil))) (by intro p hp; simp only [List.mem_cons, List.not_mem_nil, or_false] at hp; rcases hp with rfl | rfl; exact ⟨_, g0, (by show (0 : Nat) ≠ 2; decide), rfl⟩; exact ⟨_, g1 om g0, (by show (0 : Nat) ≠ 2; decide), rfl⟩)) J <| Um J J <| aA (cW J J) J <| aA (cW J J) J <| Ua J J <| Ua J J <| Nk [17] J <| Rg 2 J <| Um J J <| Ua J J <| Wn <| aP <| ⟨.inr J, om, xs, rfl, hxl, by unfold vl; rw [hxs]; exact hwv, fun x hx => hsb _ (by rw [← hxs]; exact List.mem_map.2 ⟨x, hx, rfl⟩), (by intro q o hq'; have := hlt q o hq'; repeat (first | exact hq' | refine g1 om ?_))⟩
 refine Wn <| aR J <| aE <| aI ?_
 have hm := bA (us := ss) (i := i) om
 obtain ⟨hs0, hs1⟩ := mP hst (i := i) om
 have hmc := bA (us := (ss.getD i default).2.2) (i := (st.getD i default).toNat) om
 obtain ⟨hrw, hvb⟩ : VN (ch ss i (st.getD i default).toNat).1 ∧ VB ss.length (ch ss i (st.getD i default).toNat).2.2 := eT hV hm hmc
 have hr3 := hrw.all3
 have hcl := hV1.cs _ hm
 have hqsn : qs < nK := by omega
 refine Rg 6 J <| Um J J <| aA (bS J J J J J om J) J <| aA (dL (l := .agg (stc (ss.getD i default))) J J J) J <| bB (dS J) J <| Ua J J <| aZ (cO (cs' := stc (ss.getD i default)) J J J g0 J J J J) <| Wn <| bN (z := 10) J kR <| aH (bH J J J J J) J <| aH (aL J J gG J J) J ?_
 refine Dm J J <| Dm J J <| aH (cA (j := i) J J J J om om J) J <| aH (eJ (f := ic) (us := st) (j := i) J J (by have := hlt qs _ hq; repeat (first | exact hq | refine g1 om ?_ | refine aD om ?_)) (fun _ => rfl) J (by decide) om J) J ?_
 refine aH (bS (j := (st.getD i default).toNat) J J J J om om J) J <| aH (dL (l := lvC (ch ss i (st.getD i default).toNat)) J J J) J <| mF (dS J) J <| cR (cO (cs' := chc (ch ss i (st.getD i default).toNat)) J J J g0 J J J J) <| bJ (dR (rn nK) (by simp only [List.reverse_cons, List.reverse_nil, List.nil_append, List.cons_append, List.map_cons, List.map_nil, ren, keys, Nat.add_assoc, iX, rn_lt hqsn]; kernel_rfl)) J <| Ck [2,4,7,8,9,10,12,22,23,24] J <| Rg 3 J <| Um J J <| bB (oMk (a := ss.length) (b := ss.length) J J J J om om (by decide) om (by show 64 * ss.length ≤ _; omega) om) J <| Ua J J <| Wn <| aB <| Rg 4 J <| aA (bH J J J J J) J <| aA (aL J J gG J J) J ?_
 refine aA (bD J J) J <| Um J J <| Nk [2,4,7,8,9,10,12,13,22,23,24,40,41,42] J <| aI <| aX (α := Nat × (List X)) (fun ⟨j, row⟩ => [(2, .ref qs 1 0 ss.length), (4, .ptr (n0 + 1) 0), (7, .v (.int .i64 (ss.length : Int))), (8, outV qa 1 (al.map fX)), (9, outV qb 4 (bl.map xc)), (10, .v (.int .i64 (i : Int))), (12, .ptr (nK + 1 + 6 + 8) 0), (13, .ref (nK + 1 + 6 + 10 + 1) 4 0 ss.length), (22, .sl k (ss.map stc)), (23, .v (.int .i64 (ss.length : Int))), (24, .v (.int .i64 (i : Int))), (40, .sl (ch ss i (st.getD i default).toNat).2.1 ((ch ss i (st.getD i default).toNat).2.2.map brc)), (41, .v (.int .i64 ((ch ss i (st.getD i default).toNat).2.2.length : Int))), (42, .v (.int .i64 (j : Int)))]) (fun ⟨j, row⟩ => ((nK + 1 + 6 + 10 + 1), { cells := (row.map xc).flatten, sz := 4, elem := (114), st := 0 }) :: ((nK + 1 + 6 + 8), { cells := chc (ch ss i (st.getD i default).toNat), sz := 3, elem := (37), st := 0 }) :: outH qa 1 108 (al.map fX) (outH qb 4 114 (bl.map xc) ((n0 + 1, { cells := xc (d), sz := 4, elem := (114), st := 0 }) :: H))) (fun ⟨j, row⟩ n => j ≤ (ch ss i (st.getD i default).toNat).2.2.length ∧ RowP ss.length d.1 (ch ss i (st.getD i default).toNat).2.2 j (row.map (·.1)) ∧ nK + 24 ≤ n) (fun ⟨j, row⟩ => (ch ss i (st.getD i default).toNat).2.2.length - j) (0, List.replicate ss.length x0) ⟨J, J, J, J, J, J, J, J, J, J, J, J, J, J, trivial⟩ ⟨g0.trans (by rw [List.map_replicate]; rfl), gG, bF (fun hne => by rw [bM hne]; repeat (first | exact g0 | refine g1 om ?_ | refine aD om ?_)) (bF (fun hne => by rw [bM hne]; repeat (first | exact g0 | refine g1 om ?_ | refine aD om ?_)) ⟨(by repeat (first | exact g0 | refine g1 om ?_ | refine aD om ?_)), cJ hnd (by intro q o hq'; have := hlt q o hq'; repeat (first | exact hq' | refine g1 om ?_ | refine aD om ?_))⟩)⟩ ⟨Nat.zero_le _, by rw [List.map_replicate]; exact RowP.init _ _ _, om⟩ ?_
 rintro ⟨j, row⟩ n hF
 change WC _ _ _ _ _ [(2, .ref qs 1 0 ss.length), (4, .ptr (n0 + 1) 0), (7, .v (.int .i64 (ss.length : Int))), (8, outV qa 1 (al.map fX)), (9, outV qb 4 (bl.map xc)), (10, .v (.int .i64 (i : Int))), (12, .ptr (nK + 1 + 6 + 8) 0), (13, .ref (nK + 1 + 6 + 10 + 1) 4 0 ss.length), (22, .sl k (ss.map stc)), (23, .v (.int .i64 (ss.length : Int))), (24, .v (.int .i64 (i : Int))), (40, .sl (ch ss i (st.getD i default).toNat).2.1 ((ch ss i (st.getD i default).toNat).2.2.map brc)), (41, .v (.int .i64 ((ch ss i (st.getD i default).toNat).2.2.length : Int))), (42, .v (.int .i64 (j : Int)))] (((nK + 1 + 6 + 10 + 1), { cells := (row.map xc).flatten, sz := 4, elem := (114), st := 0 }) :: ((nK + 1 + 6 + 8), { cells := chc (ch ss i (st.getD i default).toNat), sz := 3, elem := (37), st := 0 }) :: outH qa 1 108 (al.map fX) (outH qb 4 114 (bl.map xc) ((n0 + 1, { cells := xc (d), sz := 4, elem := (114), st := 0 }) :: H))) n _
 obtain ⟨hj, hR, hn2⟩ := hF
 have hrl : row.length = ss.length := by have := hR.1; rwa [List.length_map] at this
 refine Rg 1 J <| aA (bU J J) J <| bE (fun h43 => ?_) (fun h43 => ?_)
 ·refine Nk [2,4,7,8,9,10,12,13,22,23,24,40,41,42,43] J <| aR J <| aE <| aI ?_
  have hto := hvb.to j om
  have hvn := hvb.vn j om
  have hi3 := hvn.all3
  have hbl8 := hvb.len
  refine Rg 4 J <| aA (bS J J J J J om J) J <| aA (dL (l := .agg (brc ((ch ss i (st.getD i default).toNat).2.2.getD j default))) J J J) J <| bB (dS J) J <| aZ (cO (cs' := brc ((ch ss i (st.getD i default).toNat).2.2.getD j default)) J J J g0 J J J J) <| Nk [2,4,7,8,9,10,12,13,15,22,23,24,40,41,42] J <| dW (z := 11) J kR <| Dm J J <| aH (bH J J J J J) J <| aH (aL J J gG J J) J ?_
  refine aH (aL (l := lvX d) J J (by repeat (first | exact g0 | refine g1 om ?_ | refine aD om ?_)) J J) J ?_
  refine aH (bH J J J J J) J <| aH (aL (l := lvM ((ch ss i (st.getD i default).toNat).2.2.getD j default).2) J J gG J J) J ?_
  refine aH (bG (b := lvX (nx ((ch ss i (st.getD i default).toNat).2.2.getD j default).2)) (aK J (dC ((ch ss i (st.getD i default).toNat).2.2.getD j default).2 hi3.1 hi3.2.1 hi3.2.2) dD) J) J <| aH (aK J (iR d (nx ((ch ss i (st.getD i default).toNat).2.2.getD j default).2) (hd.mono om) (hvn.bd.mono om)) dD) J <| aH (aK J (iS (xmul d (nx ((ch ss i (st.getD i default).toNat).2.2.getD j default).2))) dD) J <| aH (cA (j := ((ch ss i (st.getD i default).toNat).2.2.getD j default).1.toNat) J J J J om om J) J <| cR (eC (f := xc) (us := row) (xneg (xmul d (nx ((ch ss i (st.getD i default).toNat).2.2.getD j default).2))) J J J gG (fun _ => rfl) J J om J) ?_
  refine bJ (aY kR) J <| aG <| Ck [2,4,7,8,9,10,12,13,22,23,24,40,41,42] J <| aJ (z := 2) J <| aA (cI (((j + 1 : Nat) : Int)) (aV J J om) om) J <| Um J J <| Wn <| aF <| ⟨⟨j + 1, row.set ((ch ss i (st.getD i default).toNat).2.2.getD j default).1.toNat (xneg (xmul d (nx ((ch ss i (st.getD i default).toNat).2.2.getD j default).2)))⟩, ⟨J, J, J, J, J, J, J, J, J, J, J, J, J, J, trivial⟩, ⟨gG, gG, bF (fun hne => by rw [bM hne]; repeat (first | exact g0 | refine g1 om ?_ | refine aD om ?_)) (bF (fun hne => by rw [bM hne]; repeat (first | exact g0 | refine g1 om ?_ | refine aD om ?_)) ⟨(by repeat (first | exact g0 | refine g1 om ?_ | refine aD om ?_)), cJ hnd (by intro q o hq'; have := hlt q o hq'; repeat (first | exact hq' | refine g1 om ?_ | refine aD om ?_))⟩)⟩, ⟨om, by rw [List.map_set]; exact hR.step hvb om hd, om⟩, by show (ch ss i (st.getD i default).toNat).2.2.length - (j + 1) < (ch ss i (st.getD i default).toNat).2.2.length - j; omega⟩
 refine Nk [2,4,7,8,9,10,12,13,22,23,24,40,41,42,43] J <| aT J <| aU <| aN <| aO J <| Ck [2,4,7,8,9,10,12,13,22,23,24] J ?_
 have hjn : j = (ch ss i (st.getD i default).toNat).2.2.length := by have := hvb.len; omega
 subst hjn
 have hgi : Bd 4 (row.getD i default).1 := kA (by decide) (fun x hx => hR.2.2.2 _ (List.mem_map.2 ⟨x, hx, rfl⟩)) i
 have hrowok := hR.done (i := i) om
 rw [show (row.map (·.1)).set i ((row.map (·.1)).getD i default + 1) = (row.set i (xadd (row.getD i default) (xint 1))).map (·.1) by rw [List.map_set]; congr 1; show _ = (row.getD i default).1 + 1; rw [iZ]; rfl] at hrowok
 have hov : outV (nK + 1 + 6 + 10 + 1) 4 ((row.set i (xadd (row.getD i default) (xint 1))).map xc) = .ref (nK + 1 + 6 + 10 + 1) 4 0 ss.length := by
  rw [fE (fun h => by have := congrArg List.length h; rw [List.length_map, List.length_set, List.length_nil] at this; omega), List.length_map, List.length_set, hrl]
 have hqa2 : qa < n := by omega
 have hqb2 : qb < n := by omega
 have h12 : nK + (1 + (6 + 8)) < n := by omega
 have h12b : nK + (1 + (6 + 8)) ≠ qb := by omega
 have h12a : nK + (1 + (6 + 8)) ≠ qa := by omega
 have hqba : qb ≠ qa := by omega
 refine bN (z := 10) J kR <| Dm J J <| Dm J J <| Dm J J <| Dm J J <| aH (cA (j := i) J J J J om om J) J <| aH (eJ (f := xc) (us := row) (j := i) (l := lvX (row.getD i default)) J J gG (fun _ => rfl) J (by decide) om J) J ?_
 refine aH (aK J (gI 1 (by unfold I64; omega)) dD) J <| aH (aK J (iQ (row.getD i default) (xint 1) (hgi.mono om) (Bd1.mono om)) dD) J <| aH (cA (j := i) J J J J om om J) J <| cR (eC (f := xc) (us := row) (xadd (row.getD i default) (xint 1)) J J J gG (fun _ => rfl) J J om J) ?_
 refine bJ (aY kR) J <| Ck [2,4,7,8,9,12,13,22,23,24] J <| jB (z := 12) J kR <| Dm J J <| Dm J J <| aH (dJ (cs := [_]) (rows := [[_]]) J J (by decide) J J J) J <| iK _ (subsM.get (bF (q := qa) (sz := 1) (el := 108) (us := al.map fX) (h := ((nK + 1 + 6 + 10 + 1), { cells := ((row.set i (xadd (row.getD i default) (xint 1))).map xc).flatten, sz := 4, elem := (114), st := 0 }) :: ((nK + 1 + 6 + 8), { cells := chc (ch ss i (st.getD i default).toNat), sz := 3, elem := (37), st := 0 }) :: outH qb 4 114 (bl.map xc) ((n0 + 1, { cells := xc (d), sz := 4, elem := (114), st := 0 }) :: H)) (fun hne => by rw [bM hne]; repeat (first | exact g0 | refine g1 om ?_ | refine aD om ?_)) ⟨(by repeat (first | exact g0 | refine g1 om ?_ | refine aD om ?_)), (by repeat (first | exact g0 | refine g1 om ?_ | refine aD om ?_)), bF (fun hne => by rw [bM hne]; repeat (first | exact g0 | refine g1 om ?_ | refine aD om ?_)) ⟨(by repeat (first | exact g0 | refine g1 om ?_ | refine aD om ?_)), cJ hnd (by intro q o hq'; have := hlt q o hq'; repeat (first | exact hq' | refine g1 om ?_ | refine aD om ?_))⟩⟩)) ?_
 refine qU (te := ti108) (k0 := 0) (us := al.map fX) (rows := [[_]]) (.inl J) J J J (by rw [iI]; rfl) J (by decide) (by intro r hr; rw [List.mem_singleton] at hr; subst hr; rfl) (bL (f := fX) (n := 1) fun _ => rfl) (by simp) (by rw [List.length_map]; show (2 * (al.length + 1) + 256) * 24 ≤ _; omega) (by rw [List.length_map]; show al.length + 1 < _; omega) (gN om (gN om (cC om (gN om (hfr qa om))))) J <| Dm J J <| aH (bH J J J J J) J <| aH (aL (l := lvM (ch ss i (st.getD i default).toNat).1) J J (by repeat (first | exact g0 | refine g1 om ?_ | refine aD om ?_)) J J) J ?_
 refine aH (bG (b := lvX (nx (ch ss i (st.getD i default).toNat).1)) (aK J (dC (ch ss i (st.getD i default).toNat).1 hr3.1 hr3.2.1 hr3.2.2) dD) J) J <| aH (dJ (cs := [_, _, _, _]) (rows := [[_, _, _, _]]) J J (by decide) J J J) J <| iK _ (subsM.get (bF (q := qb) (sz := 4) (el := 114) (us := bl.map xc) (h := ((n + 1 + 10 + 3), { cells := (al.map fX).flatten ++ [[LV.ref (nK + 1 + 6 + 10 + 1) 4 0 ss.length]].flatten, sz := 1, elem := 108, st := 0 }) :: ((nK + 1 + 6 + 10 + 1), { cells := ((row.set i (xadd (row.getD i default) (xint 1))).map xc).flatten, sz := 4, elem := (114), st := 0 }) :: (n0 + 1, { cells := xc (d), sz := 4, elem := (114), st := 0 }) :: H) (fun hne => by rw [bM hne]; repeat (first | exact g0 | refine g1 om ?_ | refine aD om ?_)) ⟨(by repeat (first | exact g0 | refine g1 om ?_ | refine aD om ?_)), (by repeat (first | exact g0 | refine g1 om ?_ | refine aD om ?_)), (by repeat (first | exact g0 | refine g1 om ?_ | refine aD om ?_)), cJ hnd (by intro q o hq'; have := hlt q o hq'; repeat (first | exact hq' | refine g1 om ?_ | refine aD om ?_))⟩)) ?_
 refine qU (te := ti114) (k0 := 0) (us := bl.map xc) (rows := [xc (nx (ch ss i (st.getD i default).toNat).1)]) (.inl J) J J J (by rw [iI]; rfl) J (by decide) (by intro r hr; rw [List.mem_singleton] at hr; subst hr; rfl) (bL (f := xc) (n := 4) fun _ => rfl) (by simp) (by rw [List.length_map]; show (2 * (bl.length + 1) + 256) * 64 ≤ _; omega) (by rw [List.length_map]; show bl.length + 1 < _; omega) (gN om (gN om (gN om (hfr qb om)))) J <| aH (fR J) J <| aH (fR J) J <| bJ (dR (rq2 qa qb n) (by simp only [List.reverse_cons, List.reverse_nil, List.nil_append, List.cons_append, List.map_cons, List.map_nil, ren, keys, Nat.add_assoc, rq2_a, rq2_b hqba, rq2_lt h12 h12a h12b, rq2_add hqa2 hqb2]; kernel_rfl)) J <| Fz.weakH (outH (nK + 1 + 6 + 10 + 1) 4 (114) ((row.set i (xadd (row.getD i default) (xint 1))).map xc) (((n + 1 + 10 + 3), { cells := (al.map fX).flatten ++ [outV (nK + 1 + 6 + 10 + 1) 4 ((row.set i (xadd (row.getD i default) (xint 1))).map xc)], sz := 1, elem := 108, st := 0 }) :: ((n + 1 + 10 + 9), { cells := (bl.map xc).flatten ++ [xc (nx (ch ss i (st.getD i default).toNat).1)].flatten, sz := 4, elem := 114, st := 0 }) :: (n0 + 1, { cells := xc (d), sz := 4, elem := (114), st := 0 }) :: H)) (subsM.get (bF (fun _ => (by repeat (first | exact g0 | refine g1 om ?_ | refine aD om ?_))) ⟨by rw [hov]; exact (by repeat (first | exact g0 | refine g1 om ?_ | refine aD om ?_)), (by repeat (first | exact g0 | refine g1 om ?_ | refine aD om ?_)), (by repeat (first | exact g0 | refine g1 om ?_ | refine aD om ?_)), cJ hnd (by intro q o hq'; have := hlt q o hq'; repeat (first | exact hq' | refine g1 om ?_ | refine aD om ?_))⟩)) ?_
 refine Fz.cellR [(2, _), (4, _), (7, _), (8, _), (9, _), (22, _), (23, _), (24, _)] ⟨J, J, J, J, J, J, J, J, trivial⟩ om (by decide) (bL (f := xc) (n := 4) fun _ => rfl) (aW jI) (gN om (gN om (hfr _ om))) ?_
 rw [iC]
 refine aG <| aJ (z := 2) J <| aA (cI (((i + 1 : Nat) : Int)) (aV J J om) om) J <| Um J J <| Wn <| aF <| ⟨⟨i + 1, (n + 1 + 10 + 3), (n + 1 + 10 + 9), al ++ [(kd (row.set i (xadd (row.getD i default) (xint 1))).length, (row.set i (xadd (row.getD i default) (xint 1))))], bl ++ [nx (ch ss i (st.getD i default).toNat).1]⟩, ⟨rfl, rfl, rfl, congrArg some (by rw [List.map_append]; exact outV_snoc.symm), congrArg some (by rw [List.map_append]; exact outV_snoc.symm), rfl, rfl, rfl, trivial⟩, by dsimp only; rw [List.map_append, List.map_append]; simp only [List.map_cons, List.map_nil]; rw [iH, iH]; exact ⟨gG, gG, gG, cJ hnd (by intro q o hq'; have := hlt q o hq'; repeat (first | exact hq' | refine g1 om ?_))⟩, ⟨om, by rw [List.length_append]; show al.length + 1 = _; omega, by rw [List.length_append]; show bl.length + 1 = _; omega, fun a ha => ?_, fun r hr => ?_, fun x hx => ?_, om, om, om, om, om, om⟩, by show ss.length - (i + 1) < ss.length - i; omega⟩
 ·by_cases e : a = i
  ·subst e
   rw [show (al ++ [(kd (row.set a (xadd (row.getD a default) (xint 1))).length, (row.set a (xadd (row.getD a default) (xint 1))))]).getD a default = (kd (row.set a (xadd (row.getD a default) (xint 1))).length, (row.set a (xadd (row.getD a default) (xint 1)))) by rw [← hal]; simp [List.getD_eq_getElem?_getD], show (bl ++ [nx (ch ss a (st.getD a default).toNat).1]).getD a default = nx (ch ss a (st.getD a default).toNat).1 by rw [← hbl]; simp [List.getD_eq_getElem?_getD]]
   exact ⟨hrowok.1, rfl, rfl⟩
  ·rw [show (al ++ [(kd (row.set i (xadd (row.getD i default) (xint 1))).length, (row.set i (xadd (row.getD i default) (xint 1))))]).getD a default = al.getD a default by simp only [List.getD_eq_getElem?_getD]; rw [List.getElem?_append_left om], show (bl ++ [nx (ch ss i (st.getD i default).toNat).1]).getD a default = bl.getD a default by simp only [List.getD_eq_getElem?_getD]; rw [List.getElem?_append_left om]]
   exact hrows a om
 ·rcases List.mem_append.1 hr with h | h
  ·exact hba r h
  ·rw [List.mem_singleton] at h; subst h
   exact fun x hx => hrowok.2 _ (List.mem_map.2 ⟨x, hx, rfl⟩)
 ·rcases List.mem_append.1 hx with h | h
  ·exact hbb x h
  ·rw [List.mem_singleton] at h; subst h
   exact hrw.bd.mono (by decide)
theorem worth_wc (n0 : Nat) (H : Hp) (k ks : Nat) (ss : List Go.Ab.ST) (d : X) (st : List Int) (hnd : subsM H H) (hlt : ∀ q o, getH H q = some o → q < n0) (hV : VMo ss = true) (hd : Bd 2 d.1) (hd0 : 0 < d.1) (hd1 : d.1 < 1) (hst : vSt ss st = true) : WC Try.prog T E0 Try.f115.ntmps (codeOf Try.f115) (argsEnv 0 [lvMo k ss, lvX d, .sl ks (st.map ic)]) H n0 (fun x e' h' n' => (x = .normal ∨ x = .ret) ∧ n0 ≤ n' ∧ ∃ xs : List X, resE e' T h' Try.f115.results.toList = some [.sl 1 (xs.map xc)] ∧ xs.length = ss.length ∧ WV ss d.1 st (vl xs) ∧ (∀ x, x ∈ xs → Bd 268435456 x.1) ∧ ∀ q o, getH H q = some o → getH h' q = some o) := by
 have hV1 := fS hV
 have hn40 := hV1.wt.len
 have hpos := hV1.pos
 have hsl := gM hst
 have hD := gC hV hd0 hd1
 have hfr : ∀ q, n0 ≤ q → getH H q = none := fun q hq => by
  cases h : getH H q with
  | none => rfl
  | some o => have := hlt q o h; omega
 change WC _ _ _ _ _ [(0, lvMo k ss), (1, lvX d), (2, .sl ks (st.map ic))] _ _ _
 refine Rg 3 J <| bB (eG J J) J <| bB (eG J J) J <| Ua J J <| Wn <| Rg 4 J <| aA (bH J J J J J) J <| aA (aL J J gG J J) J ?_
 refine aA (bD J J) J <| Ua J J <| Wn <| Rg 1 J <| Ua J J <| Wn <| Rg 1 J <| Ua J J <| Wn <| aB <| Rg 4 J <| aA (bH J J J J J) J <| aA (aL J J gG J J) J ?_
 refine aA (bD J J) J <| Um J J <| Nk [2,4,7,8,9,22,23,24] J <| aI <| aX (α := Nat × Nat × Nat × (List X1) × (List X)) (fun ⟨i, qa, qb, al, bl⟩ => [(2, .sl ks (st.map ic)), (4, .ptr (n0 + 1) 0), (7, .v (.int .i64 (ss.length : Int))), (8, outV qa 1 (al.map fX)), (9, outV qb 4 (bl.map xc)), (22, .sl k (ss.map stc)), (23, .v (.int .i64 (ss.length : Int))), (24, .v (.int .i64 (i : Int)))]) (fun ⟨i, qa, qb, al, bl⟩ => outH qa 1 108 (al.map fX) (outH qb 4 114 (bl.map xc) ((n0 + 1, { cells := xc (d), sz := 4, elem := (114), st := 0 }) :: H))) (fun ⟨i, qa, qb, al, bl⟩ n => i ≤ ss.length ∧ al.length = i ∧ bl.length = i ∧ (∀ a, a < i → RowOk ss.length d.1 (ch ss a (st.getD a default).toNat).2.2 a ((al.getD a default).2.map (·.1)) ∧ (al.getD a default).1 = kd (al.getD a default).2.length ∧ (bl.getD a default).1 = nq (ch ss a (st.getD a default).toNat).1) ∧ (∀ r, r ∈ al → ∀ x, x ∈ r.2 → Bd 8 x.1) ∧ (∀ x, x ∈ bl → Bd 8 x.1) ∧ n0 + 1 < qa ∧ n0 + 1 < qb ∧ qa ≠ qb ∧ qa < n ∧ qb < n ∧ n0 + 6 ≤ n) (fun ⟨i, qa, qb, al, bl⟩ => ss.length - i) (0, n0 + 2, n0 + 3, [], []) ⟨J, J, J, J, J, J, J, J, trivial⟩ ⟨gG, cJ hnd (by intro q o hq'; have := hlt q o hq'; repeat (first | exact hq' | refine g1 om ?_))⟩ ⟨Nat.zero_le _, rfl, rfl, fun a ha => absurd ha om, by simp, by simp, om, om, om, om, om, om⟩ ?_
 rintro ⟨i, qa, qb, al, bl⟩ n hF
 change WC _ _ _ _ _ (_ :: _) (outH _ _ _ _ _) n _
 obtain ⟨hi, hal, hbl, hrows, hba, hbb, hqa, hqb, hqab, hqa3, hqb3, hn⟩ := hF
 obtain ⟨nK, hnK⟩ : ∃ z, z = n := ⟨n, rfl⟩
 subst hnK
 refine Rg 1 J <| aA (bU J J) J <| bE (fun h25 => ?_) (fun h25 => ?_)
 rotate_left
 ·refine Wn <| aT J <| aU <| aN <| aO J ?_
  obtain ⟨a0, at', rfl⟩ : ∃ a t, al = a :: t := by
   cases al with
   | nil => simp at hal; omega
   | cons a t => exact ⟨a, t, rfl⟩
  obtain ⟨b0, bt, rfl⟩ : ∃ a t, bl = a :: t := by
   cases bl with
   | nil => simp at hbl; omega
   | cons a t => exact ⟨a, t, rfl⟩
  obtain rfl : i = ss.length := by omega
  obtain ⟨hg1, _, hns, hsvl, hwv, hsb⟩ := worth_sys hD hn40 hst (A := vX (a0 :: at')) (b := (b0 :: bt).map (·.1)) (by rw [cU]; exact hal) (by rw [List.length_map]; exact hbl) (fun a ha => by rw [cZ]; exact (hrows a ha).1) (fun a ha => by show fn_ ((b0 :: bt).map (·.1)) a = _; exact (iZ (b0 :: bt) a).symm.trans (hrows a ha).2.2) (fun r hr x hx => by obtain ⟨y, hy, rfl⟩ := List.mem_map.1 hr; obtain ⟨z, hz, rfl⟩ := List.mem_map.1 hx; exact hba y hy z hz) (fun x hx => by obtain ⟨y, hy, rfl⟩ := List.mem_map.1 hx; exact hbb y hy)
  have hrow2 : ∀ r, r ∈ a0 :: at' → r.2.length = ss.length ∧ r.1 = kd r.2.length := fun r hr => by
   obtain ⟨a, ha, rfl⟩ := List.getElem_of_mem hr
   have h1 := hrows a om
   rw [show (a0 :: at').getD a default = (a0 :: at')[a] by rw [List.getD_eq_getElem?_getD, List.getElem?_eq_getElem ha]; rfl] at h1
   have h2 := h1.1.1
   rw [List.length_map] at h2
   exact ⟨h2, h1.2.1⟩
  obtain ⟨r, hr, hphi⟩ := nM (a0 :: at') 1 (b0 :: bt) ss.length (by simp) om (fun r hr => (hrow2 r hr).1) (fun r hr => (hrow2 r hr).2) om om 268435456 (Nat.le_refl _) hg1
  rw [if_neg (by rw [hns]; decide)] at hphi
  obtain ⟨xs, rfl, hxs⟩ := hphi
  have hxl : xs.length = ss.length := by have := congrArg List.length hxs; rw [hsvl, List.length_map] at this; exact this
  refine Rg 9 J <| Um J J <| Um J J <| Um J J <| bB (kZ [.sl 1 ((a0 :: at').map fX), .sl 1 ((b0 :: bt).map xc), .v (.int .i64 (ss.length : Int))] [(qa, { cells := ((a0 :: at').map fX).flatten, sz := 1, elem := 108, st := 1 }), (qb, { cells := ((b0 :: bt).map xc).flatten, sz := 4, elem := 114, st := 1 })] J hr (.own (ob := { cells := ((a0 :: at').map fX).flatten, sz := 1, elem := 108, st := 0 }) ((a0 :: at').map fX) (by simp) g0 (by show (0 : Nat) ≠ 2; decide) J (by decide) (by simp [keys]) J (bL (f := fX) (n := 1) (fun _ => rfl)) (aW dfX) (.own (ob := { cells := ((b0 :: bt).map xc).flatten, sz := 4, elem := 114, st := 0 }) ((b0 :: bt).map xc) (by simp) (g1 om g0) (by show (0 : Nat) ≠ 2; decide) J (by decide) (by simp [keys]) J (bL (f := xc) (n := 4) (fun _ => rfl)) (aW jI) (.data (.v _) .nil))) (by intro p hp; simp only [List.mem_cons, List.not_mem_nil, or_false] at hp; rcases hp with rfl | rfl; exact ⟨_, g0, (by show (0 : Nat) ≠ 2; decide), rfl⟩; exact ⟨_, g1 om g0, (by show (0 : Nat) ≠ 2; decide), rfl⟩)) J <| Um J J <| aA (cW J J) J <| aA (cW J J) J <| Ua J J <| Ua J J <| Nk [17] J <| Rg 2 J <| Um J J <| Ua J J <| Wn <| aP <| ⟨.inr J, om, xs, rfl, hxl, by unfold vl; rw [hxs]; exact hwv, fun x hx => hsb _ (by rw [← hxs]; exact List.mem_map.2 ⟨x, hx, rfl⟩), (by intro q o hq'; have := hlt q o hq'; repeat (first | exact hq' | refine g1 om ?_))⟩
 refine Wn <| aR J <| aE <| aI ?_
 have hm := bA (us := ss) (i := i) om
 obtain ⟨hs0, hs1⟩ := mP hst (i := i) om
 have hmc := bA (us := (ss.getD i default).2.2) (i := (st.getD i default).toNat) om
 obtain ⟨hrw, hvb⟩ : VN (ch ss i (st.getD i default).toNat).1 ∧ VB ss.length (ch ss i (st.getD i default).toNat).2.2 := eT hV hm hmc
 have hr3 := hrw.all3
 have hcl := hV1.cs _ hm
 refine Rg 6 J <| Um J J <| aA (bS J J J J J om J) J <| aA (dL (l := .agg (stc (ss.getD i default))) J J J) J <| bB (dS J) J <| Ua J J <| aZ (cO (cs' := stc (ss.getD i default)) J J J g0 J J J J) <| Wn <| bN (z := 10) J kR <| aH (bH J J J J J) J <| aH (aL J J gG J J) J ?_
 refine Dm J J <| Dm J J <| aH (bS (j := i) J J J J om om J) J <| aH (dL J J J) J <| aH (bS (j := (st.getD i default).toNat) J J J J om om J) J <| aH (dL (l := lvC (ch ss i (st.getD i default).toNat)) J J J) J <| mF (dS J) J <| cR (cO (cs' := chc (ch ss i (st.getD i default).toNat)) J J J g0 J J J J) <| bJ (dR (rn nK) (by simp only [List.reverse_cons, List.reverse_nil, List.nil_append, List.cons_append, List.map_cons, List.map_nil, ren, keys, Nat.add_assoc, iX]; kernel_rfl)) J <| Ck [2,4,7,8,9,10,12,22,23,24] J <| Rg 3 J <| Um J J <| bB (oMk (a := ss.length) (b := ss.length) J J J J om om (by decide) om (by show 64 * ss.length ≤ _; omega) om) J <| Ua J J <| Wn <| aB <| Rg 4 J <| aA (bH J J J J J) J <| aA (aL J J gG J J) J ?_
 refine aA (bD J J) J <| Um J J <| Nk [2,4,7,8,9,10,12,13,22,23,24,40,41,42] J <| aI <| aX (α := Nat × (List X)) (fun ⟨j, row⟩ => [(2, .sl ks (st.map ic)), (4, .ptr (n0 + 1) 0), (7, .v (.int .i64 (ss.length : Int))), (8, outV qa 1 (al.map fX)), (9, outV qb 4 (bl.map xc)), (10, .v (.int .i64 (i : Int))), (12, .ptr (nK + 1 + 6 + 8) 0), (13, .ref (nK + 1 + 6 + 10 + 1) 4 0 ss.length), (22, .sl k (ss.map stc)), (23, .v (.int .i64 (ss.length : Int))), (24, .v (.int .i64 (i : Int))), (40, .sl (ch ss i (st.getD i default).toNat).2.1 ((ch ss i (st.getD i default).toNat).2.2.map brc)), (41, .v (.int .i64 ((ch ss i (st.getD i default).toNat).2.2.length : Int))), (42, .v (.int .i64 (j : Int)))]) (fun ⟨j, row⟩ => ((nK + 1 + 6 + 10 + 1), { cells := (row.map xc).flatten, sz := 4, elem := (114), st := 0 }) :: ((nK + 1 + 6 + 8), { cells := chc (ch ss i (st.getD i default).toNat), sz := 3, elem := (37), st := 0 }) :: outH qa 1 108 (al.map fX) (outH qb 4 114 (bl.map xc) ((n0 + 1, { cells := xc (d), sz := 4, elem := (114), st := 0 }) :: H))) (fun ⟨j, row⟩ n => j ≤ (ch ss i (st.getD i default).toNat).2.2.length ∧ RowP ss.length d.1 (ch ss i (st.getD i default).toNat).2.2 j (row.map (·.1)) ∧ nK + 24 ≤ n) (fun ⟨j, row⟩ => (ch ss i (st.getD i default).toNat).2.2.length - j) (0, List.replicate ss.length x0) ⟨J, J, J, J, J, J, J, J, J, J, J, J, J, J, trivial⟩ ⟨g0.trans (by rw [List.map_replicate]; rfl), gG, bF (fun hne => by rw [bM hne]; repeat (first | exact g0 | refine g1 om ?_ | refine aD om ?_)) (bF (fun hne => by rw [bM hne]; repeat (first | exact g0 | refine g1 om ?_ | refine aD om ?_)) ⟨(by repeat (first | exact g0 | refine g1 om ?_ | refine aD om ?_)), cJ hnd (by intro q o hq'; have := hlt q o hq'; repeat (first | exact hq' | refine g1 om ?_ | refine aD om ?_))⟩)⟩ ⟨Nat.zero_le _, by rw [List.map_replicate]; exact RowP.init _ _ _, om⟩ ?_
 rintro ⟨j, row⟩ n hF
 change WC _ _ _ _ _ [(2, .sl ks (st.map ic)), (4, .ptr (n0 + 1) 0), (7, .v (.int .i64 (ss.length : Int))), (8, outV qa 1 (al.map fX)), (9, outV qb 4 (bl.map xc)), (10, .v (.int .i64 (i : Int))), (12, .ptr (nK + 1 + 6 + 8) 0), (13, .ref (nK + 1 + 6 + 10 + 1) 4 0 ss.length), (22, .sl k (ss.map stc)), (23, .v (.int .i64 (ss.length : Int))), (24, .v (.int .i64 (i : Int))), (40, .sl (ch ss i (st.getD i default).toNat).2.1 ((ch ss i (st.getD i default).toNat).2.2.map brc)), (41, .v (.int .i64 ((ch ss i (st.getD i default).toNat).2.2.length : Int))), (42, .v (.int .i64 (j : Int)))] (((nK + 1 + 6 + 10 + 1), { cells := (row.map xc).flatten, sz := 4, elem := (114), st := 0 }) :: ((nK + 1 + 6 + 8), { cells := chc (ch ss i (st.getD i default).toNat), sz := 3, elem := (37), st := 0 }) :: outH qa 1 108 (al.map fX) (outH qb 4 114 (bl.map xc) ((n0 + 1, { cells := xc (d), sz := 4, elem := (114), st := 0 }) :: H))) n _
 obtain ⟨hj, hR, hn2⟩ := hF
 have hrl : row.length = ss.length := by have := hR.1; rwa [List.length_map] at this
 refine Rg 1 J <| aA (bU J J) J <| bE (fun h43 => ?_) (fun h43 => ?_)
 ·refine Nk [2,4,7,8,9,10,12,13,22,23,24,40,41,42,43] J <| aR J <| aE <| aI ?_
  have hto := hvb.to j om
  have hvn := hvb.vn j om
  have hi3 := hvn.all3
  have hbl8 := hvb.len
  refine Rg 4 J <| aA (bS J J J J J om J) J <| aA (dL (l := .agg (brc ((ch ss i (st.getD i default).toNat).2.2.getD j default))) J J J) J <| bB (dS J) J <| aZ (cO (cs' := brc ((ch ss i (st.getD i default).toNat).2.2.getD j default)) J J J g0 J J J J) <| Nk [2,4,7,8,9,10,12,13,15,22,23,24,40,41,42] J <| dW (z := 11) J kR <| Dm J J <| aH (bH J J J J J) J <| aH (aL J J gG J J) J ?_
  refine aH (aL (l := lvX d) J J (by repeat (first | exact g0 | refine g1 om ?_ | refine aD om ?_)) J J) J ?_
  refine aH (bH J J J J J) J <| aH (aL (l := lvM ((ch ss i (st.getD i default).toNat).2.2.getD j default).2) J J gG J J) J ?_
  refine aH (bG (b := lvX (nx ((ch ss i (st.getD i default).toNat).2.2.getD j default).2)) (aK J (dC ((ch ss i (st.getD i default).toNat).2.2.getD j default).2 hi3.1 hi3.2.1 hi3.2.2) dD) J) J <| aH (aK J (iR d (nx ((ch ss i (st.getD i default).toNat).2.2.getD j default).2) (hd.mono om) (hvn.bd.mono om)) dD) J <| aH (aK J (iS (xmul d (nx ((ch ss i (st.getD i default).toNat).2.2.getD j default).2))) dD) J <| aH (cA (j := ((ch ss i (st.getD i default).toNat).2.2.getD j default).1.toNat) J J J J om om J) J <| cR (eC (f := xc) (us := row) (xneg (xmul d (nx ((ch ss i (st.getD i default).toNat).2.2.getD j default).2))) J J J gG (fun _ => rfl) J J om J) ?_
  refine bJ (aY kR) J <| aG <| Ck [2,4,7,8,9,10,12,13,22,23,24,40,41,42] J <| aJ (z := 2) J <| aA (cI (((j + 1 : Nat) : Int)) (aV J J om) om) J <| Um J J <| Wn <| aF <| ⟨⟨j + 1, row.set ((ch ss i (st.getD i default).toNat).2.2.getD j default).1.toNat (xneg (xmul d (nx ((ch ss i (st.getD i default).toNat).2.2.getD j default).2)))⟩, ⟨J, J, J, J, J, J, J, J, J, J, J, J, J, J, trivial⟩, ⟨gG, gG, bF (fun hne => by rw [bM hne]; repeat (first | exact g0 | refine g1 om ?_ | refine aD om ?_)) (bF (fun hne => by rw [bM hne]; repeat (first | exact g0 | refine g1 om ?_ | refine aD om ?_)) ⟨(by repeat (first | exact g0 | refine g1 om ?_ | refine aD om ?_)), cJ hnd (by intro q o hq'; have := hlt q o hq'; repeat (first | exact hq' | refine g1 om ?_ | refine aD om ?_))⟩)⟩, ⟨om, by rw [List.map_set]; exact hR.step hvb om hd, om⟩, by show (ch ss i (st.getD i default).toNat).2.2.length - (j + 1) < (ch ss i (st.getD i default).toNat).2.2.length - j; omega⟩
 refine Nk [2,4,7,8,9,10,12,13,22,23,24,40,41,42,43] J <| aT J <| aU <| aN <| aO J <| Ck [2,4,7,8,9,10,12,13,22,23,24] J ?_
 have hjn : j = (ch ss i (st.getD i default).toNat).2.2.length := by have := hvb.len; omega
 subst hjn
 have hgi : Bd 4 (row.getD i default).1 := kA (by decide) (fun x hx => hR.2.2.2 _ (List.mem_map.2 ⟨x, hx, rfl⟩)) i
 have hrowok := hR.done (i := i) om
 rw [show (row.map (·.1)).set i ((row.map (·.1)).getD i default + 1) = (row.set i (xadd (row.getD i default) (xint 1))).map (·.1) by rw [List.map_set]; congr 1; show _ = (row.getD i default).1 + 1; rw [iZ]; rfl] at hrowok
 have hov : outV (nK + 1 + 6 + 10 + 1) 4 ((row.set i (xadd (row.getD i default) (xint 1))).map xc) = .ref (nK + 1 + 6 + 10 + 1) 4 0 ss.length := by
  rw [fE (fun h => by have := congrArg List.length h; rw [List.length_map, List.length_set, List.length_nil] at this; omega), List.length_map, List.length_set, hrl]
 have hqa2 : qa < n := by omega
 have hqb2 : qb < n := by omega
 have h12 : nK + (1 + (6 + 8)) < n := by omega
 have h12b : nK + (1 + (6 + 8)) ≠ qb := by omega
 have h12a : nK + (1 + (6 + 8)) ≠ qa := by omega
 have hqba : qb ≠ qa := by omega
 refine bN (z := 10) J kR <| Dm J J <| Dm J J <| Dm J J <| Dm J J <| aH (cA (j := i) J J J J om om J) J <| aH (eJ (f := xc) (us := row) (j := i) (l := lvX (row.getD i default)) J J gG (fun _ => rfl) J (by decide) om J) J ?_
 refine aH (aK J (gI 1 (by unfold I64; omega)) dD) J <| aH (aK J (iQ (row.getD i default) (xint 1) (hgi.mono om) (Bd1.mono om)) dD) J <| aH (cA (j := i) J J J J om om J) J <| cR (eC (f := xc) (us := row) (xadd (row.getD i default) (xint 1)) J J J gG (fun _ => rfl) J J om J) ?_
 refine bJ (aY kR) J <| Ck [2,4,7,8,9,12,13,22,23,24] J <| jB (z := 12) J kR <| Dm J J <| Dm J J <| aH (dJ (cs := [_]) (rows := [[_]]) J J (by decide) J J J) J <| iK _ (subsM.get (bF (q := qa) (sz := 1) (el := 108) (us := al.map fX) (h := ((nK + 1 + 6 + 10 + 1), { cells := ((row.set i (xadd (row.getD i default) (xint 1))).map xc).flatten, sz := 4, elem := (114), st := 0 }) :: ((nK + 1 + 6 + 8), { cells := chc (ch ss i (st.getD i default).toNat), sz := 3, elem := (37), st := 0 }) :: outH qb 4 114 (bl.map xc) ((n0 + 1, { cells := xc (d), sz := 4, elem := (114), st := 0 }) :: H)) (fun hne => by rw [bM hne]; repeat (first | exact g0 | refine g1 om ?_ | refine aD om ?_)) ⟨(by repeat (first | exact g0 | refine g1 om ?_ | refine aD om ?_)), (by repeat (first | exact g0 | refine g1 om ?_ | refine aD om ?_)), bF (fun hne => by rw [bM hne]; repeat (first | exact g0 | refine g1 om ?_ | refine aD om ?_)) ⟨(by repeat (first | exact g0 | refine g1 om ?_ | refine aD om ?_)), cJ hnd (by intro q o hq'; have := hlt q o hq'; repeat (first | exact hq' | refine g1 om ?_ | refine aD om ?_))⟩⟩)) ?_
 refine qU (te := ti108) (k0 := 0) (us := al.map fX) (rows := [[_]]) (.inl J) J J J (by rw [iI]; rfl) J (by decide) (by intro r hr; rw [List.mem_singleton] at hr; subst hr; rfl) (bL (f := fX) (n := 1) fun _ => rfl) (by simp) (by rw [List.length_map]; show (2 * (al.length + 1) + 256) * 24 ≤ _; omega) (by rw [List.length_map]; show al.length + 1 < _; omega) (gN om (gN om (cC om (gN om (hfr qa om))))) J <| Dm J J <| aH (bH J J J J J) J <| aH (aL (l := lvM (ch ss i (st.getD i default).toNat).1) J J (by repeat (first | exact g0 | refine g1 om ?_ | refine aD om ?_)) J J) J ?_
 refine aH (bG (b := lvX (nx (ch ss i (st.getD i default).toNat).1)) (aK J (dC (ch ss i (st.getD i default).toNat).1 hr3.1 hr3.2.1 hr3.2.2) dD) J) J <| aH (dJ (cs := [_, _, _, _]) (rows := [[_, _, _, _]]) J J (by decide) J J J) J <| iK _ (subsM.get (bF (q := qb) (sz := 4) (el := 114) (us := bl.map xc) (h := ((n + 1 + 10 + 3), { cells := (al.map fX).flatten ++ [[LV.ref (nK + 1 + 6 + 10 + 1) 4 0 ss.length]].flatten, sz := 1, elem := 108, st := 0 }) :: ((nK + 1 + 6 + 10 + 1), { cells := ((row.set i (xadd (row.getD i default) (xint 1))).map xc).flatten, sz := 4, elem := (114), st := 0 }) :: (n0 + 1, { cells := xc (d), sz := 4, elem := (114), st := 0 }) :: H) (fun hne => by rw [bM hne]; repeat (first | exact g0 | refine g1 om ?_ | refine aD om ?_)) ⟨(by repeat (first | exact g0 | refine g1 om ?_ | refine aD om ?_)), (by repeat (first | exact g0 | refine g1 om ?_ | refine aD om ?_)), (by repeat (first | exact g0 | refine g1 om ?_ | refine aD om ?_)), cJ hnd (by intro q o hq'; have := hlt q o hq'; repeat (first | exact hq' | refine g1 om ?_ | refine aD om ?_))⟩)) ?_
 refine qU (te := ti114) (k0 := 0) (us := bl.map xc) (rows := [xc (nx (ch ss i (st.getD i default).toNat).1)]) (.inl J) J J J (by rw [iI]; rfl) J (by decide) (by intro r hr; rw [List.mem_singleton] at hr; subst hr; rfl) (bL (f := xc) (n := 4) fun _ => rfl) (by simp) (by rw [List.length_map]; show (2 * (bl.length + 1) + 256) * 64 ≤ _; omega) (by rw [List.length_map]; show bl.length + 1 < _; omega) (gN om (gN om (gN om (hfr qb om)))) J <| aH (fR J) J <| aH (fR J) J <| bJ (dR (rq2 qa qb n) (by simp only [List.reverse_cons, List.reverse_nil, List.nil_append, List.cons_append, List.map_cons, List.map_nil, ren, keys, Nat.add_assoc, rq2_a, rq2_b hqba, rq2_lt h12 h12a h12b, rq2_add hqa2 hqb2]; kernel_rfl)) J <| Fz.weakH (outH (nK + 1 + 6 + 10 + 1) 4 (114) ((row.set i (xadd (row.getD i default) (xint 1))).map xc) (((n + 1 + 10 + 3), { cells := (al.map fX).flatten ++ [outV (nK + 1 + 6 + 10 + 1) 4 ((row.set i (xadd (row.getD i default) (xint 1))).map xc)], sz := 1, elem := 108, st := 0 }) :: ((n + 1 + 10 + 9), { cells := (bl.map xc).flatten ++ [xc (nx (ch ss i (st.getD i default).toNat).1)].flatten, sz := 4, elem := 114, st := 0 }) :: (n0 + 1, { cells := xc (d), sz := 4, elem := (114), st := 0 }) :: H)) (subsM.get (bF (fun _ => (by repeat (first | exact g0 | refine g1 om ?_ | refine aD om ?_))) ⟨by rw [hov]; exact (by repeat (first | exact g0 | refine g1 om ?_ | refine aD om ?_)), (by repeat (first | exact g0 | refine g1 om ?_ | refine aD om ?_)), (by repeat (first | exact g0 | refine g1 om ?_ | refine aD om ?_)), cJ hnd (by intro q o hq'; have := hlt q o hq'; repeat (first | exact hq' | refine g1 om ?_ | refine aD om ?_))⟩)) ?_
 refine Fz.cellR [(2, _), (4, _), (7, _), (8, _), (9, _), (22, _), (23, _), (24, _)] ⟨J, J, J, J, J, J, J, J, trivial⟩ om (by decide) (bL (f := xc) (n := 4) fun _ => rfl) (aW jI) (gN om (gN om (hfr _ om))) ?_
 rw [iC]
 refine aG <| aJ (z := 2) J <| aA (cI (((i + 1 : Nat) : Int)) (aV J J om) om) J <| Um J J <| Wn <| aF <| ⟨⟨i + 1, (n + 1 + 10 + 3), (n + 1 + 10 + 9), al ++ [(kd (row.set i (xadd (row.getD i default) (xint 1))).length, (row.set i (xadd (row.getD i default) (xint 1))))], bl ++ [nx (ch ss i (st.getD i default).toNat).1]⟩, ⟨rfl, rfl, rfl, congrArg some (by rw [List.map_append]; exact outV_snoc.symm), congrArg some (by rw [List.map_append]; exact outV_snoc.symm), rfl, rfl, rfl, trivial⟩, by dsimp only; rw [List.map_append, List.map_append]; simp only [List.map_cons, List.map_nil]; rw [iH, iH]; exact ⟨gG, gG, gG, cJ hnd (by intro q o hq'; have := hlt q o hq'; repeat (first | exact hq' | refine g1 om ?_))⟩, ⟨om, by rw [List.length_append]; show al.length + 1 = _; omega, by rw [List.length_append]; show bl.length + 1 = _; omega, fun a ha => ?_, fun r hr => ?_, fun x hx => ?_, om, om, om, om, om, om⟩, by show ss.length - (i + 1) < ss.length - i; omega⟩
 ·by_cases e : a = i
  ·subst e
   rw [show (al ++ [(kd (row.set a (xadd (row.getD a default) (xint 1))).length, (row.set a (xadd (row.getD a default) (xint 1))))]).getD a default = (kd (row.set a (xadd (row.getD a default) (xint 1))).length, (row.set a (xadd (row.getD a default) (xint 1)))) by rw [← hal]; simp [List.getD_eq_getElem?_getD], show (bl ++ [nx (ch ss a (st.getD a default).toNat).1]).getD a default = nx (ch ss a (st.getD a default).toNat).1 by rw [← hbl]; simp [List.getD_eq_getElem?_getD]]
   exact ⟨hrowok.1, rfl, rfl⟩
  ·rw [show (al ++ [(kd (row.set i (xadd (row.getD i default) (xint 1))).length, (row.set i (xadd (row.getD i default) (xint 1))))]).getD a default = al.getD a default by simp only [List.getD_eq_getElem?_getD]; rw [List.getElem?_append_left om], show (bl ++ [nx (ch ss i (st.getD i default).toNat).1]).getD a default = bl.getD a default by simp only [List.getD_eq_getElem?_getD]; rw [List.getElem?_append_left om]]
   exact hrows a om
 ·rcases List.mem_append.1 hr with h | h
  ·exact hba r h
  ·rw [List.mem_singleton] at h; subst h
   exact fun x hx => hrowok.2 _ (List.mem_map.2 ⟨x, hx, rfl⟩)
 ·rcases List.mem_append.1 hx with h | h
  ·exact hbb x h
  ·rw [List.mem_singleton] at h; subst h
   exact hrw.bd.mono (by decide)
theorem pA (k ks : Nat) (ss : List Go.Ab.ST) (d : X) (st : List Int) (hV : VMo ss = true) (hd : Bd 2 d.1) (hd0 : 0 < d.1) (hd1 : d.1 < 1) (hst : vSt ss st = true) :
  ∃ r, Run Try.prog T E0 (.call 115 [lvMo k ss, lvX d, .sl ks (st.map ic)] r) ∧ ∃ xs : List X, r = .sl 1 (xs.map xc) ∧ xs.length = ss.length ∧ WV ss d.1 st (vl xs) ∧ ∀ x, x ∈ xs → Bd 268435456 x.1 := by
 refine gJ Try.func115 J J (dM J) <| (worth_wc 0 [] k ks ss d st trivial (by intro q o hq; simp [getH] at hq) hV hd hd0 hd1 hst).mono ?_
 rintro x e h n ⟨hx, _, xs, hr, hl, hw, hb, _⟩
 exact ⟨.sl 1 (xs.map xc), ⟨xs, rfl, hl, hw, hb⟩, post (n := n) hx hr J (.sl _ _ fun row hr => aW jI row hr)⟩
end Go.Proofs.Ytcblgjaomljikaa
namespace Go.Proofs.Ytcblgjaomljikaa
open Go.Ab Go.RowKit
theorem g0' {h : Hp} {q : Nat} {a b : Ob} (h1 : getH h q = some a) (h2 : a = b) : getH h q = some b := by rw [h1, h2]
theorem four_set {a b c d : Nat} {o1 o2 o2' o3 o4 : Ob} {h' : Hp} (hq : getH h' b = some o2') (hf : ∀ q o, q ≠ b → getH [(a, o1), (b, o2), (c, o3), (d, o4)] q = some o → getH h' q = some o) (h1 : a ≠ b) (h3 : c ≠ b) (h4 : d ≠ b) : ∀ q o, getH [(a, o1), (b, o2'), (c, o3), (d, o4)] q = some o → getH h' q = some o := by
 intro q o h
 by_cases e : b = q
 ·subst e
  rw [g1 h1 g0] at h
  rw [hq]; exact h
 ·refine hf q o (fun h => e h.symm) ?_
  by_cases e1 : a = q
  ·subst e1; rw [g0] at h ⊢; exact h
  ·rw [g1 e1 rfl, g1 e rfl] at h ⊢; exact h
theorem answer_share (n0 : Nat) (hn0 : 9 ≤ n0) (k : Nat) (ss : List Go.Ab.ST) (d : X) (st : List Int) (hV : VMo ss = true) (hd : Bd 2 d.1) (hd0 : 0 < d.1) (hd1 : d.1 < 1) (hst : vSt ss st = true) : WC Try.prog T E0 Try.f176.ntmps (codeOf Try.f176) (argsEnv 0 ([] ++ [] ++ [.ptr 0 0, .ptr (0 + 1) 0, .ptr (0 + 3 + 4) 0])) [((0 + 3 + 4), { cells := [.ref (0 + 3 + 3) 1 0 ss.length], sz := 1, elem := (22), st := 0 }), ((0 + 3 + 3), { cells := ((st).map ic).flatten, sz := 1, elem := (3), st := 0 }), ((0 + 1), { cells := xc (d), sz := 4, elem := (114), st := 0 }), (0, { cells := [.sl k (ss.map stc)], sz := 1, elem := (26), st := 0 })] n0 (fun x e' h' n' => (x = .normal ∨ x = .ret) ∧ n0 ≤ n' ∧ ∃ (s' : List Int) (xs : List X), resE e' T h' Try.f176.results.toList = some [.sl 1 (xs.map xc)] ∧ vSt ss s' = true ∧ xs.length = ss.length ∧ WV ss d.1 s' (vl xs) ∧ NoImp ss d.1 1 (vl xs) ∧ (∀ j, j < ss.length → (ss.getD j default).1.1 ≠ 1 → s'.getD j default = st.getD j default) ∧ (∀ x, x ∈ xs → Bd 268435456 x.1) ∧ ∀ q o, getH [((0 + 3 + 4), { cells := [.ref (0 + 3 + 3) 1 0 ss.length], sz := 1, elem := (22), st := 0 }), ((0 + 3 + 3), { cells := ((s').map ic).flatten, sz := 1, elem := (3), st := 0 }), ((0 + 1), { cells := xc (d), sz := 4, elem := (114), st := 0 }), (0, { cells := [.sl k (ss.map stc)], sz := 1, elem := (26), st := 0 })] q = some o → getH h' q = some o) := by
 have hD := gC hV hd0 hd1
 have hn40 := (fS hV).wt.len
 obtain ⟨μ, M, hM, hμ⟩ := rank1 hD
 change WC _ _ _ _ _ [(0, .ptr 0 0), (1, .ptr (0 + 1) 0), (2, .ptr (0 + 3 + 4) 0)] _ _ _
 refine Rg 1 J <| Ua J J <| Wn <| cN <| aX (α := (List Int)) (fun s => [(0, .ptr 0 0), (1, .ptr (0 + 1) 0), (2, .ptr (0 + 3 + 4) 0)]) (fun s => [((0 + 3 + 4), { cells := [.ref (0 + 3 + 3) 1 0 ss.length], sz := 1, elem := (22), st := 0 }), ((0 + 3 + 3), { cells := ((s).map ic).flatten, sz := 1, elem := (3), st := 0 }), ((0 + 1), { cells := xc (d), sz := 4, elem := (114), st := 0 }), (0, { cells := [.sl k (ss.map stc)], sz := 1, elem := (26), st := 0 })]) (fun s n => vSt ss s = true ∧ (∀ j, j < ss.length → (ss.getD j default).1.1 ≠ 1 → s.getD j default = st.getD j default) ∧ n0 ≤ n) (fun s => μ s) (st) ⟨J, J, J, trivial⟩ ⟨gG, gG, gG, gG, trivial⟩ ⟨hst, fun _ _ _ => rfl, om⟩ ?_
 rintro s n hF
 change WC _ _ _ _ _ (_ :: _) (_ :: _) n _
 obtain ⟨hs, hsame, hn⟩ := hF
 refine cN <| eE (z := 5) J <| bV (aL (l := lvMo k ss) J J gG J J) J ?_
 refine bV (aL (l := lvX d) J J gG J J) J ?_
 refine bV (aL (l := .ref (0 + 3 + 3) 1 0 ss.length) J J gG J J) J ?_
 refine qW (ls := [lvMo k ss, lvX d, .ref (0 + 3 + 3) 1 0 ss.length]) (Φ := fun r h' n' => ∃ xs : List X, r = .sl 1 (xs.map xc) ∧ xs.length = ss.length ∧ WV ss d.1 s (vl xs) ∧ (∀ x, x ∈ xs → Bd 268435456 x.1) ∧ n + 5 ≤ n' ∧ ∀ q o, getH [((0 + 3 + 4), { cells := [.ref (0 + 3 + 3) 1 0 ss.length], sz := 1, elem := (22), st := 0 }), ((0 + 3 + 3), { cells := ((s).map ic).flatten, sz := 1, elem := (3), st := 0 }), ((0 + 1), { cells := xc (d), sz := 4, elem := (114), st := 0 }), (0, { cells := [.sl k (ss.map stc)], sz := 1, elem := (26), st := 0 })] q = some o → getH h' q = some o) J Try.func115 J J (dM J) J ((worth_share (n + 5) [((0 + 3 + 4), { cells := [.ref (0 + 3 + 3) 1 0 ss.length], sz := 1, elem := (22), st := 0 }), ((0 + 3 + 3), { cells := ((s).map ic).flatten, sz := 1, elem := (3), st := 0 }), ((0 + 1), { cells := xc (d), sz := 4, elem := (114), st := 0 }), (0, { cells := [.sl k (ss.map stc)], sz := 1, elem := (26), st := 0 })] k ss d s (0 + 3 + 3) ⟨gG, gG, gG, gG, trivial⟩ (four_lt om om om om) gG hV hd hd0 hd1 hs).mono (by rintro x e h n' ⟨hx, h1, xs, hr, h2, h3, h4, h5⟩; exact ⟨hx, _, hr, xs, rfl, h2, h3, h4, h1, h5⟩)) ?_
 rintro r' h' n' ⟨xs, rfl, hxl, hwv, hxb, hn', hH⟩
 refine mT [((0 + 3 + 4), { cells := [.ref (0 + 3 + 3) 1 0 ss.length], sz := 1, elem := (22), st := 0 }), ((0 + 3 + 3), { cells := ((s).map ic).flatten, sz := 1, elem := (3), st := 0 }), ((0 + 1), { cells := xc (d), sz := 4, elem := (114), st := 0 }), (0, { cells := [.sl k (ss.map stc)], sz := 1, elem := (26), st := 0 })] ⟨hH _ _ gG, hH _ _ gG, hH _ _ gG, hH _ _ gG, trivial⟩ ?_
 refine bV (fR J) J <| eH <| eE (z := 6) J <| bV (aL (l := lvMo k ss) J J gG J J) J ?_
 refine bV (aL (l := lvX d) J J gG J J) J ?_
 refine bV (dU J) J <| bV (aL (l := .ref (0 + 3 + 3) 1 0 ss.length) J J gG J J) J ?_
 refine qW (ls := [lvMo k ss, lvX d, .sl 1 (xs.map xc), .ref (0 + 3 + 3) 1 0 ss.length, .v (.int .i64 1)]) (Φ := fun r h' m' => ∃ (b : Bool) (s2 : List Int), r = .v (.bool b) ∧ (∀ q o, getH [((0 + 3 + 4), { cells := [.ref (0 + 3 + 3) 1 0 ss.length], sz := 1, elem := (22), st := 0 }), ((0 + 3 + 3), { cells := ((s2).map ic).flatten, sz := 1, elem := (3), st := 0 }), ((0 + 1), { cells := xc (d), sz := 4, elem := (114), st := 0 }), (0, { cells := [.sl k (ss.map stc)], sz := 1, elem := (26), st := 0 })] q = some o → getH h' q = some o) ∧ m' ≥ n' + 6 ∧ (b = false → s2 = s ∧ NoImp ss d.1 1 (vl xs)) ∧ (b = true → ∃ i j : Nat, i < ss.length ∧ (ss.getD i default).1.1 = 1 ∧ j < (ss.getD i default).2.2.length ∧ btr 1 (yl d.1 (ch ss i j) (vl xs)) (vl xs i) ∧ s2 = s.set i (j : Int))) J Try.func177 J J (dM J) J ((kX (n' + 6) [((0 + 3 + 4), { cells := [.ref (0 + 3 + 3) 1 0 ss.length], sz := 1, elem := (22), st := 0 }), ((0 + 3 + 3), { cells := ((s).map ic).flatten, sz := 1, elem := (3), st := 0 }), ((0 + 1), { cells := xc (d), sz := 4, elem := (114), st := 0 }), (0, { cells := [.sl k (ss.map stc)], sz := 1, elem := (26), st := 0 })] k 1 ss d xs s 1 (0 + 3 + 3) ⟨gG, gG, gG, gG, trivial⟩ (four_lt om om om om) gG hV hd hxl (gM hs) 268435456 (by decide) (by decide) hxb).mono (by
  rintro x e h n' ⟨hx, h1, (⟨hr, hni, h2⟩ | ⟨i, j, hr, hi, ho, hj, hb, hq, h2⟩)⟩
  ·exact ⟨hx, _, hr, false, s, rfl, h2, h1, fun _ => ⟨rfl, hni⟩, fun h => by cases h⟩
  ·exact ⟨hx, _, hr, true, _, rfl, four_set hq (fun q o hq => h2 q o hq) om om om, h1, fun h => (by cases h), fun _ => ⟨i, j, hi, ho, hj, hb, rfl⟩⟩)) ?_
 rintro r' h' m' ⟨b, s2, rfl, hH, hm', hbF, hbT⟩
 refine mT [((0 + 3 + 4), { cells := [.ref (0 + 3 + 3) 1 0 ss.length], sz := 1, elem := (22), st := 0 }), ((0 + 3 + 3), { cells := ((s2).map ic).flatten, sz := 1, elem := (3), st := 0 }), ((0 + 1), { cells := xc (d), sz := 4, elem := (114), st := 0 }), (0, { cells := [.sl k (ss.map stc)], sz := 1, elem := (26), st := 0 })] ⟨hH _ _ gG, hH _ _ gG, hH _ _ gG, hH _ _ gG, trivial⟩ ?_
 refine WN.B (fun h13 => ?_) (fun h13 => ?_)
 rotate_left
 ·refine bV (fG J) J <| eH <| cL J <| Rg 2 J <| Um J J <| Ua J J <| Nk [3] J <| aP <| dZ <| bO <| dZ ?_
  obtain ⟨rfl, hni⟩ := hbF h13
  exact ⟨.inr J, om, s2, xs, rfl, hs, hxl, hwv, hni, hsame, hxb, fun q o hq => hq⟩
 refine bV (fG J) J <| eH <| cH J <| cM <| dY <| aF ?_
 obtain ⟨i, j, hi, ho, hj, hb, rfl⟩ := hbT h13
 unfold btr at hb
 rw [if_pos rfl] at hb
 have hs2 := vSt_set hs hj
 obtain ⟨_, _, ys, _, _, hys, _⟩ := pA k 0 ss d _ hV hd hd0 hd1 hs2
 obtain ⟨h5, h6⟩ := imp1 hD hs hi hj hwv hb hys
 refine ⟨s.set i (j : Int), ⟨J, J, J, trivial⟩, ⟨gG, gG, gG, gG, trivial⟩, ⟨hs2, fun a ha hoa => ?_, om⟩, hμ _ _ _ _ i hs2 hs hys hwv h5 hi h6⟩
 rw [lA (by rw [gM hs]; exact hi), if_neg (fun e => hoa (by rw [← e]; exact ho))]
 exact hsame a ha hoa
theorem values_run (k : Nat) (ss : List Go.Ab.ST) (d : X) (hV : VMo ss = true) (hd : Bd 2 d.1) (hd0 : 0 < d.1) (hd1 : d.1 < 1) : ∃ r, Run Try.prog T E0 (.call 113 [lvMo k ss, lvX d] r) ∧ ∃ (st : List Int) (xs : List X), r = .sl 1 (xs.map xc) ∧ vSt ss st = true ∧ xs.length = ss.length ∧ WV ss d.1 st (vl xs) ∧ Val ss d.1 (vl xs) ∧ ∀ x, x ∈ xs → Bd 268435456 x.1 := by
 have hD := gC hV hd0 hd1
 have hV1 := fS hV
 have hn40 := hV1.wt.len
 obtain ⟨μ, M, hM, hμ⟩ := rank0 hD
 have hz0 : vSt ss (List.replicate ss.length 0) = true := by
  unfold vSt
  rw [decide_eq_true (by simp), Bool.true_and]
  refine gK fun i hi => ?_
  rw [List.length_replicate] at hi
  have := hV1.cs _ (bA (us := ss) hi)
  rw [show (List.replicate ss.length (0 : Int)).getD i default = 0 by rw [List.getD_eq_getElem?_getD, List.getElem?_replicate, if_pos hi]; rfl, decide_eq_true (by decide), decide_eq_true om]; rfl
 refine gJ Try.func113 J J (dM J) <| Rg 3 J <| bB (eG J J) J <| bB (eG J J) J <| Ua J J <| Wn <| Rg 6 J <| aA (bH J J J J J) J <| aA (aL J J gG J J) J ?_
 refine aA (bD J J) J <| bB (oMk (a := ss.length) (b := ss.length) J J J J (by simp) (by simp) (by decide) om (by show 8 * ss.length ≤ _; omega) om) J <| bB (dS J) J <| aZ (cO (cs' := [_]) J J J g0 J J J J) <| Wn <| Rg 2 J <| aA (oMf J) J <| Ua J J <| Wn <| cN <| aX (α := (List Int) × Nat) (fun ⟨s, g⟩ => [(2, .ptr 0 0), (3, .ptr (0 + 1) 0), (5, .ptr (0 + 3 + 4) 0), (6, .fn (.func 176) [] [.ptr 0 0, .ptr (0 + 1) 0, .ptr (0 + 3 + 4) 0])]) (fun ⟨s, g⟩ => [((0 + 3 + 4), { cells := [.ref (0 + 3 + 3) 1 0 ss.length], sz := 1, elem := (22), st := 0 }), ((0 + 3 + 3), { cells := ((s).map ic).flatten, sz := 1, elem := (3), st := 0 }), ((0 + 1), { cells := xc (d), sz := 4, elem := (114), st := 0 }), (0, { cells := [.sl k (ss.map stc)], sz := 1, elem := (26), st := 0 })]) (fun ⟨s, g⟩ n => vSt ss s = true ∧ (∀ (s2 : List Int) (u : Nat → Rat), vSt ss s2 = true → WV ss d.1 s2 u → NoImp ss d.1 1 u → (∀ j, j < ss.length → (ss.getD j default).1.1 ≠ 1 → s2.getD j default = s.getD j default) → μ s2 < g) ∧ 9 ≤ n) (fun ⟨s, g⟩ => g) (List.replicate ss.length 0, M) ⟨J, J, J, J, trivial⟩ ⟨gG, g0' gG (by rw [List.map_replicate]; rfl), gG, gG, trivial⟩ ⟨hz0, fun s2 _ _ _ _ _ => hM s2, om⟩ ?_
 rintro ⟨s, g⟩ n hF
 change WC _ _ _ _ _ (_ :: _) (_ :: _) n _
 obtain ⟨hs, hfu, hn⟩ := hF
 refine cN <| eE (z := 3) J <| bV (dU J) J <| WN.Gv (first := []) (cap := [.ptr 0 0, .ptr (0 + 1) 0, .ptr (0 + 3 + 4) 0]) (ls := []) (Φ := fun r h' n' => ∃ (s' : List Int) (xs : List X), r = .sl 1 (xs.map xc) ∧ vSt ss s' = true ∧ xs.length = ss.length ∧ WV ss d.1 s' (vl xs) ∧ NoImp ss d.1 1 (vl xs) ∧ (∀ j, j < ss.length → (ss.getD j default).1.1 ≠ 1 → s'.getD j default = s.getD j default) ∧ (∀ x, x ∈ xs → Bd 268435456 x.1) ∧ n + 3 ≤ n' ∧ ∀ q o, getH [((0 + 3 + 4), { cells := [.ref (0 + 3 + 3) 1 0 ss.length], sz := 1, elem := (22), st := 0 }), ((0 + 3 + 3), { cells := ((s').map ic).flatten, sz := 1, elem := (3), st := 0 }), ((0 + 1), { cells := xc (d), sz := 4, elem := (114), st := 0 }), (0, { cells := [.sl k (ss.map stc)], sz := 1, elem := (26), st := 0 })] q = some o → getH h' q = some o) J J Try.func176 J J (dM J) J ((answer_share (n + 3) om k ss d s hV hd hd0 hd1 hs).mono (by rintro x e h n' ⟨hx, h1, s', xs, hr, h2, h3, h4, h5, h6, h7, h8⟩; exact ⟨hx, _, hr, s', xs, rfl, h2, h3, h4, h5, h6, h7, h1, h8⟩)) ?_
 rintro r' h' n' ⟨s', xs, rfl, hs', hxl, hwv, hn1, hsame, hxb, hn', hH⟩
 refine mT [((0 + 3 + 4), { cells := [.ref (0 + 3 + 3) 1 0 ss.length], sz := 1, elem := (22), st := 0 }), ((0 + 3 + 3), { cells := ((s').map ic).flatten, sz := 1, elem := (3), st := 0 }), ((0 + 1), { cells := xc (d), sz := 4, elem := (114), st := 0 }), (0, { cells := [.sl k (ss.map stc)], sz := 1, elem := (26), st := 0 })] ⟨hH _ _ gG, hH _ _ gG, hH _ _ gG, hH _ _ gG, trivial⟩ ?_
 refine bV (fR J) J <| eH <| eE (z := 6) J <| bV (aL (l := lvMo k ss) J J gG J J) J ?_
 refine bV (aL (l := lvX d) J J gG J J) J ?_
 refine bV (dU J) J <| bV (aL (l := .ref (0 + 3 + 3) 1 0 ss.length) J J gG J J) J ?_
 refine qW (ls := [lvMo k ss, lvX d, .sl 1 (xs.map xc), .ref (0 + 3 + 3) 1 0 ss.length, .v (.int .i64 0)]) (Φ := fun r h' m' => ∃ (b : Bool) (s2 : List Int), r = .v (.bool b) ∧ (∀ q o, getH [((0 + 3 + 4), { cells := [.ref (0 + 3 + 3) 1 0 ss.length], sz := 1, elem := (22), st := 0 }), ((0 + 3 + 3), { cells := ((s2).map ic).flatten, sz := 1, elem := (3), st := 0 }), ((0 + 1), { cells := xc (d), sz := 4, elem := (114), st := 0 }), (0, { cells := [.sl k (ss.map stc)], sz := 1, elem := (26), st := 0 })] q = some o → getH h' q = some o) ∧ m' ≥ n' + 6 ∧ (b = false → s2 = s' ∧ NoImp ss d.1 0 (vl xs)) ∧ (b = true → ∃ i j : Nat, i < ss.length ∧ (ss.getD i default).1.1 = 0 ∧ j < (ss.getD i default).2.2.length ∧ btr 0 (yl d.1 (ch ss i j) (vl xs)) (vl xs i) ∧ s2 = s'.set i (j : Int))) J Try.func177 J J (dM J) J ((kX (n' + 6) [((0 + 3 + 4), { cells := [.ref (0 + 3 + 3) 1 0 ss.length], sz := 1, elem := (22), st := 0 }), ((0 + 3 + 3), { cells := ((s').map ic).flatten, sz := 1, elem := (3), st := 0 }), ((0 + 1), { cells := xc (d), sz := 4, elem := (114), st := 0 }), (0, { cells := [.sl k (ss.map stc)], sz := 1, elem := (26), st := 0 })] k 1 ss d xs s' 0 (0 + 3 + 3) ⟨gG, gG, gG, gG, trivial⟩ (four_lt om om om om) gG hV hd hxl (gM hs') 268435456 (by decide) (by decide) hxb).mono (by
  rintro x e h n' ⟨hx, h1, (⟨hr, hni, h2⟩ | ⟨i, j, hr, hi, ho, hj, hb, hq, h2⟩)⟩
  ·exact ⟨hx, _, hr, false, s', rfl, h2, h1, fun _ => ⟨rfl, hni⟩, fun h => by cases h⟩
  ·exact ⟨hx, _, hr, true, _, rfl, four_set hq (fun q o hq => h2 q o hq) om om om, h1, fun h => (by cases h), fun _ => ⟨i, j, hi, ho, hj, hb, rfl⟩⟩)) ?_
 rintro r' h' m' ⟨b, s2, rfl, hH, hm', hbF, hbT⟩
 refine mT [((0 + 3 + 4), { cells := [.ref (0 + 3 + 3) 1 0 ss.length], sz := 1, elem := (22), st := 0 }), ((0 + 3 + 3), { cells := ((s2).map ic).flatten, sz := 1, elem := (3), st := 0 }), ((0 + 1), { cells := xc (d), sz := 4, elem := (114), st := 0 }), (0, { cells := [.sl k (ss.map stc)], sz := 1, elem := (26), st := 0 })] ⟨hH _ _ gG, hH _ _ gG, hH _ _ gG, hH _ _ gG, trivial⟩ ?_
 refine WN.B (fun h19 => ?_) (fun h19 => ?_)
 ·refine bV (fG J) J <| eH <| cH J <| cM <| dY <| aF ?_
  obtain ⟨i, j, hi, ho, hj, hb, rfl⟩ := hbT h19
  unfold btr at hb
  rw [if_neg (by decide)] at hb
  refine ⟨⟨s'.set i (j : Int), μ s'⟩, ⟨J, J, J, J, trivial⟩, ⟨gG, gG, gG, gG, trivial⟩, ⟨vSt_set hs' hj, fun s2 u h1 h2 h3 h4 => ?_, om⟩, hfu s' _ hs' hwv hn1 hsame⟩
  obtain ⟨h5, h6⟩ := imp0 hD hs' h1 hi om hj hwv hn1 hb h4 h2
  exact hμ _ _ _ _ i h1 hs' h2 hwv h5 hi h6
 refine bV (fG J) J <| eH <| cL J <| Rg 2 J <| Um J J <| Ua J J <| Nk [4] J <| aP <| dZ <| bO <| dZ ?_
 obtain ⟨rfl, hn0⟩ := hbF h19
 exact ⟨.sl 1 (xs.map xc), ⟨s2, xs, rfl, hs', hxl, hwv, val_of (fun x hx => by have := hV1.own x hx; omega) hs' hwv hn0 hn1, hxb⟩, post (n := 0) (.inr J) J J (.sl _ _ fun row hr => aW jI row hr)⟩
end Go.Proofs.Ytcblgjaomljikaa
namespace Go.Proofs.Ytcblgjaomljikaa
open Go.Ab Go.RowKit
theorem jW {ns : List NM} (h : (ns.any fun a => !vn a) = false) : ns.all vn = true := by
 rw [← any_not, h]; rfl
theorem xyl_v' {x : Go.Ab.ST} {d : X} {vx : List X} {k : Nat} : (xyl (x.2.2.getD k default) d vx).1 = ysF x d.1 (vl vx) k := oF _ _ _
theorem e86 {h : Hp} {q : Nat} {a b : Ob} (h1 : getH h q = some a) (h2 : a = b) : getH h q = some b := by rw [h1, h2]
theorem jE (x : Go.Ab.ST) (d : X) (kv : Nat) (vx : List X) (n0 : Nat) (hcs : 1 ≤ x.2.2.length ∧ x.2.2.length ≤ 8) (hvb : ∀ c, c ∈ x.2.2 → VN c.1 ∧ VB n0 c.2.2) (hd : Bd 2 d.1) (hl : vx.length = n0) (β : Nat) (h1β : 1 ≤ β) (hβ : β ≤ 2147483648) (hv : ∀ x, x ∈ vx → Bd β x.1) : Run Try.prog T E0 (.call 114 [.agg (stc x), lvX d, .sl kv (vx.map xc)] (.tup [lvX (xyl (x.2.2.getD (bsK x d.1 (vl vx)) default) d vx), .v (.int .i64 ((bsK x d.1 (vl vx) : Nat) : Int))])) := by
 refine bK Try.func114 J J (dM J) <| Rg 4 J <| bB (eG J J) J <| bB (eG J J) J <| bB (dS J) J <| Ua J J <| Wn <| Rg 4 J <| aA (bH J J J J J) J <| aA (aL J J gG J J) J ?_
 refine aA (aK J (wants_run x.1.1) (aQ (by intro c hc; simp only [List.mem_cons, List.not_mem_nil, or_false] at hc; rcases hc with rfl; exact .v _))) J <| Ua J J <| dA ?_
 have h0m := bA (us := x.2.2) (i := 0) om
 obtain ⟨hr0, hb0⟩ := hvb _ h0m
 refine bN (z := 10) J kR <| aH (bH J J J J J) J <| aH (aL J J gG J J) J ?_
 refine aH (bS (j := 0) J J J J J om J) J <| aH (dL (l := lvC (x.2.2.getD 0 default)) J J J) J <| aH (aL (l := lvX d) J J gG J J) J ?_
 refine Dm J J <| aH (aK J (jR (x.2.2.getD 0 default) d kv vx n0 hr0 hb0 hd hl β h1β hβ hv) (aQ (by intro c hc; simp only [List.mem_cons, List.not_mem_nil, or_false] at hc; rcases hc with rfl | rfl | rfl; exact eQ; exact eQ; exact (.sl _ _ fun row hr => aW jI row hr)))) J <| mF (dS J) J <| cR (cO (cs' := xc (xyl (x.2.2.getD 0 default) d vx)) J J J g0 J J J J) <| aH (fR J) J <| bJ (aY kR) J <| Ck [2,3,4,6,8,9,10] J <| aB <| Rg 4 J <| aA (bH J J J J J) J <| aA (aL J J gG J J) J ?_
 refine aA (bD J J) J <| Um J J <| Wn <| aI <| aX (α := Nat) (fun i => [(2, .sl kv (vx.map xc)), (4, .ptr (0 + 1) 0), (6, .ptr (0 + 2) 0), (8, .fn (.func (if x.1.1 = 1 then 205 else 119)) [] []), (9, .ptr (0 + 4 + 4 + 7) 0), (10, .v (.int .i64 (((bkF x.1.1 (ysF x d.1 (vl vx)) i) : Nat) : Int))), (26, .sl x.2.1 (x.2.2.map chc)), (27, .v (.int .i64 (x.2.2.length : Int))), (28, .v (.int .i64 (i : Int)))]) (fun i => [((0 + 4 + 4 + 7), { cells := xc (xyl (x.2.2.getD (bkF x.1.1 (ysF x d.1 (vl vx)) i) default) d vx), sz := 4, elem := (114), st := 0 }), ((0 + 2), { cells := xc (x0), sz := 4, elem := (114), st := 0 }), ((0 + 1), { cells := xc (d), sz := 4, elem := (114), st := 0 })]) (fun i n => i ≤ x.2.2.length ∧ 20 ≤ n) (fun i => x.2.2.length - i) (0) ⟨J, J, J, J, J, J, J, J, J, trivial⟩ ⟨gG, gG, gG, trivial⟩ ⟨Nat.zero_le _, om⟩ ?_
 rintro i n hF
 change WC _ _ _ _ _ (_ :: _) (_ :: _) n _
 obtain ⟨hi, hn⟩ := hF
 refine Rg 1 J <| aA (bU J J) J <| bE (fun h29 => ?_) (fun h29 => ?_)
 rotate_left
 ·refine Wn <| aT J <| aU <| aN <| aO J <| Rg 4 J <| aA (aL (l := lvX (xyl (x.2.2.getD (bkF x.1.1 (ysF x d.1 (vl vx)) i) default) d vx)) J J gG J J) J ?_
  refine Um J J <| aZ (cO (cs' := xc (xyl (x.2.2.getD (bkF x.1.1 (ysF x d.1 (vl vx)) i) default) d vx)) J J J gG J J J J) ?_
  refine Ua J J <| Wn <| aP ?_
  have hin : i = x.2.2.length := by omega
  subst hin
  refine post (n := 0) (.inr J) J J (.tup _ ?_)
  intro c hc
  simp only [List.mem_cons, List.not_mem_nil, or_false] at hc
  rcases hc with rfl | rfl
  ·exact eQ
  ·exact .v _
 refine Wn <| aR J <| aE <| aI ?_
 have him := bA (us := x.2.2) (i := i) om
 obtain ⟨hri, hbi⟩ := hvb _ him
 have hyb := xyl_bd hri hbi hd h1β hv
 have hbl : (bkF x.1.1 (ysF x d.1 (vl vx)) i) < x.2.2.length := by
  rcases Nat.eq_zero_or_pos i with h | h
  ·rw [h]; show 0 < _; omega
  ·have := qZ (p := x.1.1) (ys := (ysF x d.1 (vl vx))) i h; omega
 obtain ⟨hrb, hbb⟩ := hvb _ (bA (us := x.2.2) hbl)
 have hyb2 := xyl_bd hrb hbb hd h1β hv
 refine Rg 6 J <| Um J J <| aA (bS J J J J J om J) J <| aA (dL (l := lvC (x.2.2.getD i default)) J J J) J <| bB (dS J) J <| Ua J J <| aZ (cO (cs' := chc (x.2.2.getD i default)) J J J g0 J J J J) <| Nk [2,4,6,8,9,10,11,12,26,27,28] J <| Rg 6 J <| aA (aL (l := lvC (x.2.2.getD i default)) J J gG J J) J ?_
 refine aA (aL (l := lvX d) J J gG J J) J ?_
 refine Um J J <| aA (aK J (jR (x.2.2.getD i default) d kv vx n0 hri hbi hd hl β h1β hβ hv) (aQ (by intro c hc; simp only [List.mem_cons, List.not_mem_nil, or_false] at hc; rcases hc with rfl | rfl | rfl; exact eQ; exact eQ; exact (.sl _ _ fun row hr => aW jI row hr)))) J <| bB (dS J) J <| aZ (cO (cs' := xc (xyl (x.2.2.getD i default) d vx)) J J J g0 J J J J) <| Nk [2,4,6,8,9,10,11,13,26,27,28] J <| aB <| Rg 5 J <| Um J J <| aA (aL (l := lvX (xyl (x.2.2.getD i default) d vx)) J J gG J J) J ?_
 refine aA (aL (l := lvX (xyl (x.2.2.getD (bkF x.1.1 (ysF x d.1 (vl vx)) i) default) d vx)) J J gG J J) J ?_
 refine aA (oCallVD J J (cmpf_run x.1.1 (xyl (x.2.2.getD i default) d vx) (xyl (x.2.2.getD (bkF x.1.1 (ysF x d.1 (vl vx)) i) default) d vx) (hyb.mono om) (hyb2.mono om)) (data3 d0 (by intro c hc; simp only [List.mem_cons, List.not_mem_nil, or_false] at hc; rcases hc with rfl | rfl; exact eQ; exact eQ) d0)) J <| Ua J J <| Nk [2,4,6,8,9,10,11,13,14,26,27,28] J <| aI <| aI <| cN <| aB <| aB <| Rg 3 J <| Um J J <| aA (gB J J) J <| bE (fun h43 => ?_) (fun h43 => ?_)
 ·refine Ua J J <| Nk [2,4,6,8,9,10,11,13,14,26,27,28,41] J <| aR J <| aU <| dO J <| aG <| aU <| kK J <| aO J <| aJ (z := 2) J <| aA (cI (((i + 1 : Nat) : Int)) (aV J J om) om) J <| Um J J <| Wn <| aF ?_
  have eb : (bkF x.1.1 (ysF x d.1 (vl vx)) (i + 1)) = (bkF x.1.1 (ysF x d.1 (vl vx)) i) := by rw [show i = 0 by omega, bkF_one]; rfl
  refine ⟨i + 1, ⟨rfl, rfl, rfl, rfl, rfl, congrArg (fun z : Nat => some (LV.v (.int .i64 (z : Int)))) eb.symm, rfl, rfl, rfl, trivial⟩, ⟨e86 gG (by rw [eb]), gG, gG, trivial⟩, ⟨om, om⟩, by show x.2.2.length - (i + 1) < x.2.2.length - i; omega⟩
 refine Ua J J <| Nk [2,4,6,8,9,10,11,13,14,26,27,28,41] J <| aT J <| aE <| aB <| Rg 3 J <| Um J J <| aA (oLeq J J) J <| bE (fun h46 => ?_) (fun h46 => ?_)
 ·refine Ua J J <| Nk [2,4,6,8,9,10,11,13,26,27,28,44] J <| aR J <| aU <| gZ J <| aO J <| aU <| kK J <| aO J <| aJ (z := 2) J <| aA (cI (((i + 1 : Nat) : Int)) (aV J J om) om) J <| Um J J <| Wn <| aF ?_
  have eb : (bkF x.1.1 (ysF x d.1 (vl vx)) (i + 1)) = (bkF x.1.1 (ysF x d.1 (vl vx)) i) := bkF_no fun hb => by have := nU.2 hb; rw [← xyl_v', ← xyl_v'] at this; omega
  refine ⟨i + 1, ⟨rfl, rfl, rfl, rfl, rfl, congrArg (fun z : Nat => some (LV.v (.int .i64 (z : Int)))) eb.symm, rfl, rfl, rfl, trivial⟩, ⟨e86 gG (by rw [eb]), gG, gG, trivial⟩, ⟨om, om⟩, by show x.2.2.length - (i + 1) < x.2.2.length - i; omega⟩
 refine Ua J J <| Nk [2,4,6,8,9,10,11,13,26,27,28,44] J <| aT J <| aE <| qA <| gZ J <| kK J <| aO J <| aJ (z := 4) J <| aA (aL (l := lvX (xyl (x.2.2.getD i default) d vx)) J J gG J J) J ?_
 refine Um J J <| aZ (cO (cs' := xc (xyl (x.2.2.getD i default) d vx)) J J J gG J J J J) ?_
 refine Ua J J <| Wn <| aG <| aJ (z := 2) J <| aA (cI (((i + 1 : Nat) : Int)) (aV J J om) om) J <| Um J J <| Wn <| aF ?_
 have eb : (bkF x.1.1 (ysF x d.1 (vl vx)) (i + 1)) = i := bkF_yes (by have h7 : 0 < sgnF x.1.1 (xyl (x.2.2.getD i default) d vx).1 (xyl (x.2.2.getD (bkF x.1.1 (ysF x d.1 (vl vx)) i) default) d vx).1 := om; have h8 := nU.1 h7; rwa [xyl_v', xyl_v'] at h8)
 refine ⟨i + 1, ⟨rfl, rfl, rfl, rfl, rfl, congrArg (fun z : Nat => some (LV.v (.int .i64 (z : Int)))) eb.symm, rfl, rfl, rfl, trivial⟩, ⟨e86 gG (by rw [eb]), gG, gG, trivial⟩, ⟨om, om⟩, by show x.2.2.length - (i + 1) < x.2.2.length - i; omega⟩
theorem askv_run (a : NM) (h1 : I64 a.1) (h2 : I64 a.2) : Run Try.prog T E0 (.call 175 [lvM a] (.v (.bool (!vn a)))) := by
 refine bK Try.func175 J J (dM J) <| Rg 2 J <| bB (eG J J) J <| Ua J J <| Wn <| Rg 4 J <| aA (aL (l := lvM a) J J gG J J) J ?_
 refine aA (aK J (iP a h1 h2) dD) J <| aA (fG J) J <| Ua J J <| Wn <| aP <| post (n := 0) (.inr J) J ?_ dD
 rfl
theorem chkv_run (a : NM) (h1 : I64 a.1) (h2 : I64 a.2) : Run Try.prog T E0 (.call 117 [lvM a] (.v (.bool (!vn a)))) := by
 refine bK Try.func117 J J (dM J) <| Rg 2 J <| bB (eG J J) J <| Ua J J <| Wn <| Rg 4 J <| aA (aL (l := lvM a) J J gG J J) J ?_
 refine aA (aK J (iP a h1 h2) dD) J <| aA (fG J) J <| Ua J J <| Wn <| aP <| post (n := 0) (.inr J) J ?_ dD
 rfl
theorem eA (k kn : Nat) (ss : List Go.Ab.ST) (f : NM) (ns : List NM) (hI : ∀ s, s ∈ ss → IS s) (hf1 : I64 f.1) (hf2 : I64 f.2) (hns : IV ns) (ln : ns.length < 1099511627776) : Run Try.prog T E0 (.call 112 [lvMo k ss, lvM f, .sl kn (ns.map mc)] (.v (.int .i64 (eD ss f ns)))) := by
 refine bK Try.func112 J J (dM J) <| Rg 3 J <| bB (eG J J) J <| bB (eG J J) J <| Ua J J <| Wn <| aI <| Rg 13 J <| aA (aL (l := lvMo k ss) J J gG J J) J ?_
 refine aA (aK J (mvmodel_run k ss hI) dD) J <| fT (fun h9 => ?_) (fun h9 => ?_)
 rotate_left
 ·refine aA (fG J) J <| Um J J <| K1 J J <| K1 J J <| K1 J J <| aA (bW J J) J <| Um J J <| K1 J J <| K1 J J <| aA (bW J J) J <| Ua J J <| Nk [4,7] J <| cL J <| Rg 1 J <| Ua J J <| Wn <| aP <| aS <| post (n := 0) (.inr J) J ?_ dD
  exact congrArg (fun z => LV.v (.int .i64 z)) (show 1 = (eD ss f ns) by unfold eD; rw [if_neg (fun h => by rw [h9] at h; cases h.1)])
 refine aA (fG J) J <| Um J J <| aM J (aL (l := lvM f) J J gG J J) J ?_
 refine aM J (aK J (iP f hf1 hf2) dD) J <| fT (fun h13 => ?_) (fun h13 => ?_)
 rotate_left
 ·refine aM J (fG J) J <| aA (cG J J) J <| Um J J <| K1 J J <| K1 J J <| aA (bW J J) J <| Ua J J <| Nk [4,7] J <| cL J <| Rg 1 J <| Ua J J <| Wn <| aP <| aS <| post (n := 0) (.inr J) J ?_ dD
  exact congrArg (fun z => LV.v (.int .i64 z)) (show 1 = (eD ss f ns) by unfold eD; rw [if_neg (fun h => absurd h.2.1 (of_decide_eq_false h13))])
 refine aM J (fG J) J <| aA (cG J J) J <| Um J J <| aM J (dU J) J <| aM J (aK J (con1_run kn ns 175 [] (fun a => !vn a) d0 om (fun a ha => askv_run a (hns a ha).1 (hns a ha).2)) (aQ (by intro c hc; simp only [List.mem_cons, List.not_mem_nil, or_false] at hc; rcases hc with rfl | rfl; exact (.sl _ _ fun row hr => aW nB row hr); exact dfn d0 d0))) J <| fT (fun h18 => ?_) (fun h18 => ?_)
 ·refine aA (cG J J) J <| Ua J J <| Nk [4,7] J <| cL J <| Rg 1 J <| Ua J J <| Wn <| aP <| aS <| post (n := 0) (.inr J) J ?_ dD
  exact congrArg (fun z => LV.v (.int .i64 z)) (show 1 = (eD ss f ns) by unfold eD; rw [if_neg (fun h => by have h7 := any_not vn ns; rw [h18, h.2.2] at h7; cases h7)])
 refine aA (cG J J) J <| Ua J J <| Nk [4,7] J <| cH J <| Rg 11 J <| aA (bH J J J J J) J <| aA (aL J J gG J J) J ?_
 refine aA (oLeq J J) J <| bE (fun h23 => ?_) (fun h23 => ?_)
 ·refine Um J J <| K1 J J <| K1 J J <| K1 J J <| K1 J J <| K1 J J <| aA (bW J J) J <| Ua J J <| Wn <| cL J <| Rg 1 J <| Ua J J <| Wn <| aP <| aS <| post (n := 0) (.inr J) J ?_ dD
  exact congrArg (fun z => LV.v (.int .i64 z)) (show 6 = (eD ss f ns) by unfold eD; rw [if_pos ⟨h9, of_decide_eq_true h13, jW h18⟩, if_neg om])
 refine Um J J <| aM J (bH J J J J J) J <| aM J (aL J J gG J J) J ?_
 refine aM J (bH J J J J J) J <| aM J (aL J J gG J J) J ?_
 refine aM J (mK J J) J <| bE (fun h29 => ?_) (fun h29 => ?_)
 ·refine aA (cG J J) J <| Ua J J <| Wn <| cL J <| Rg 1 J <| Ua J J <| Wn <| aP <| aS <| post (n := 0) (.inr J) J ?_ dD
  exact congrArg (fun z => LV.v (.int .i64 z)) (show 6 = (eD ss f ns) by unfold eD; rw [if_pos ⟨h9, of_decide_eq_true h13, jW h18⟩, if_neg om])
 refine aA (cG J J) J <| Ua J J <| Wn <| cH J <| cM <| aG <| Rg 1 J <| Ua J J <| Wn <| aP <| post (n := 0) (.inr J) J ?_ dD
 exact congrArg (fun z => LV.v (.int .i64 z)) (show 0 = (eD ss f ns) by unfold eD; rw [if_pos ⟨h9, of_decide_eq_true h13, jW h18⟩, if_pos om])
end Go.Proofs.Ytcblgjaomljikaa
namespace Go.Proofs.Ytcblgjaomljikaa
open Go.Ab Go.RowKit
theorem dchk_run (k kn : Nat) (ss : List Go.Ab.ST) (f : NM) (ns : List NM) (hI : ∀ s, s ∈ ss → IS s) (hf1 : I64 f.1) (hf2 : I64 f.2) (hns : IV ns) (ln : ns.length < 1000000) : Run Try.prog T E0 (.call 49 [lvMo k ss, lvM f, .sl kn (ns.map mc)] (chkO ss f ns)) := by
 refine bK Try.func49 J J (dM J) <| Rg 4 J <| bB (eG J J) J <| bB (eG J J) J <| Ua J J <| Ua J J <| Wn <| aB <| Rg 4 J <| aA (aL (l := lvMo k ss) J J gG J J) J ?_
 refine aA (aL (l := lvM f) J J gG J J) J ?_
 refine aA (aK J (eA k 0 ss f [] hI hf1 hf2 (by intro a ha; cases ha) (by decide)) (aQ (by intro c hc; simp only [List.mem_cons, List.not_mem_nil, or_false] at hc; rcases hc with rfl | rfl | rfl; exact eQ; exact eQ; exact (.sl 0 [] (by simp))))) J <| Ua J J <| Wn <| aB <| Rg 2 J <| Um J J <| aA (dV J J) J <| bE (fun h19 => ?_) (fun h19 => ?_)
 ·refine Wn <| aR J <| aB <| Rg 3 J <| Um J J <| Ua J J <| Ua J J <| Wn <| bC <| post (n := 0) (.inr J) J ?_ jF
  show _ = chkO ss f ns
  unfold chkO; rw [if_neg h19]; rfl
 refine Wn <| aT J <| aE <| aB <| Rg 10 J <| Um J J <| aA (bD J J) J <| aA (bH J J J J J) J <| aA (aL J J gG J J) J ?_
 refine aA (bD J J) J <| aA (dV J J) J <| bE (fun h26 => ?_) (fun h26 => ?_)
 ·refine Um J J <| K1 J J <| K1 J J <| aA (bW J J) J <| Nk [2,3,4,30] J <| aR J <| aB <| Rg 2 J <| Ua J J <| Ua J J <| Wn <| bC <| post (n := 0) (.inr J) J ?_ jF
  show _ = chkO ss f ns
  unfold chkO; rw [if_pos (Classical.not_not.1 h19), decide_eq_false (fun e => h26 (congrArg Int.ofNat e))]; rfl
 refine Um J J <| aM J (dU J) J <| aM J (aK J (con1_run kn ns 117 [] (fun a => !vn a) d0 om (fun a ha => chkv_run a (hns a ha).1 (hns a ha).2)) (aQ (by intro c hc; simp only [List.mem_cons, List.not_mem_nil, or_false] at hc; rcases hc with rfl | rfl; exact (.sl _ _ fun row hr => aW nB row hr); exact dfn d0 d0))) J <| fT (fun h29 => ?_) (fun h29 => ?_)
 ·refine aA (cG J J) J <| Nk [2,3,4,30] J <| aR J <| aB <| Rg 2 J <| Ua J J <| Ua J J <| Wn <| bC <| post (n := 0) (.inr J) J ?_ jF
  show _ = chkO ss f ns
  unfold chkO; rw [if_pos (Classical.not_not.1 h19), ← any_not, h29]; cases decide (ns.length = ss.length) <;> rfl
 refine aA (cG J J) J <| Nk [2,3,4,30] J <| aT J <| aE ?_
 obtain ⟨hV, hvf, hall, hf0, hf3⟩ := iV (ns := ns) (eD_full (Classical.not_not.1 h19) (jW h29))
 have hva := vn_all hall
 have hV1 := fS hV
 have hn40 := hV1.wt.len
 have hD := gC hV (gY hvf hf0 hf3).1 (gY hvf hf0 hf3).2
 have hxb := nx_bd hva
 have hvl := vl_nx ns
 have hxl : (ns.map nx).length = ss.length := by rw [List.length_map]; exact (Int.ofNat.inj (Classical.not_not.1 h26))
 refine bN (z := 7) J kR <| Dm J J <| aH (aK J (lQ kn ns om hns (fun a ha => (hva a ha).all3.2.2)) dD) J <| aH (aL (l := lvM f) J J gG J J) J ?_
 refine aH (bG (b := lvX (nx f)) (aK J (dC f hf1 hf2 hvf.all3.2.2) dD) J) J <| mF (dS J) J <| aH (fR J) J <| cR (cO (cs' := xc (nx f)) J J J g0 J J J J) <| bJ (aY kR) J <| aB <| Rg 4 J <| aA (bH J J J J J) J <| aA (aL J J gG J J) J ?_
 refine aA (bD J J) J <| Um J J <| Wn <| aI <| aX (α := Nat) (fun i => [(9, .sl (kd (ns.map nx).length) ((ns.map nx).map xc)), (10, .ptr (0 + 4 + 4 + 2 + 10 + 4) 0), (36, .sl k (ss.map stc)), (37, .v (.int .i64 (ss.length : Int))), (38, .v (.int .i64 (i : Int)))]) (fun i => [((0 + 4 + 4 + 2 + 10 + 4), { cells := xc (nx f), sz := 4, elem := (114), st := 0 })]) (fun i n => i ≤ ss.length ∧ (∀ a, a < i → (fun a : Nat => decide (bsV (ss.getD a default) (nq f) (vl (ns.map nx)) = (vl (ns.map nx)) a)) a = true) ∧ 24 < n) (fun i => ss.length - i) (0) ⟨J, J, J, J, J, trivial⟩ ⟨gG, trivial⟩ ⟨Nat.zero_le _, fun a ha => absurd ha om, om⟩ ?_
 rintro i n hF
 change WC _ _ _ _ _ (_ :: _) (_ :: _) n _
 obtain ⟨hi, hA, hn⟩ := hF
 refine Rg 1 J <| aA (bU J J) J <| bE (fun h39 => ?_) (fun h39 => ?_)
 rotate_left
 ·refine Wn <| aT J <| aU <| aN <| aO J <| Rg 2 J <| Ua J J <| Ua J J <| Wn <| aP <| post (n := 0) (.inr J) J ?_ jF
  show _ = chkO ss f ns
  unfold chkO isV; rw [if_pos (Classical.not_not.1 h19), ← hvl, rS hA om, hall, decide_eq_true (show ns.length = ss.length by omega)]; rfl
 refine Wn <| aR J <| aE <| aI ?_
 have hm := bA (us := ss) (i := i) om
 have hcl := hV1.cs _ hm
 refine Rg 6 J <| Um J J <| aA (bS J J J J J om J) J <| aA (dL (l := .agg (stc (ss.getD i default))) J J J) J <| bB (dS J) J <| Ua J J <| aZ (cO (cs' := stc (ss.getD i default)) J J J g0 J J J J) <| Wn <| Rg 10 J <| aA (aL (l := .agg (stc (ss.getD i default))) J J gG J J) J ?_
 refine aA (aL (l := lvX (nx f)) J J gG J J) J ?_
 refine Um J J <| aA (aK J (jE (ss.getD i default) (nx f) (kd (ns.map nx).length) (ns.map nx) ss.length hcl (fun c hc => eT hV hm hc) hvf.bd hxl 2 (by decide) (by decide) hxb) (aQ (by intro c hc; simp only [List.mem_cons, List.not_mem_nil, or_false] at hc; rcases hc with rfl | rfl | rfl; exact (.agg _ fun c hc => pF _ c hc); exact eQ; exact (.sl _ _ fun row hr => aW jI row hr)))) J <| Um J J <| aA (cW J J) J <| aA (cW J J) J <| bB (dS J) J <| aZ (cO (cs' := xc (xyl ((ss.getD i default).2.2.getD (bsK (ss.getD i default) (nx f).1 (vl (ns.map nx))) default) (nx f) (ns.map nx))) J J J g0 J J J J) <| Ua J J <| Nk [9,10,11,13,36,37,38] J ?_
 have hbk := bsK_lt (d := (nx f).1) (v := (vl (ns.map nx))) (x := (ss.getD i default)) om
 obtain ⟨hrb, hvbb⟩ := eT hV hm (bA (us := (ss.getD i default).2.2) hbk)
 have hyb := xyl_bd (d := nx f) hrb hvbb hvf.bd (by decide) hxb
 have hgb := kA (by decide) hxb i
 have hbv : (xyl ((ss.getD i default).2.2.getD (bsK (ss.getD i default) (nx f).1 (vl (ns.map nx))) default) (nx f) (ns.map nx)).1 = bsV (ss.getD i default) (nq f) (vl (ns.map nx)) := oF _ _ _
 refine bN (z := 7) J kR <| aH (aL (l := lvX (xyl ((ss.getD i default).2.2.getD (bsK (ss.getD i default) (nx f).1 (vl (ns.map nx))) default) (nx f) (ns.map nx))) J J gG J J) J ?_
 refine Dm J J <| Dm J J <| aH (bS (j := i) J J J J om om J) J <| aH (dL (l := lvX ((ns.map nx).getD i default)) J J J) J <| aH (aK J (jM (xyl ((ss.getD i default).2.2.getD (bsK (ss.getD i default) (nx f).1 (vl (ns.map nx))) default) (nx f) (ns.map nx)) ((ns.map nx).getD i default) (hyb.mono om) (hgb.mono om)) dD) J <| aH (dV J J) J <| WD.D (fun h56 => ?_) (fun h56 => ?_)
 rotate_left
 ·refine bJ (aY kR) J <| cH J <| cM <| aG <| aJ (z := 2) J <| aA (cI (((i + 1 : Nat) : Int)) (aV J J om) om) J <| Um J J <| Wn <| aF <| ⟨i + 1, ⟨J, J, J, J, J, trivial⟩, ⟨gG, trivial⟩, ⟨om, fun a ha => ?_, om⟩, by show ss.length - (i + 1) < ss.length - i; omega⟩
  by_cases e : a = i
  ·rw [e]; exact decide_eq_true (by have h57 := Classical.not_not.1 h56; rw [sign_num0, hbv, iZ] at h57; exact h57)
  ·exact hA a om
 refine bJ (aY kR) J <| cL J <| Rg 2 J <| Ua J J <| Ua J J <| Nk [6,7] J <| aP <| aS <| bO <| aS <| post (n := 0) (.inr J) J ?_ jF
 show _ = chkO ss f ns
 unfold chkO isV; rw [if_pos (Classical.not_not.1 h19), ← hvl, iD (i := i) om (decide_eq_false (fun e => h56 (by rw [sign_num0, hbv, e, iZ]))), Bool.and_false]; rfl
theorem yrow_len {ss : List Go.Ab.ST} {d : Rat} {v : Nat → Rat} {i : Nat} {ds : List X1} (hV : VM1 ss) (hi : i ≤ ss.length) (h : vX ds = tab i (fun a : Nat => tab (ss.getD a default).2.2.length (ysF (ss.getD a default) d v))) : ∀ r, r ∈ ds → r.2.length ≤ 8 := by
 intro r hr
 have h1 : r.2.map (·.1) ∈ vX ds := List.mem_map.2 ⟨r, hr, rfl⟩
 rw [h] at h1
 obtain ⟨a, ha, e⟩ := List.mem_map.1 h1
 have h2 := congrArg List.length e
 rw [cK, List.length_map] at h2
 have := hV.cs _ (bA (us := ss) (i := a) (by have := List.mem_range.1 ha; omega))
 omega
theorem kP (k kn : Nat) (ss : List Go.Ab.ST) (f : NM) (ns : List NM) (hI : ∀ s, s ∈ ss → IS s) (hf1 : I64 f.1) (hf2 : I64 f.2) (hns : IV ns) (ln : ns.length < 1000000) : Run Try.prog T E0 (.call 50 [lvMo k ss, lvM f, .sl kn (ns.map mc)] (ydsO ss f ns)) := by
 refine bK Try.func50 J J (dM J) <| Rg 4 J <| bB (eG J J) J <| bB (eG J J) J <| Ua J J <| Ua J J <| Wn <| aB <| Rg 5 J <| aA (aL (l := lvMo k ss) J J gG J J) J ?_
 refine aA (aL (l := lvM f) J J gG J J) J ?_
 refine Um J J <| aA (aK J (eA k kn ss f ns hI hf1 hf2 hns om) (aQ (by intro c hc; simp only [List.mem_cons, List.not_mem_nil, or_false] at hc; rcases hc with rfl | rfl | rfl; exact eQ; exact eQ; exact (.sl _ _ fun row hr => aW nB row hr)))) J <| Ua J J <| Wn <| aB <| Rg 2 J <| Um J J <| aA (dV J J) J <| bE (fun h22 => ?_) (fun h22 => ?_)
 ·refine Wn <| aR J <| aB <| Rg 3 J <| Um J J <| Ua J J <| Ua J J <| Nk [6,7] J <| bC <| post (n := 0) (.inr J) J ?_ pB
  show _ = ydsO ss f ns
  unfold ydsO; rw [if_neg h22]; rfl
 refine Wn <| aT J <| aE <| aB <| Rg 6 J <| Um J J <| aA (bD J J) J <| aA (bH J J J J J) J <| aA (aL J J gG J J) J ?_
 refine aA (bD J J) J <| aA (dV J J) J <| bE (fun h29 => ?_) (fun h29 => ?_)
 ·refine Nk [2,3,4,29] J <| aR J <| aB <| Rg 2 J <| Ua J J <| Ua J J <| Wn <| bC <| post (n := 0) (.inr J) J ?_ pB
  show _ = ydsO ss f ns
  unfold ydsO; rw [if_pos (Classical.not_not.1 h22), if_neg (fun e => h29 (congrArg Int.ofNat e))]; rfl
 refine Nk [2,3,4,29] J <| aT J <| aE ?_
 obtain ⟨hV, hvf, hall, hf0, hf3⟩ := iV (Classical.not_not.1 h22)
 have hva := vn_all hall
 have hV1 := fS hV
 have hn40 := hV1.wt.len
 have hD := gC hV (gY hvf hf0 hf3).1 (gY hvf hf0 hf3).2
 have hxb := nx_bd hva
 have hvl := vl_nx ns
 have hxl : (ns.map nx).length = ss.length := by rw [List.length_map]; exact (Int.ofNat.inj (Classical.not_not.1 h29))
 refine bN (z := 7) J kR <| Dm J J <| aH (aK J (lQ kn ns om hns (fun a ha => (hva a ha).all3.2.2)) dD) J <| aH (aL (l := lvM f) J J gG J J) J ?_
 refine aH (bG (b := lvX (nx f)) (aK J (dC f hf1 hf2 hvf.all3.2.2) dD) J) J <| mF (dS J) J <| aH (fR J) J <| cR (cO (cs' := xc (nx f)) J J J g0 J J J J) <| bJ (aY kR) J <| Rg 1 J <| Ua J J <| Wn <| aB <| Rg 4 J <| aA (bH J J J J J) J <| aA (aL J J gG J J) J ?_
 refine aA (bD J J) J <| Um J J <| Nk [9,10,11,35,36,37] J <| aI <| aX (α := Nat × Nat × (List X1)) (fun ⟨i, q, ds⟩ => [(9, .sl (kd (ns.map nx).length) ((ns.map nx).map xc)), (10, .ptr (0 + 4 + 5 + 2 + 6 + 4) 0), (11, outV q 1 (ds.map fX)), (35, .sl k (ss.map stc)), (36, .v (.int .i64 (ss.length : Int))), (37, .v (.int .i64 (i : Int)))]) (fun ⟨i, q, ds⟩ => outH q 1 108 (ds.map fX) [((0 + 4 + 5 + 2 + 6 + 4), { cells := xc (nx f), sz := 4, elem := (114), st := 0 })]) (fun ⟨i, q, ds⟩ n => i ≤ ss.length ∧ vX ds = tab i (fun a : Nat => tab (ss.getD a default).2.2.length (ysF (ss.getD a default) (nq f) (vl (ns.map nx)))) ∧ ds.length = i ∧ q < n ∧ q ≠ (0 + 4 + 5 + 2 + 6 + 4) ∧ (0 + 4 + 5 + 2 + 6 + 4) < n) (fun ⟨i, q, ds⟩ => ss.length - i) (0, 0, []) ⟨J, J, J, J, J, J, trivial⟩ ⟨gG, trivial⟩ ⟨Nat.zero_le _, rfl, rfl, om, om, om⟩ ?_
 rintro ⟨i, q, ds⟩ n hF
 change WC _ _ _ _ _ (_ :: _) (outH _ _ _ _ _) n _
 obtain ⟨hi, hds, hdl, hq, hqy, hn⟩ := hF
 refine Rg 1 J <| aA (bU J J) J <| bE (fun h38 => ?_) (fun h38 => ?_)
 rotate_left
 ·refine Wn <| aT J <| aU <| aN <| aO J <| Rg 6 J <| Um J J <| bB (bG (b := lvOM (ydM ss f ns)) (oCallU J (by rw [iC]; exact mouts_run _ ds om (fun r hr => by have := yrow_len hV1 (show i ≤ ss.length by omega) hds r hr; omega)) (fun hu => cY hu) (by decide) (bL (n := 1) (fun _ => rfl)) (aW dfX) (aQ (by simp))) (congrArg lvOM (by rw [outX_eq, hds, hvl, show i = ss.length by omega]; rfl))) J <| aA (cW J J) J <| aA (cW J J) J <| Ua J J <| Ua J J <| Wn <| aP <| post (n := 0) (.inr J) J ?_ pB
  show _ = ydsO ss f ns
  unfold ydsO; rw [if_pos (Classical.not_not.1 h22), if_pos (show ns.length = ss.length by rw [List.length_map] at hxl; exact hxl)]; rfl
 refine Wn <| aR J <| aE <| aI ?_
 have hm := bA (us := ss) (i := i) om
 have hcl := hV1.cs _ hm
 refine Rg 4 J <| aA (bS J J J J J om J) J <| aA (dL (l := .agg (stc (ss.getD i default))) J J J) J <| bB (dS J) J <| aZ (cO (cs' := stc (ss.getD i default)) J J J g0 J J J J) <| Wn <| Rg 1 J <| Ua J J <| Wn <| aB <| Rg 4 J <| aA (bH J J J J J) J <| aA (aL J J (by repeat (first | exact g0 | refine g1 om ?_ | refine aD om ?_)) J J) J ?_
 refine aA (bD J J) J <| Um J J <| Nk [9,10,11,14,35,36,37,42,43,44] J <| aI <| aX (α := Nat × Nat × (List X)) (fun ⟨j, q2, row⟩ => [(9, .sl (kd (ns.map nx).length) ((ns.map nx).map xc)), (10, .ptr (0 + 4 + 5 + 2 + 6 + 4) 0), (11, outV q 1 (ds.map fX)), (14, outV q2 4 (row.map xc)), (35, .sl k (ss.map stc)), (36, .v (.int .i64 (ss.length : Int))), (37, .v (.int .i64 (i : Int))), (42, .sl (ss.getD i default).2.1 ((ss.getD i default).2.2.map chc)), (43, .v (.int .i64 ((ss.getD i default).2.2.length : Int))), (44, .v (.int .i64 (j : Int)))]) (fun ⟨j, q2, row⟩ => outH q2 4 114 (row.map xc) (outH q 1 108 (ds.map fX) [((0 + 4 + 5 + 2 + 6 + 4), { cells := xc (nx f), sz := 4, elem := (114), st := 0 })])) (fun ⟨j, q2, row⟩ n => j ≤ (ss.getD i default).2.2.length ∧ row.map (·.1) = tab j (ysF (ss.getD i default) (nq f) (vl (ns.map nx))) ∧ row.length = j ∧ q2 < n ∧ q2 ≠ (0 + 4 + 5 + 2 + 6 + 4) ∧ q2 ≠ q ∧ q < n ∧ (0 + 4 + 5 + 2 + 6 + 4) < n) (fun ⟨j, q2, row⟩ => (ss.getD i default).2.2.length - j) (0, (n + 1), []) ⟨J, J, J, J, J, J, J, J, J, J, trivial⟩ (bF (q := q) (us := ds.map fX) (fun hne => by rw [bM hne]; repeat (first | exact g0 | refine g1 om ?_ | refine aD om ?_)) ⟨(by repeat (first | exact g0 | refine g1 om ?_ | refine aD om ?_)), trivial⟩) ⟨Nat.zero_le _, rfl, rfl, om, om, om, om, om⟩ ?_
 rintro ⟨j, q2, row⟩ n hF
 change WC _ _ _ _ _ (_ :: _) (outH _ _ _ _ _) n _
 obtain ⟨hj, hrw, hrl, hq2, hq2y, hq2q, hqn, hn2⟩ := hF
 refine fI (z := 1) J <| aA (bU J J) J <| bE (fun h45 => ?_) (fun h45 => ?_)
 rotate_left
 ·refine Wn <| Fz.env (t := 14) (us := row.map xc) [(9, _), (10, _), (11, _), (35, _), (36, _), (37, _), (42, _), (43, _), (44, _), (45, _)] ⟨J, J, J, J, J, J, J, J, J, J, trivial⟩ J (fun _ r o hr => by rcases outH_dom hr with h | h <;> omega) (by decide) (bL (n := 4) (fun _ => rfl)) (aW jI) <| aT J <| aU <| aN <| aO J <| aJ (z := 5) J <| Um J J <| Um J J <| aA (dJ (cs := [_]) (rows := [[_]]) J J (by decide) J J J) J <| fF _ (subsM.get (bF (q := q) (sz := 1) (el := 108) (us := ds.map fX) (h := [((0 + 4 + 5 + 2 + 6 + 4), { cells := xc (nx f), sz := 4, elem := (114), st := 0 })]) (fun hne => by rw [bM hne]; repeat (first | exact g0 | refine g1 om ?_ | refine aD om ?_)) ⟨(by repeat (first | exact g0 | refine g1 om ?_ | refine aD om ?_)), trivial⟩)) ?_
  refine gD (te := ti108) (f := fX) (q := q) (us := ds) (u := (kd (row.map xc).length, row)) J J J J J (fun _ => rfl) (by decide) (by show (2 * (ds.length + 1) + 256) * 24 ≤ _; omega) om (g1 om J) (g1 om J) J <| Ua J J <| Wn <| aG <| Ck [9,10,11,35,36,37] J <| aJ (z := 2) J <| aA (cI (((i + 1 : Nat) : Int)) (aV J J om) om) J <| Um J J <| Wn <| aF ?_
  have hjn : j = (ss.getD i default).2.2.length := by omega
  refine ⟨⟨i + 1, _, ds ++ [(kd (row.map xc).length, row)]⟩, ⟨J, J, J, J, J, J, trivial⟩, rW om, ⟨om, ?_, by simp; omega, om, om, om⟩, by show ss.length - (i + 1) < ss.length - i; omega⟩
  rw [vX_app, hds, gA]
  congr 1
  show [row.map (·.1)] = _
  rw [hrw, hjn]
 refine Wn <| Fz.same [(9, _), (10, _), (11, _), (14, _), (35, _), (36, _), (37, _), (42, _), (43, _), (44, _), (45, _)] _ ⟨J, J, J, J, J, J, J, J, J, J, J, trivial⟩ (fun _ _ h => h) <| aR J <| aE <| aI ?_
 have hmc := bA (us := (ss.getD i default).2.2) (i := j) om
 obtain ⟨hrw9, hvb⟩ := eT hV hm hmc
 refine Rg 4 J <| aA (bS J J J J J om J) J <| aA (dL (l := lvC ((ss.getD i default).2.2.getD j default)) J J J) J <| bB (dS J) J <| aZ (cO (cs' := chc ((ss.getD i default).2.2.getD j default)) J J J g0 J J J J) <| Wn <| aJ (z := 8) J <| Um J J <| aA (aL (l := lvC ((ss.getD i default).2.2.getD j default)) J J (by repeat (first | exact g0 | refine g1 om ?_ | refine aD om ?_)) J J) J ?_
 refine aA (aL (l := lvX (nx f)) J J (by repeat (first | exact g0 | refine g1 om ?_ | refine aD om ?_)) J J) J ?_
 refine Um J J <| aA (aK J (jR ((ss.getD i default).2.2.getD j default) (nx f) (kd (ns.map nx).length) (ns.map nx) ss.length hrw9 hvb hvf.bd hxl 2 (by decide) (by decide) hxb) (aQ (by intro c hc; simp only [List.mem_cons, List.not_mem_nil, or_false] at hc; rcases hc with rfl | rfl | rfl; exact eQ; exact eQ; exact (.sl _ _ fun row hr => aW jI row hr)))) J <| aA (dJ (cs := [_, _, _, _]) (rows := [[_, _, _, _]]) J J (by decide) J J J) J <| fF _ (subsM.get (bF (q := q2) (sz := 4) (el := 114) (us := row.map xc) (h := outH q 1 108 (ds.map fX) [((0 + 4 + 5 + 2 + 6 + 4), { cells := xc (nx f), sz := 4, elem := (114), st := 0 })]) (fun hne => by rw [bM hne]; repeat (first | exact g0 | refine g1 om ?_ | refine aD om ?_)) (bF (q := q) (sz := 1) (el := 108) (us := ds.map fX) (h := [((0 + 4 + 5 + 2 + 6 + 4), { cells := xc (nx f), sz := 4, elem := (114), st := 0 })]) (fun hne => by rw [bM hne]; repeat (first | exact g0 | refine g1 om ?_ | refine aD om ?_)) ⟨(by repeat (first | exact g0 | refine g1 om ?_ | refine aD om ?_)), trivial⟩))) ?_
 refine gD (te := ti114) (f := xc) (q := q2) (us := row) (u := xyl ((ss.getD i default).2.2.getD j default) (nx f) (ns.map nx)) J J J J J (fun _ => rfl) (by decide) (by show (2 * (row.length + 1) + 256) * 64 ≤ _; omega) om (aD om (g1 om J)) (aD om (g1 om J)) J <| Ua J J <| Wn <| aG <| Ck [9,10,11,14,35,36,37,42,43,44] J <| aJ (z := 2) J <| aA (cI (((j + 1 : Nat) : Int)) (aV J J om) om) J <| Um J J <| Wn <| aF <| ⟨⟨j + 1, _, row ++ [xyl ((ss.getD i default).2.2.getD j default) (nx f) (ns.map nx)]⟩, ⟨J, J, J, J, J, J, J, J, J, J, trivial⟩, subsM_oo om om om, ⟨om, ?_, by simp; omega, om, om, om, om, om⟩, by show (ss.getD i default).2.2.length - (j + 1) < (ss.getD i default).2.2.length - j; omega⟩
 rw [List.map_append, hrw, gA]
 congr 1
 show [(xyl ((ss.getD i default).2.2.getD j default) (nx f) (ns.map nx)).1] = _
 rw [oF]; rfl
theorem dgap_run (k kn : Nat) (ss : List Go.Ab.ST) (f : NM) (ns : List NM) (hI : ∀ s, s ∈ ss → IS s) (hf1 : I64 f.1) (hf2 : I64 f.2) (hns : IV ns) (ln : ns.length < 1000000) : Run Try.prog T E0 (.call 52 [lvMo k ss, lvM f, .sl kn (ns.map mc)] (gapO ss f ns)) := by
 refine bK Try.func52 J J (dM J) <| Rg 4 J <| bB (eG J J) J <| bB (eG J J) J <| bB (dS J) J <| Ua J J <| Wn <| aB <| Rg 5 J <| aA (aL (l := lvMo k ss) J J gG J J) J ?_
 refine aA (aL (l := lvM f) J J gG J J) J ?_
 refine Um J J <| aA (aK J (eA k kn ss f ns hI hf1 hf2 hns om) (aQ (by intro c hc; simp only [List.mem_cons, List.not_mem_nil, or_false] at hc; rcases hc with rfl | rfl | rfl; exact eQ; exact eQ; exact (.sl _ _ fun row hr => aW nB row hr)))) J <| Ua J J <| Wn <| aB <| Rg 2 J <| Um J J <| aA (dV J J) J <| bE (fun h24 => ?_) (fun h24 => ?_)
 ·refine Wn <| aR J <| aB <| Rg 4 J <| aA (kH (cs := [_, _]) J J J J J) J <| Um J J <| aZ (cO (cs' := [_, _]) J J J J J J J J) <| Ua J J <| Nk [6,7] J <| bC <| post (n := 0) (.inr J) J ?_ lK
  show _ = gapO ss f ns
  unfold gapO; rw [if_neg h24]; rfl
 refine Wn <| aT J <| aE <| aB <| Rg 6 J <| Um J J <| aA (bD J J) J <| aA (bH J J J J J) J <| aA (aL J J gG J J) J ?_
 refine aA (bD J J) J <| aA (dV J J) J <| bE (fun h32 => ?_) (fun h32 => ?_)
 ·refine Nk [2,3,4,6,32] J <| aR J <| aB <| Rg 3 J <| aA (kH (cs := [_, _]) J J J J J) J <| aZ (cO (cs' := [_, _]) J J J J J J J J) <| Ua J J <| Wn <| bC <| post (n := 0) (.inr J) J ?_ lK
  show _ = gapO ss f ns
  unfold gapO; rw [if_pos (Classical.not_not.1 h24), if_neg (fun e => h32 (congrArg Int.ofNat e))]; rfl
 refine Nk [2,3,4,6,32] J <| aT J <| aE ?_
 obtain ⟨hV, hvf, hall, hf0, hf3⟩ := iV (Classical.not_not.1 h24)
 have hva := vn_all hall
 have hV1 := fS hV
 have hn40 := hV1.wt.len
 have hD := gC hV (gY hvf hf0 hf3).1 (gY hvf hf0 hf3).2
 have hxb := nx_bd hva
 have hvl := vl_nx ns
 have hxl : (ns.map nx).length = ss.length := by rw [List.length_map]; exact (Int.ofNat.inj (Classical.not_not.1 h32))
 refine bN (z := 7) J kR <| Dm J J <| aH (aK J (lQ kn ns om hns (fun a ha => (hva a ha).all3.2.2)) dD) J <| aH (aL (l := lvM f) J J gG J J) J ?_
 refine aH (bG (b := lvX (nx f)) (aK J (dC f hf1 hf2 hvf.all3.2.2) dD) J) J <| mF (dS J) J <| aH (fR J) J <| cR (cO (cs' := xc (nx f)) J J J g0 J J J J) <| bJ (aY kR) J <| aB <| Rg 9 J <| aA (aL (l := lvMo k ss) J J gG J J) J ?_
 refine aA (aL (l := lvM f) J J gG J J) J ?_
 refine Um J J <| aA (bG (b := lvOM (ydM ss f ns)) (aK J (kP k kn ss f ns hI hf1 hf2 hns ln) (aQ (by intro c hc; simp only [List.mem_cons, List.not_mem_nil, or_false] at hc; rcases hc with rfl | rfl | rfl; exact eQ; exact eQ; exact (.sl _ _ fun row hr => aW nB row hr)))) (by unfold ydsO; rw [if_pos (Classical.not_not.1 h24), if_pos (show ns.length = ss.length by rw [List.length_map] at hxl; exact hxl)])) J <| Um J J <| aA (cW J J) J <| aA (cW J J) J <| Ua J J <| Ua J J <| Nk [3,6,9,10,12] J <| aB <| Rg 2 J <| Um J J <| aA (dV J J) J <| bE (fun h46 => ?_) (fun h46 => ?_)
 ·refine Wn <| aR J <| aB <| Rg 4 J <| aA (kH (cs := [_, _]) J J J J J) J <| Um J J <| aZ (cO (cs' := [_, _]) J J J J J J J J) <| Ua J J <| Wn <| bC <| post (n := 0) (.inr J) J ?_ lK
  show _ = gapO ss f ns
  have hs : ¬ (ydM ss f ns).isSome = true := fun hs => h46 (if_pos hs)
  rw [if_neg hs]
  unfold gapO; rw [if_pos (Classical.not_not.1 h24), if_pos (show ns.length = ss.length by rw [List.length_map] at hxl; exact hxl), if_neg hs]; rfl
 refine Wn <| aT J <| aE <| Rg 1 J <| bB (dS J) J <| Wn <| aB <| Rg 4 J <| aA (bH J J J J J) J <| aA (aL J J gG J J) J ?_
 refine aA (bD J J) J <| Um J J <| Wn <| aI <| aX (α := Nat × X) (fun ⟨i, gx⟩ => [(6, .ptr (0 + 2) 0), (9, .sl (kd (ns.map nx).length) ((ns.map nx).map xc)), (10, .ptr (0 + 4 + 5 + 2 + 6 + 4) 0), (13, .ptr (0 + 4 + 5 + 2 + 6 + 7 + 9 + 2) 0), (50, .sl k (ss.map stc)), (51, .v (.int .i64 (ss.length : Int))), (52, .v (.int .i64 (i : Int)))]) (fun ⟨i, gx⟩ => [((0 + 4 + 5 + 2 + 6 + 7 + 9 + 2), { cells := xc (gx), sz := 4, elem := (114), st := 0 }), ((0 + 4 + 5 + 2 + 6 + 4), { cells := xc (nx f), sz := 4, elem := (114), st := 0 }), ((0 + 2), { cells := mc (0, 0), sz := 2, elem := (28), st := 0 })]) (fun ⟨i, gx⟩ n => i ≤ ss.length ∧ gx.1 = (gapF ss (nq f) (vl (ns.map nx)) i) ∧ Bd 100 gx.1 ∧ 36 < n) (fun ⟨i, gx⟩ => ss.length - i) (0, x0) ⟨J, J, J, J, J, J, J, trivial⟩ ⟨gG, gG, gG, trivial⟩ ⟨Nat.zero_le _, rfl, Bd_0.mono (by decide), om⟩ ?_
 rintro ⟨i, gx⟩ n hF
 change WC _ _ _ _ _ (_ :: _) (_ :: _) n _
 obtain ⟨hi, hg, hgb2, hn⟩ := hF
 refine Rg 1 J <| aA (bU J J) J <| bE (fun h53 => ?_) (fun h53 => ?_)
 rotate_left
 ·refine Wn <| aT J <| aU <| aN <| aO J ?_
  have hin : i = ss.length := by omega
  have hden : (xadd (xint 1) (xneg (nx f))).1 ≠ 0 := den1_ne hD.d1
  have hgo : (xdiv gx (xadd (xint 1) (xneg (nx f)))).1 = (gapF ss (nq f) (fn_ (ns.map nq)) ss.length / (1 - nq f)) := by show gx.1 / (1 + -(nq f)) = _; rw [hg, hin, hvl, ← Rat.sub_eq_add_neg]
  have hdenb : Bd 6 (xadd (xint 1) (xneg (nx f))).1 := (Bd_1.add hvf.bd.neg).mono (by decide)
  refine bN (z := 10) J kR <| aH (aL (l := lvX gx) J J gG J J) J ?_
  refine aH (aK J (gI 1 I64_1) dD) J <| aH (aL (l := lvX (nx f)) J J gG J J) J ?_
  refine aH (aK J (rV (xint 1) (nx f) (Bd_1.mono (by decide)) (hvf.bd.mono (by decide))) dD) J <| aH (aK J (rT gx (xadd (xint 1) (xneg (nx f))) hden (hgb2.mono (by decide)) (hdenb.mono (by decide))) dD) J <| aH (bG (b := .tup [lvM ((outN (gapF ss (nq f) (fn_ (ns.map nq)) ss.length / (1 - nq f))).getD (0, 0)), .v (.int .i64 (if (outN (gapF ss (nq f) (fn_ (ns.map nq)) ss.length / (1 - nq f))).isSome = true then 0 else 3))]) (aK J (rQ (xdiv gx (xadd (xint 1) (xneg (nx f))))) dD) (by rw [rK, hgo])) J <| aH (cW J J) J <| aH (cW J J) J <| cR (cO (cs' := mc ((outN (gapF ss (nq f) (fn_ (ns.map nq)) ss.length / (1 - nq f))).getD (0, 0))) J J J gG J J J J) ?_
  refine aH (fR J) J <| bJ (aY kR) J <| Ck [6,7] J <| aP <| post (n := 0) (.inr J) J ?_ lK
  show _ = gapO ss f ns
  have hs : (ydM ss f ns).isSome = true := Classical.byContradiction fun hs => h46 (by rw [if_neg hs]; decide)
  unfold gapO; rw [if_pos (Classical.not_not.1 h24), if_pos (show ns.length = ss.length by rw [List.length_map] at hxl; exact hxl), if_pos hs, rK]; rfl
 refine Wn <| aR J <| aE <| aI ?_
 have hm := bA (us := ss) (i := i) om
 have hcl := hV1.cs _ hm
 refine Rg 6 J <| Um J J <| aA (bS J J J J J om J) J <| aA (dL (l := .agg (stc (ss.getD i default))) J J J) J <| bB (dS J) J <| Ua J J <| aZ (cO (cs' := stc (ss.getD i default)) J J J g0 J J J J) <| Wn <| Rg 10 J <| aA (aL (l := .agg (stc (ss.getD i default))) J J gG J J) J ?_
 refine aA (aL (l := lvX (nx f)) J J gG J J) J ?_
 refine Um J J <| aA (aK J (jE (ss.getD i default) (nx f) (kd (ns.map nx).length) (ns.map nx) ss.length hcl (fun c hc => eT hV hm hc) hvf.bd hxl 2 (by decide) (by decide) hxb) (aQ (by intro c hc; simp only [List.mem_cons, List.not_mem_nil, or_false] at hc; rcases hc with rfl | rfl | rfl; exact (.agg _ fun c hc => pF _ c hc); exact eQ; exact (.sl _ _ fun row hr => aW jI row hr)))) J <| Um J J <| aA (cW J J) J <| aA (cW J J) J <| bB (dS J) J <| aZ (cO (cs' := xc (xyl ((ss.getD i default).2.2.getD (bsK (ss.getD i default) (nx f).1 (vl (ns.map nx))) default) (nx f) (ns.map nx))) J J J g0 J J J J) <| Ua J J <| Nk [6,9,10,13,14,16,50,51,52] J ?_
 have hbk := bsK_lt (d := (nx f).1) (v := (vl (ns.map nx))) (x := (ss.getD i default)) om
 obtain ⟨hrb, hvbb⟩ := eT hV hm (bA (us := (ss.getD i default).2.2) hbk)
 have hyb := xyl_bd (d := nx f) hrb hvbb hvf.bd (by decide) hxb
 have hgb := kA (by decide) hxb i
 have hbv : (xyl ((ss.getD i default).2.2.getD (bsK (ss.getD i default) (nx f).1 (vl (ns.map nx))) default) (nx f) (ns.map nx)).1 = bsV (ss.getD i default) (nq f) (vl (ns.map nx)) := oF _ _ _
 refine bN (z := 8) J kR <| aH (aL (l := lvX (xyl ((ss.getD i default).2.2.getD (bsK (ss.getD i default) (nx f).1 (vl (ns.map nx))) default) (nx f) (ns.map nx))) J J gG J J) J ?_
 refine Dm J J <| Dm J J <| aH (bS (j := i) J J J J om om J) J <| aH (dL (l := lvX ((ns.map nx).getD i default)) J J J) J <| aH (aK J (rV (xyl ((ss.getD i default).2.2.getD (bsK (ss.getD i default) (nx f).1 (vl (ns.map nx))) default) (nx f) (ns.map nx)) ((ns.map nx).getD i default) (hyb.mono om) (hgb.mono om)) dD) J <| mF (dS J) J <| cR (cO (cs' := xc (xadd (xyl ((ss.getD i default).2.2.getD (bsK (ss.getD i default) (nx f).1 (vl (ns.map nx))) default) (nx f) (ns.map nx)) (xneg ((ns.map nx).getD i default)))) J J J g0 J J J J) <| bJ (dR (rn n) (by simp only [List.reverse_cons, List.reverse_nil, List.nil_append, List.cons_append, List.map_cons, List.map_nil, ren, keys, Nat.add_assoc, iX]; kernel_rfl)) J <| Ck [6,9,10,13,18,50,51,52] J <| aB ?_
 have hdv : (xadd (xyl ((ss.getD i default).2.2.getD (bsK (ss.getD i default) (nx f).1 (vl (ns.map nx))) default) (nx f) (ns.map nx)) (xneg ((ns.map nx).getD i default))).1 = (bsV (ss.getD i default) (nq f) (vl (ns.map nx)) - (vl (ns.map nx)) i) := by show (xyl ((ss.getD i default).2.2.getD (bsK (ss.getD i default) (nx f).1 (vl (ns.map nx))) default) (nx f) (ns.map nx)).1 + -((ns.map nx).getD i default).1 = _; rw [hbv, iZ]; grind
 have hdb : Bd 100 (xadd (xyl ((ss.getD i default).2.2.getD (bsK (ss.getD i default) (nx f).1 (vl (ns.map nx))) default) (nx f) (ns.map nx)) (xneg ((ns.map nx).getD i default))).1 := (hyb.add (hgb.neg)).mono (by decide)
 refine Rg 3 J <| aA (aL (l := lvX (xadd (xyl ((ss.getD i default).2.2.getD (bsK (ss.getD i default) (nx f).1 (vl (ns.map nx))) default) (nx f) (ns.map nx)) (xneg ((ns.map nx).getD i default)))) J J gG J J) J ?_
 refine aA (aK J (gF (xadd (xyl ((ss.getD i default).2.2.getD (bsK (ss.getD i default) (nx f).1 (vl (ns.map nx))) default) (nx f) (ns.map nx)) (xneg ((ns.map nx).getD i default)))) dD) J <| aA (bU J J) J <| bE (fun h72 => ?_) (fun h72 => ?_)
 rotate_left
 ·refine Wn <| aT J <| aE ?_
  obtain ⟨z, hz, hzb, ez⟩ : ∃ z : X, z.1 = absR (bsV (ss.getD i default) (nq f) (vl (ns.map nx)) - (vl (ns.map nx)) i) ∧ Bd 100 z.1 ∧ z = if (xadd (xyl ((ss.getD i default).2.2.getD (bsK (ss.getD i default) (nx f).1 (vl (ns.map nx))) default) (nx f) (ns.map nx)) (xneg ((ns.map nx).getD i default))).1.num.sign < 0 then xneg (xadd (xyl ((ss.getD i default).2.2.getD (bsK (ss.getD i default) (nx f).1 (vl (ns.map nx))) default) (nx f) (ns.map nx)) (xneg ((ns.map nx).getD i default))) else (xadd (xyl ((ss.getD i default).2.2.getD (bsK (ss.getD i default) (nx f).1 (vl (ns.map nx))) default) (nx f) (ns.map nx)) (xneg ((ns.map nx).getD i default))) := by
   refine ⟨_, ?_, ?_, rfl⟩
   ·by_cases hs : (xadd (xyl ((ss.getD i default).2.2.getD (bsK (ss.getD i default) (nx f).1 (vl (ns.map nx))) default) (nx f) (ns.map nx)) (xneg ((ns.map nx).getD i default))).1.num.sign < 0
    ·rw [if_pos hs]; show -(xadd (xyl ((ss.getD i default).2.2.getD (bsK (ss.getD i default) (nx f).1 (vl (ns.map nx))) default) (nx f) (ns.map nx)) (xneg ((ns.map nx).getD i default))).1 = _; rw [hdv, absR_neg (by rw [← hdv]; exact fW.1 hs)]
    ·rw [if_neg hs, hdv, absR_pos (fun h => hs (fW.2 (by rw [hdv]; exact h)))]
   ·by_cases hs : (xadd (xyl ((ss.getD i default).2.2.getD (bsK (ss.getD i default) (nx f).1 (vl (ns.map nx))) default) (nx f) (ns.map nx)) (xneg ((ns.map nx).getD i default))).1.num.sign < 0
    ·rw [if_pos hs]; exact hdb.neg
    ·rw [if_neg hs]; exact hdb
  refine eU [((n + 1 + 6 + 10 + 6), { cells := xc (z), sz := 4, elem := (114), st := 0 }), ((0 + 4 + 5 + 2 + 6 + 7 + 9 + 2), { cells := xc (gx), sz := 4, elem := (114), st := 0 }), ((0 + 4 + 5 + 2 + 6 + 4), { cells := xc (nx f), sz := 4, elem := (114), st := 0 }), ((0 + 2), { cells := mc (0, 0), sz := 2, elem := (28), st := 0 })] ⟨(by first | (rw [ez, if_pos h72]; exact g0) | (rw [ez, if_neg h72]; exact g0)), gG, gG, gG, trivial⟩ ?_
  refine Rg 4 J <| aA (aL (l := lvX z) J J gG J J) J ?_
  refine aA (aL (l := lvX gx) J J gG J J) J ?_
  refine aA (aK J (jM z gx (hzb.mono (by decide)) (hgb2.mono (by decide))) dD) J <| aA (gW J J) J <| bE (fun h78 => ?_) (fun h78 => ?_)
  rotate_left
  ·refine Nk [6,9,10,13,18,50,51,52,78] J <| cH J <| cM <| aG <| aJ (z := 2) J <| aA (cI (((i + 1 : Nat) : Int)) (aV J J om) om) J <| Um J J <| Wn <| aF <| ⟨⟨i + 1, gx⟩, ⟨J, J, J, J, J, J, J, trivial⟩, ⟨gG, gG, gG, trivial⟩, ⟨om, by rw [gapF_no (fun h => by have h7 := iB.2 (show 0 < z.1 - gx.1 by rw [hz, hg]; grind); omega)]; exact hg, hgb2, om⟩, by show ss.length - (i + 1) < ss.length - i; omega⟩
  refine Nk [6,9,10,13,18,50,51,52,78] J <| cL J <| aJ (z := 2) J <| aA (aL (l := lvX z) J J gG J J) J ?_
  refine aZ (cO (cs' := xc z) J J J gG J J J J) ?_
  refine Wn <| aG <| aJ (z := 2) J <| aA (cI (((i + 1 : Nat) : Int)) (aV J J om) om) J <| Um J J <| Wn <| aF <| ⟨⟨i + 1, z⟩, ⟨J, J, J, J, J, J, J, trivial⟩, ⟨gG, gG, gG, trivial⟩, ⟨om, by rw [gapF_yes (by have h7 := iB.1 (show 0 < (z.1 - gx.1).num.sign by omega); rw [hz, hg] at h7; grind)]; exact hz, hzb, om⟩, by show ss.length - (i + 1) < ss.length - i; omega⟩
 refine Wn <| aR J <| Rg 3 J <| aA (aL (l := lvX (xadd (xyl ((ss.getD i default).2.2.getD (bsK (ss.getD i default) (nx f).1 (vl (ns.map nx))) default) (nx f) (ns.map nx)) (xneg ((ns.map nx).getD i default)))) J J gG J J) J ?_
 refine aA (aK J (iS (xadd (xyl ((ss.getD i default).2.2.getD (bsK (ss.getD i default) (nx f).1 (vl (ns.map nx))) default) (nx f) (ns.map nx)) (xneg ((ns.map nx).getD i default)))) dD) J <| aZ (cO (cs' := xc (xneg (xadd (xyl ((ss.getD i default).2.2.getD (bsK (ss.getD i default) (nx f).1 (vl (ns.map nx))) default) (nx f) (ns.map nx)) (xneg ((ns.map nx).getD i default))))) J J J gG J J J J) ?_
 refine dA ?_
 obtain ⟨z, hz, hzb, ez⟩ : ∃ z : X, z.1 = absR (bsV (ss.getD i default) (nq f) (vl (ns.map nx)) - (vl (ns.map nx)) i) ∧ Bd 100 z.1 ∧ z = if (xadd (xyl ((ss.getD i default).2.2.getD (bsK (ss.getD i default) (nx f).1 (vl (ns.map nx))) default) (nx f) (ns.map nx)) (xneg ((ns.map nx).getD i default))).1.num.sign < 0 then xneg (xadd (xyl ((ss.getD i default).2.2.getD (bsK (ss.getD i default) (nx f).1 (vl (ns.map nx))) default) (nx f) (ns.map nx)) (xneg ((ns.map nx).getD i default))) else (xadd (xyl ((ss.getD i default).2.2.getD (bsK (ss.getD i default) (nx f).1 (vl (ns.map nx))) default) (nx f) (ns.map nx)) (xneg ((ns.map nx).getD i default))) := by
  refine ⟨_, ?_, ?_, rfl⟩
  ·by_cases hs : (xadd (xyl ((ss.getD i default).2.2.getD (bsK (ss.getD i default) (nx f).1 (vl (ns.map nx))) default) (nx f) (ns.map nx)) (xneg ((ns.map nx).getD i default))).1.num.sign < 0
   ·rw [if_pos hs]; show -(xadd (xyl ((ss.getD i default).2.2.getD (bsK (ss.getD i default) (nx f).1 (vl (ns.map nx))) default) (nx f) (ns.map nx)) (xneg ((ns.map nx).getD i default))).1 = _; rw [hdv, absR_neg (by rw [← hdv]; exact fW.1 hs)]
   ·rw [if_neg hs, hdv, absR_pos (fun h => hs (fW.2 (by rw [hdv]; exact h)))]
  ·by_cases hs : (xadd (xyl ((ss.getD i default).2.2.getD (bsK (ss.getD i default) (nx f).1 (vl (ns.map nx))) default) (nx f) (ns.map nx)) (xneg ((ns.map nx).getD i default))).1.num.sign < 0
   ·rw [if_pos hs]; exact hdb.neg
   ·rw [if_neg hs]; exact hdb
 refine eU [((n + 1 + 6 + 10 + 6), { cells := xc (z), sz := 4, elem := (114), st := 0 }), ((0 + 4 + 5 + 2 + 6 + 7 + 9 + 2), { cells := xc (gx), sz := 4, elem := (114), st := 0 }), ((0 + 4 + 5 + 2 + 6 + 4), { cells := xc (nx f), sz := 4, elem := (114), st := 0 }), ((0 + 2), { cells := mc (0, 0), sz := 2, elem := (28), st := 0 })] ⟨(by first | (rw [ez, if_pos h72]; exact g0) | (rw [ez, if_neg h72]; exact g0)), gG, gG, gG, trivial⟩ ?_
 refine Rg 4 J <| aA (aL (l := lvX z) J J gG J J) J ?_
 refine aA (aL (l := lvX gx) J J gG J J) J ?_
 refine aA (aK J (jM z gx (hzb.mono (by decide)) (hgb2.mono (by decide))) dD) J <| aA (gW J J) J <| bE (fun h78 => ?_) (fun h78 => ?_)
 rotate_left
 ·refine Nk [6,9,10,13,18,50,51,52,78] J <| cH J <| cM <| aG <| aJ (z := 2) J <| aA (cI (((i + 1 : Nat) : Int)) (aV J J om) om) J <| Um J J <| Wn <| aF <| ⟨⟨i + 1, gx⟩, ⟨J, J, J, J, J, J, J, trivial⟩, ⟨gG, gG, gG, trivial⟩, ⟨om, by rw [gapF_no (fun h => by have h7 := iB.2 (show 0 < z.1 - gx.1 by rw [hz, hg]; grind); omega)]; exact hg, hgb2, om⟩, by show ss.length - (i + 1) < ss.length - i; omega⟩
 refine Nk [6,9,10,13,18,50,51,52,78] J <| cL J <| aJ (z := 2) J <| aA (aL (l := lvX z) J J gG J J) J ?_
 refine aZ (cO (cs' := xc z) J J J gG J J J J) ?_
 refine Wn <| aG <| aJ (z := 2) J <| aA (cI (((i + 1 : Nat) : Int)) (aV J J om) om) J <| Um J J <| Wn <| aF <| ⟨⟨i + 1, z⟩, ⟨J, J, J, J, J, J, J, trivial⟩, ⟨gG, gG, gG, trivial⟩, ⟨om, by rw [gapF_yes (by have h7 := iB.1 (show 0 < (z.1 - gx.1).num.sign by omega); rw [hz, hg] at h7; grind)]; exact hz, hzb, om⟩, by show ss.length - (i + 1) < ss.length - i; omega⟩
end Go.Proofs.Ytcblgjaomljikaa
namespace Go.Proofs.Ytcblgjaomljikaa
open Go.Ab Go.RowKit
theorem kG (k : Nat) (ss : List Go.Ab.ST) (f : NM) (hI : ∀ s, s ∈ ss → IS s) (hf1 : I64 f.1) (hf2 : I64 f.2) : Run Try.prog T E0 (.call 47 [lvMo k ss, lvM f] (dbO ss f)) := by
 refine bK Try.func47 J J (dM J) <| Rg 5 J <| bB (eG J J) J <| bB (eG J J) J <| Ua J J <| Ua J J <| Ua J J <| Wn <| aB <| Rg 4 J <| aA (aL (l := lvMo k ss) J J gG J J) J ?_
 refine aA (aL (l := lvM f) J J gG J J) J ?_
 refine aA (aK J (eA k 0 ss f [] hI hf1 hf2 (by intro a ha; cases ha) (by decide)) (aQ (by intro c hc; simp only [List.mem_cons, List.not_mem_nil, or_false] at hc; rcases hc with rfl | rfl | rfl; exact eQ; exact eQ; exact (.sl 0 [] (by simp))))) J <| Ua J J <| Wn <| aB <| Rg 2 J <| Um J J <| aA (dV J J) J <| bE (fun h19 => ?_) (fun h19 => ?_)
 ·refine Wn <| aR J <| aB <| Rg 4 J <| Um J J <| Ua J J <| Ua J J <| Ua J J <| Wn <| bC <| post (n := 0) (.inr J) J ?_ dbO_data
  show _ = dbO ss f
  unfold dbO; rw [if_neg h19]; rfl
 refine Wn <| aT J <| aE ?_
 have h0 := Classical.not_not.1 h19
 obtain ⟨hV, hvf, hall, hf0, hf3⟩ := iV h0
 have hV1 := fS hV
 have hn40 := hV1.wt.len
 have hd01 := gY hvf hf0 hf3
 have hD := gC hV hd01.1 hd01.2
 obtain ⟨_, hvr, st, xs, rfl, hst, hxl, hwv, hval, hxb⟩ := values_run k ss (nx f) hV hvf.bd hd01.1 hd01.2
 have hve : vals ss (nq f) = xs.map (·.1) := qT hD (by rw [List.length_map]; exact hxl) hval
 have hvv : vl xs = fn_ (vals ss (nq f)) := by rw [hve]; rfl
 refine Rg 4 J <| aA (aL (l := lvM f) J J gG J J) J ?_
 refine aA (bG (b := lvX (nx f)) (aK J (dC f hf1 hf2 hvf.all3.2.2) dD) J) J <| bB (dS J) J <| aZ (cO (cs' := xc (nx f)) J J J g0 J J J J) <| Nk [2,8] J <| Rg 4 J <| aA (aL (l := lvMo k ss) J J gG J J) J ?_
 refine aA (aL (l := lvX (nx f)) J J gG J J) J ?_
 refine aA (aK J (hvr) dD) J <| Ua J J <| dA ?_
 obtain ⟨oo, hoo⟩ : ∃ oo, (xs.mapM fun x => outN x.1) = oo := ⟨_, rfl⟩
 have hmo : (vals ss (nq f)).mapM outN = oo := by rw [hve, fP]; exact hoo
 refine Rg 7 J <| Um J J <| aA (bG (b := .tup [.sl (kd (oo.getD []).length) ((oo.getD []).map mc), .v (.int .i64 (if oo.isSome = true then 0 else 3))]) (aK J (lP 1 xs om) (aQ (by intro c hc; rw [List.mem_singleton] at hc; subst hc; exact (.sl _ _ fun row hr => aW jI row hr)))) (by rw [← hoo]; rfl)) J <| Um J J <| aA (cW J J) J <| aA (cW J J) J <| Ua J J <| Ua J J <| Wn <| aB <| Rg 2 J <| Um J J <| aA (dV J J) J <| bE (fun h32 => ?_) (fun h32 => ?_)
 ·refine Nk [2,8,9,10,11,32] J <| aR J <| aB <| Rg 4 J <| Um J J <| Ua J J <| Ua J J <| Ua J J <| Wn <| bC <| post (n := 0) (.inr J) J ?_ dbO_data
  show _ = dbO ss f
  cases oo with
  | some o => exact absurd rfl h32
  | none => unfold dbO; rw [if_pos h0, mG hmo]; rfl
 refine Nk [2,8,9,10,11,32] J <| aT J <| aE ?_
 obtain ⟨o, rfl⟩ : ∃ o, oo = some o := by
  cases oo with
  | none => exact absurd (by decide) h32
  | some o => exact ⟨o, rfl⟩
 refine Rg 4 J <| Um J J <| aA (cI ((ss.length : Int)) (bD J J) om) J <| bB (oMk (a := ss.length) (b := ss.length) J J J J om om (by decide) om (by show 8 * ss.length ≤ _; omega) om) J <| Ua J J <| Wn <| aB <| Rg 4 J <| aA (bH J J J J J) J <| aA (aL J J gG J J) J ?_
 refine aA (bD J J) J <| Um J J <| Wn <| aI <| aX (α := Nat) (fun i => [(8, .ptr (0 + 5 + 4 + 2 + 2) 0), (9, .sl 1 (xs.map xc)), (10, .sl (kd o.length) (o.map mc)), (12, .ref (0 + 5 + 4 + 2 + 4 + 4 + 7 + 2 + 2) 1 0 ss.length), (38, .sl k (ss.map stc)), (39, .v (.int .i64 (ss.length : Int))), (40, .v (.int .i64 (i : Int)))]) (fun i => [((0 + 5 + 4 + 2 + 4 + 4 + 7 + 2 + 2), { cells := ((tab ss.length (mixf (fun _ => (0 : Int)) (fun s : Nat => ((bsK (ss.getD s default) (nq f) (fn_ (vals ss (nq f))) : Nat) : Int)) i)).map ic).flatten, sz := 1, elem := (3), st := 0 }), ((0 + 5 + 4 + 2 + 2), { cells := xc (nx f), sz := 4, elem := (114), st := 0 })]) (fun i n => i ≤ ss.length ∧ 32 < n) (fun i => ss.length - i) (0) ⟨J, J, J, J, J, J, J, trivial⟩ ⟨e86 gG (by exact tab_repiF fun s => by rw [mixf_zero]), gG, trivial⟩ ⟨Nat.zero_le _, om⟩ ?_
 rintro i n hF
 change WC _ _ _ _ _ (_ :: _) (_ :: _) n _
 obtain ⟨hi, hn⟩ := hF
 refine Rg 1 J <| aA (bU J J) J <| bE (fun h41 => ?_) (fun h41 => ?_)
 rotate_left
 ·refine Wn <| aT J <| aU <| aN <| aO J <| Rg 5 J <| Um J J <| Um J J <| Ua J J <| Ua J J <| Ua J J <| Wn <| aP ?_
  have hin : i = ss.length := by omega
  have ee : tab ss.length (mixf (fun _ => (0 : Int)) (fun s : Nat => ((bsK (ss.getD s default) (nq f) (fn_ (vals ss (nq f))) : Nat) : Int)) i) = tab ss.length (fun s : Nat => ((bsK (ss.getD s default) (nq f) (fn_ (vals ss (nq f))) : Nat) : Int)) := tab_eq fun s hs => by unfold mixf; rw [if_pos om]
  rw [show dbO ss f = .tup [.sl (kd o.length) (o.map mc), .sl 1 ((tab ss.length (mixf (fun _ => (0 : Int)) (fun s : Nat => ((bsK (ss.getD s default) (nq f) (fn_ (vals ss (nq f))) : Nat) : Int)) i)).map ic), .v (.int .i64 0)] by unfold dbO; rw [if_pos h0, iL hmo, ee]]
  exact pN (n := 0) [((0 + 5 + 4 + 2 + 4 + 4 + 7 + 2 + 2), { cells := ((tab ss.length (mixf (fun _ => (0 : Int)) (fun s : Nat => ((bsK (ss.getD s default) (nq f) (fn_ (vals ss (nq f))) : Nat) : Int)) i)).map ic).flatten, sz := 1, elem := (3), st := 1 })] (.inr J) J (.data (.sl _ _ (aW nB)) (.own ((tab ss.length (mixf (fun _ => (0 : Int)) (fun s : Nat => ((bsK (ss.getD s default) (nq f) (fn_ (vals ss (nq f))) : Nat) : Int)) i)).map ic) (by rw [List.length_map, cK]) gG (by show (0 : Nat) ≠ 2; decide) J (by decide) (by simp [keys]) J rows_ic (aW mA) (.data (.v _) .nil))) (by intro p hp; rw [List.mem_singleton] at hp; subst hp; exact ⟨_, gG, by show (0 : Nat) ≠ 2; decide, rfl⟩)
 refine Wn <| aR J <| aE <| aI ?_
 have hm := bA (us := ss) (i := i) om
 have hcl := hV1.cs _ hm
 refine Rg 6 J <| Um J J <| aA (bS J J J J J om J) J <| aA (dL (l := .agg (stc (ss.getD i default))) J J J) J <| bB (dS J) J <| Ua J J <| aZ (cO (cs' := stc (ss.getD i default)) J J J g0 J J J J) <| Wn <| aJ (z := 11) J <| Um J J <| Um J J <| aA (aL (l := .agg (stc (ss.getD i default))) J J gG J J) J ?_
 refine aA (aL (l := lvX (nx f)) J J gG J J) J ?_
 refine Um J J <| aA (aK J (jE (ss.getD i default) (nx f) 1 xs ss.length hcl (fun c hc => eT hV hm hc) hvf.bd hxl 268435456 (by decide) (by decide) hxb) (aQ (by intro c hc; simp only [List.mem_cons, List.not_mem_nil, or_false] at hc; rcases hc with rfl | rfl | rfl; exact (.agg _ fun c hc => pF _ c hc); exact eQ; exact (.sl _ _ fun row hr => aW jI row hr)))) J <| Um J J <| aA (cW J J) J <| aA (bG (b := .v (.int .i64 ((fun s : Nat => ((bsK (ss.getD s default) (nq f) (fn_ (vals ss (nq f))) : Nat) : Int)) i))) (cW J J) (congrArg (fun z => LV.v (.int .i64 ((bsK (ss.getD i default) (nq f) z : Nat) : Int))) hvv)) J <| aA (cA (j := i) J J J J om om J) J <| aZ (oStTi J J J gG om J) ?_
 refine Wn <| aG <| Ck [8,9,10,12,38,39,40] J <| aJ (z := 2) J <| aA (cI (((i + 1 : Nat) : Int)) (aV J J om) om) J <| Um J J <| Wn <| aF <| ⟨i + 1, ⟨J, J, J, J, J, J, J, trivial⟩, ⟨e86 gG (congrArg (fun z => Ob.mk ((tab ss.length z).map ic).flatten 1 3 0) mixf_set.symm), gG, trivial⟩, ⟨om, om⟩, by show ss.length - (i + 1) < ss.length - i; omega⟩
theorem qfewn_run (m k : Nat) (ss : List Go.Ab.ST) : Run Try.prog T E0 (.call 70 [.v (.int .i64 (m : Int)), lvMo k ss] (.v (.bool (fewN m ss)))) := by
 refine bK Try.func70 J J (dM J) <| Rg 2 J <| bB (eG J J) J <| Ua J J <| Wn <| aB <| Rg 17 J <| aA (bH J J J J J) J <| aA (aL J J gG J J) J ?_
 refine aA (bD J J) J <| Um J J <| aA (gW J J) J <| bE (fun h13 => ?_) (fun h13 => ?_)
 rotate_left
 ·refine Um J J <| K1 J J <| K1 J J <| K1 J J <| K1 J J <| aA (cG J J) J <| Um J J <| aM J (bH J J J J J) J <| aM J (aL J J gG J J) J ?_
  refine aM J (bD J J) J <| aM J (gW J J) J <| bE (fun h24 => ?_) (fun h24 => ?_)
  ·refine aA (cG J J) J <| Nk [3,25] J <| aR J <| aB <| Rg 1 J <| Ua J J <| Wn <| bC <| post (n := 0) (.inr J) J ?_ dD
   exact congrArg (fun z => LV.v (.bool z)) (show false = fewN m ss by unfold fewN fewM; rw [decide_eq_false (show ¬ ss.length ≤ 45 by omega), Bool.false_and, Bool.and_false])
  refine aA (cG J J) J <| Nk [3,25] J <| aT J <| aE <| aB ?_
  have h6 : (!(decide (m < ss.length) && decide (ss.length ≤ 40))) = true := by first | (rw [decide_eq_false (show ¬ m < ss.length by omega)]; rfl) | (rw [decide_eq_false (show ¬ ss.length ≤ 40 by omega), Bool.and_false]; rfl)
  refine Rg 4 J <| aA (bH J J J J J) J <| aA (aL J J gG J J) J ?_
  refine aA (bD J J) J <| Um J J <| Wn <| aI <| aX (α := Nat) (fun i => [(27, .sl k (ss.map stc)), (28, .v (.int .i64 (ss.length : Int))), (29, .v (.int .i64 (i : Int)))]) (fun i => []) (fun i n => i ≤ ss.length ∧ (ss.take i).all fewS = true) (fun i => ss.length - i) (0) ⟨J, J, J, trivial⟩ trivial ⟨Nat.zero_le _, by simp⟩ ?_
  rintro i n hF
  change WC _ _ _ _ _ (_ :: _) ([]) n _
  obtain ⟨hi, ha⟩ := hF
  refine Rg 1 J <| aA (bU J J) J <| bE (fun h30 => ?_) (fun h30 => ?_)
  rotate_left
  ·refine Wn <| aT J <| aU <| aN <| aO J <| Rg 1 J <| Ua J J <| Wn <| aP <| post (n := 0) (.inr J) J ?_ dD
   exact congrArg (fun z => LV.v (.bool z)) (show true = fewN m ss by unfold fewN fewM; rw [h6, decide_eq_true om, lF ha om]; rfl)
  refine Wn <| aR J <| aE <| aI <| Rg 4 J <| aA (bS J J J J J om J) J <| aA (dL (l := .agg (stc (ss.getD i default))) J J J) J <| bB (dS J) J <| aZ (cO (cs' := stc (ss.getD i default)) J J J g0 J J J J) <| Wn <| aB <| Rg 4 J <| aA (bH J J J J J) J <| aA (aL J J gG J J) J ?_
  refine aA (bD J J) J <| aA (gW J J) J <| bE (fun h36 => ?_) (fun h36 => ?_)
  ·refine Wn <| aR J <| aB <| Rg 1 J <| Ua J J <| Wn <| bC <| aS <| bO <| aS <| post (n := 0) (.inr J) J ?_ dD
   exact congrArg (fun z => LV.v (.bool z)) (show false = fewN m ss by unfold fewN; rw [qG (i := i) om (fewS_no1 om), Bool.and_false])
  refine Wn <| aT J <| aE <| Rg 4 J <| aA (bH J J J J J) J <| aA (aL J J gG J J) J ?_
  refine aA (bD J J) J <| Um J J <| Nk [27,28,29,38,39,40] J <| cN <| aX (α := Nat) (fun j => [(27, .sl k (ss.map stc)), (28, .v (.int .i64 (ss.length : Int))), (29, .v (.int .i64 (i : Int))), (38, .sl (ss.getD i default).2.1 ((ss.getD i default).2.2.map chc)), (39, .v (.int .i64 ((ss.getD i default).2.2.length : Int))), (40, .v (.int .i64 (j : Int)))]) (fun j => []) (fun j n => j ≤ (ss.getD i default).2.2.length ∧ ((ss.getD i default).2.2.take j).all fewC = true) (fun j => (ss.getD i default).2.2.length - j) (0) ⟨J, J, J, J, J, J, trivial⟩ trivial ⟨Nat.zero_le _, by simp⟩ ?_
  rintro j n hF
  change WC _ _ _ _ _ (_ :: _) ([]) n _
  obtain ⟨hj, hb⟩ := hF
  refine Rg 1 J <| aA (bU J J) J <| bE (fun h41 => ?_) (fun h41 => ?_)
  rotate_left
  ·refine Wn <| aT J <| aU <| aN <| dO J <| aG <| aJ (z := 2) J <| aA (cI (((i + 1 : Nat) : Int)) (aV J J om) om) J <| Um J J <| Wn <| aF <| ⟨i + 1, ⟨J, J, J, trivial⟩, trivial, ⟨om, jQ ha om (by unfold fewS; rw [decide_eq_true om, lF hb om]; rfl)⟩, by show ss.length - (i + 1) < ss.length - i; omega⟩
  refine Wn <| aR J <| aE <| aI <| Rg 4 J <| aA (bS J J J J J om J) J <| aA (dL (l := lvC ((ss.getD i default).2.2.getD j default)) J J J) J <| bB (dS J) J <| aZ (cO (cs' := chc ((ss.getD i default).2.2.getD j default)) J J J g0 J J J J) <| Wn <| Rg 4 J <| aA (bH J J J J J) J <| aA (aL J J gG J J) J ?_
  refine aA (bD J J) J <| aA (gW J J) J <| bE (fun h47 => ?_) (fun h47 => ?_)
  rotate_left
  ·refine Wn <| cH J <| cM <| aG <| aJ (z := 2) J <| aA (cI (((j + 1 : Nat) : Int)) (aV J J om) om) J <| Um J J <| Wn <| aF <| ⟨j + 1, ⟨J, J, J, J, J, J, trivial⟩, trivial, ⟨om, jQ hb om (decide_eq_true om)⟩, by show (ss.getD i default).2.2.length - (j + 1) < (ss.getD i default).2.2.length - j; omega⟩
  refine Wn <| cL J <| Rg 1 J <| Ua J J <| Nk [4] J <| aP <| aS <| bO <| dZ <| aS <| bO <| aS <| post (n := 0) (.inr J) J ?_ dD
  exact congrArg (fun z => LV.v (.bool z)) (show false = fewN m ss by unfold fewN; rw [qG (i := i) om (fewS_no2 (j := j) om om), Bool.and_false])
 refine Um J J <| aM J (bH J J J J J) J <| aM J (aL J J gG J J) J ?_
 refine aM J (bD J J) J <| aM J (oLeq J J) J <| bE (fun h18 => ?_) (fun h18 => ?_)
 ·refine aA (bW J J) J <| Um J J <| K1 J J <| K1 J J <| K1 J J <| K1 J J <| aA (bW J J) J <| Nk [3,25] J <| aR J <| aB <| Rg 1 J <| Ua J J <| Wn <| bC <| post (n := 0) (.inr J) J ?_ dD
  exact congrArg (fun z => LV.v (.bool z)) (show false = fewN m ss by unfold fewN; rw [decide_eq_true (show m < ss.length by omega), decide_eq_true (show ss.length ≤ 40 by omega)]; rfl)
 refine aA (bW J J) J <| Um J J <| aM J (bH J J J J J) J <| aM J (aL J J gG J J) J ?_
 refine aM J (bD J J) J <| aM J (gW J J) J <| bE (fun h24 => ?_) (fun h24 => ?_)
 ·refine aA (cG J J) J <| Nk [3,25] J <| aR J <| aB <| Rg 1 J <| Ua J J <| Wn <| bC <| post (n := 0) (.inr J) J ?_ dD
  exact congrArg (fun z => LV.v (.bool z)) (show false = fewN m ss by unfold fewN fewM; rw [decide_eq_false (show ¬ ss.length ≤ 45 by omega), Bool.false_and, Bool.and_false])
 refine aA (cG J J) J <| Nk [3,25] J <| aT J <| aE <| aB ?_
 have h6 : (!(decide (m < ss.length) && decide (ss.length ≤ 40))) = true := by first | (rw [decide_eq_false (show ¬ m < ss.length by omega)]; rfl) | (rw [decide_eq_false (show ¬ ss.length ≤ 40 by omega), Bool.and_false]; rfl)
 refine Rg 4 J <| aA (bH J J J J J) J <| aA (aL J J gG J J) J ?_
 refine aA (bD J J) J <| Um J J <| Wn <| aI <| aX (α := Nat) (fun i => [(27, .sl k (ss.map stc)), (28, .v (.int .i64 (ss.length : Int))), (29, .v (.int .i64 (i : Int)))]) (fun i => []) (fun i n => i ≤ ss.length ∧ (ss.take i).all fewS = true) (fun i => ss.length - i) (0) ⟨J, J, J, trivial⟩ trivial ⟨Nat.zero_le _, by simp⟩ ?_
 rintro i n hF
 change WC _ _ _ _ _ (_ :: _) ([]) n _
 obtain ⟨hi, ha⟩ := hF
 refine Rg 1 J <| aA (bU J J) J <| bE (fun h30 => ?_) (fun h30 => ?_)
 rotate_left
 ·refine Wn <| aT J <| aU <| aN <| aO J <| Rg 1 J <| Ua J J <| Wn <| aP <| post (n := 0) (.inr J) J ?_ dD
  exact congrArg (fun z => LV.v (.bool z)) (show true = fewN m ss by unfold fewN fewM; rw [h6, decide_eq_true om, lF ha om]; rfl)
 refine Wn <| aR J <| aE <| aI <| Rg 4 J <| aA (bS J J J J J om J) J <| aA (dL (l := .agg (stc (ss.getD i default))) J J J) J <| bB (dS J) J <| aZ (cO (cs' := stc (ss.getD i default)) J J J g0 J J J J) <| Wn <| aB <| Rg 4 J <| aA (bH J J J J J) J <| aA (aL J J gG J J) J ?_
 refine aA (bD J J) J <| aA (gW J J) J <| bE (fun h36 => ?_) (fun h36 => ?_)
 ·refine Wn <| aR J <| aB <| Rg 1 J <| Ua J J <| Wn <| bC <| aS <| bO <| aS <| post (n := 0) (.inr J) J ?_ dD
  exact congrArg (fun z => LV.v (.bool z)) (show false = fewN m ss by unfold fewN; rw [qG (i := i) om (fewS_no1 om), Bool.and_false])
 refine Wn <| aT J <| aE <| Rg 4 J <| aA (bH J J J J J) J <| aA (aL J J gG J J) J ?_
 refine aA (bD J J) J <| Um J J <| Nk [27,28,29,38,39,40] J <| cN <| aX (α := Nat) (fun j => [(27, .sl k (ss.map stc)), (28, .v (.int .i64 (ss.length : Int))), (29, .v (.int .i64 (i : Int))), (38, .sl (ss.getD i default).2.1 ((ss.getD i default).2.2.map chc)), (39, .v (.int .i64 ((ss.getD i default).2.2.length : Int))), (40, .v (.int .i64 (j : Int)))]) (fun j => []) (fun j n => j ≤ (ss.getD i default).2.2.length ∧ ((ss.getD i default).2.2.take j).all fewC = true) (fun j => (ss.getD i default).2.2.length - j) (0) ⟨J, J, J, J, J, J, trivial⟩ trivial ⟨Nat.zero_le _, by simp⟩ ?_
 rintro j n hF
 change WC _ _ _ _ _ (_ :: _) ([]) n _
 obtain ⟨hj, hb⟩ := hF
 refine Rg 1 J <| aA (bU J J) J <| bE (fun h41 => ?_) (fun h41 => ?_)
 rotate_left
 ·refine Wn <| aT J <| aU <| aN <| dO J <| aG <| aJ (z := 2) J <| aA (cI (((i + 1 : Nat) : Int)) (aV J J om) om) J <| Um J J <| Wn <| aF <| ⟨i + 1, ⟨J, J, J, trivial⟩, trivial, ⟨om, jQ ha om (by unfold fewS; rw [decide_eq_true om, lF hb om]; rfl)⟩, by show ss.length - (i + 1) < ss.length - i; omega⟩
 refine Wn <| aR J <| aE <| aI <| Rg 4 J <| aA (bS J J J J J om J) J <| aA (dL (l := lvC ((ss.getD i default).2.2.getD j default)) J J J) J <| bB (dS J) J <| aZ (cO (cs' := chc ((ss.getD i default).2.2.getD j default)) J J J g0 J J J J) <| Wn <| Rg 4 J <| aA (bH J J J J J) J <| aA (aL J J gG J J) J ?_
 refine aA (bD J J) J <| aA (gW J J) J <| bE (fun h47 => ?_) (fun h47 => ?_)
 rotate_left
 ·refine Wn <| cH J <| cM <| aG <| aJ (z := 2) J <| aA (cI (((j + 1 : Nat) : Int)) (aV J J om) om) J <| Um J J <| Wn <| aF <| ⟨j + 1, ⟨J, J, J, J, J, J, trivial⟩, trivial, ⟨om, jQ hb om (decide_eq_true om)⟩, by show (ss.getD i default).2.2.length - (j + 1) < (ss.getD i default).2.2.length - j; omega⟩
 refine Wn <| cL J <| Rg 1 J <| Ua J J <| Nk [4] J <| aP <| aS <| bO <| dZ <| aS <| bO <| aS <| post (n := 0) (.inr J) J ?_ dD
 exact congrArg (fun z => LV.v (.bool z)) (show false = fewN m ss by unfold fewN; rw [qG (i := i) om (fewS_no2 (j := j) om om), Bool.and_false])
theorem dfew_run (k kl kn : Nat) (ss : List Go.Ab.ST) (l : List Int) (ns : List NM) : Run Try.prog T E0 (.call 45 [lvMo k ss, .sl kl (l.map ic), .sl kn (ns.map mc)] (.v (.bool (few6 ss && decide (l.length ≤ 60) && decide (ns.length ≤ 60))))) := by
 refine bK Try.func45 J J (dM J) <| Rg 2 J <| bB (eG J J) J <| Ua J J <| Wn <| Rg 13 J <| aA (aL (l := lvMo k ss) J J gG J J) J ?_
 refine aA (bG (b := .v (.bool (few6 ss))) (aK J (qfewn_run 6 k ss) dD) J) J <| fT (fun h8 => ?_) (fun h8 => ?_)
 rotate_left
 ·refine Um J J <| K1 J J <| K1 J J <| K1 J J <| aA (cG J J) J <| Um J J <| K1 J J <| K1 J J <| K1 J J <| aA (cG J J) J <| Ua J J <| Nk [6] J <| aP <| post (n := 0) (.inr J) J ?_ dD
  exact congrArg (fun z => LV.v (.bool z)) (show false = (few6 ss && decide (l.length ≤ 60) && decide (ns.length ≤ 60)) by rw [h8]; rfl)
 refine Um J J <| aM J (dU J) J <| aM J (bD J J) J <| aM J (oLeq J J) J <| bE (fun h12 => ?_) (fun h12 => ?_)
 ·refine aA (bW J J) J <| Um J J <| aM J (dU J) J <| aM J (bD J J) J <| aM J (oLeq J J) J <| aA (bW J J) J <| Ua J J <| Nk [6] J <| aP <| post (n := 0) (.inr J) J ?_ dD
  exact congrArg (fun z => LV.v (.bool z)) (by first | (rw [h8, decide_eq_true (show l.length ≤ 60 by omega), decide_eq_true (show ns.length ≤ 60 by omega)]; rfl) | (rw [h8, decide_eq_true (show l.length ≤ 60 by omega), decide_eq_false (show ¬ ns.length ≤ 60 by omega)]; rfl) | (rw [h8, decide_eq_true (show l.length ≤ 60 by omega)]; simp; omega))
 refine aA (bW J J) J <| Um J J <| K1 J J <| K1 J J <| K1 J J <| aA (cG J J) J <| Ua J J <| Nk [6] J <| aP <| post (n := 0) (.inr J) J ?_ dD
 exact congrArg (fun z => LV.v (.bool z)) (show false = (few6 ss && decide (l.length ≤ 60) && decide (ns.length ≤ 60)) by rw [decide_eq_false (show ¬ l.length ≤ 60 by omega), Bool.and_false]; rfl)
theorem gR (a b : Int) : Run Try.prog T E0 (.call 111 [.v (.int .i64 a), .v (.int .i64 b)] (lvM (a, b))) := by
 refine bK Try.func111 J J (dM J) <| Rg 1 J <| bB (dS J) J <| Wn <| Rg 4 J <| Um J J <| Um J J <| aA (kH (cs := [_, _]) J J J J J) J <| aZ (cO (cs' := [_, _]) J J J J J J J J) <| Wn <| aP <| post (n := 0) (.inr J) J ?_ dD
 rfl
theorem qK (k k' : Nat) (l l' : List Int) (ll : l.length < 1099511627776) : Run Try.prog T E0 (.call 22 [.sl k (l.map ic), .sl k' (l'.map ic)] (.v (.bool (decide (l = l'))))) := by
 refine bK Try.func22 J J (dM J) <| Rg 1 J <| Ua J J <| Wn <| aB <| Rg 5 J <| Um J J <| aA (bD J J) J <| Um J J <| aA (bD J J) J <| aA (dV J J) J <| bE (fun h10 => ?_) (fun h10 => ?_)
 ·refine Wn <| aR J <| aB <| Rg 1 J <| Ua J J <| Wn <| bC <| post (n := 0) (.inr J) J ?_ dD
  exact congrArg (fun z => LV.v (.bool z)) (show false = decide (l = l') from (decide_eq_false fun h => h10 (by rw [h])).symm)
 refine Wn <| aT J <| aE <| aB <| Rg 3 J <| Um J J <| aA (bD J J) J <| Um J J <| Wn <| aI <| aX (α := Nat) (fun i => [(0, .sl k (l.map ic)), (1, .sl k' (l'.map ic)), (12, .v (.int .i64 (l.length : Int))), (13, .v (.int .i64 (i : Int)))]) (fun i => []) (fun i n => i ≤ l.length ∧ l.take i = l'.take i) (fun i => l.length - i) (0) ⟨J, J, J, J, trivial⟩ trivial ⟨Nat.zero_le _, by simp⟩ ?_
 rintro i n hF
 change WC _ _ _ _ _ (_ :: _) ([]) n _
 obtain ⟨hi, ha⟩ := hF
 refine Rg 1 J <| aA (bU J J) J <| bE (fun h14 => ?_) (fun h14 => ?_)
 rotate_left
 ·refine Wn <| aT J <| aU <| aN <| aO J <| Rg 1 J <| Ua J J <| Wn <| aP <| post (n := 0) (.inr J) J ?_ dD
  exact congrArg (fun z => LV.v (.bool z)) (show true = decide (l = l') from (decide_eq_true (by rw [List.take_of_length_le om, List.take_of_length_le om] at ha; exact ha)).symm)
 refine Wn <| aR J <| aE <| aI <| Rg 2 J <| Um J J <| Ua J J <| Wn <| bN (z := 9) J kR <| Dm J J <| Dm J J <| aH (bS (j := i) J J J J om om J) J <| aH (dL J J J) J <| Dm J J <| Dm J J <| aH (bS (j := i) J J J J om om J) J <| aH (dL J J J) J <| aH (dV J J) J <| WD.D (fun h24 => ?_) (fun h24 => ?_)
 rotate_left
 ·refine bJ (aY kR) J <| Ck [0,1,12,13,24] J <| cH J <| cM <| aG <| aJ (z := 2) J <| aA (cI (((i + 1 : Nat) : Int)) (aV J J om) om) J <| Um J J <| Wn <| aF <| ⟨i + 1, ⟨J, J, J, J, trivial⟩, trivial, ⟨om, eqL_take ha om om om⟩, by show l.length - (i + 1) < l.length - i; omega⟩
 refine bJ (aY kR) J <| Ck [0,1,12,13,24] J <| cL J <| Rg 1 J <| Ua J J <| Wn <| aP <| aS <| bO <| aS <| post (n := 0) (.inr J) J ?_ dD
 exact congrArg (fun z => LV.v (.bool z)) (show false = decide (l = l') from (decide_eq_false (eqL_no (i := i) om om om)).symm)
theorem pD  : Run Try.prog T E0 (.call 46 [] (.v (.bool true))) := by
 refine bK Try.func46 J J (dM J) <| Rg 1 J <| Ua J J <| Wn <| Rg 14 J <| aA (aK J (gR 1 1) dD) J <| aA (aK J (gR 1 1) dD) J <| aA (kH (cs := [_, _, _]) J J J J J) J <| aA (dJ (cs := [_, _, _]) (rows := [[_, _, _]]) J J (by decide) J J J) J <| aA (kH (cs := [_, _, _]) J J J J J) J <| aA (aK J (gR 2 1) dD) J <| aA (aK J (gR 1 1) dD) J <| aA (kH (cs := [_, _, _]) J J J J J) J <| aA (dJ (cs := [_, _, _]) (rows := [[_, _, _]]) J J (by decide) J J J) J <| aA (kH (cs := [_, _, _]) J J J J J) J <| aA (dJ (cs := [_, _, _, _, _, _]) (rows := [[_, _, _], [_, _, _]]) J J (by decide) J J J) J <| aA (kH (cs := [_, _, _]) J J J J J) J <| bB (dS J) J <| aZ (cO (cs' := [_, _, _]) J J J J J J J J) <| Wn <| bN (z := 12) J kR <| aH (aL (l := .agg (stc ((((0 : Int), (0 : Int)), (2, [((1, 1), (2, [(0, (1, 1))])), ((2, 1), (2, [(0, (1, 1))]))])) : Go.Ab.ST))) J J gG J J) J ?_
 refine aH (dJ (cs := [_, _, _]) (rows := [[_, _, _]]) J J (by decide) J J J) J <| aH (kH (cs := [_]) J J J J J) J <| aH (aK J (gR 1 2) dD) J <| aH (bG (b := .tup [.sl 1 [mc (4, 1)], .sl 1 [ic 1], .v (.int .i64 0)]) (aK J (kG 2 (awk 0) (1, 2) (awk_is 0 I64_0) (by unfold I64; decide) (by unfold I64; decide)) (aQ (by intro c hc; simp only [List.mem_cons, List.not_mem_nil, or_false] at hc; rcases hc with rfl | rfl; exact (awk_data 0); exact eQ))) awk_b0) J <| Dm J J <| aH (cW J J) J <| aH (cW J J) J <| aH (cW J J) J <| aH (fR J) J <| aH (fR J) J <| aH (fR J) J <| bJ (aY kR) J <| Ck [1,2,3,4] J <| Rg 2 J <| aA (bH J J J J J) J <| aZ (cO (cs' := [_, _, _]) J J J J J J J J) <| Wn <| bN (z := 12) J kR <| aH (aL (l := .agg (stc ((((1 : Int), (0 : Int)), (2, [((1, 1), (2, [(0, (1, 1))])), ((2, 1), (2, [(0, (1, 1))]))])) : Go.Ab.ST))) J J gG J J) J ?_
 refine aH (dJ (cs := [_, _, _]) (rows := [[_, _, _]]) J J (by decide) J J J) J <| aH (kH (cs := [_]) J J J J J) J <| aH (aK J (gR 1 2) dD) J <| aH (bG (b := .tup [.sl 1 [mc (2, 1)], .sl 1 [ic 0], .v (.int .i64 0)]) (aK J (kG 2 (awk 1) (1, 2) (awk_is 1 I64_1) (by unfold I64; decide) (by unfold I64; decide)) (aQ (by intro c hc; simp only [List.mem_cons, List.not_mem_nil, or_false] at hc; rcases hc with rfl | rfl; exact (awk_data 1); exact eQ))) awk_b1) J <| Dm J J <| aH (cW J J) J <| aH (cW J J) J <| aH (cW J J) J <| aH (fR J) J <| aH (fR J) J <| aH (fR J) J <| bJ (aY kR) J <| Ck [2,3,4,5,6,7] J <| Rg 29 J <| Um J J <| aA (gB J J) J <| bE (fun h40 => ?_) (fun h40 => ?_)
 rotate_left
 ·exact absurd J h40
 refine Um J J <| aM J (dU J) J <| aM J (aK J (gR 4 1) dD) J <| aM J (dJ (cs := [_, _]) (rows := [[_, _]]) J J (by decide) J J J) J <| aM J (aK J (lS 1 2 [(4, 1)] (by decide)) (aQ (by intro c hc; simp only [List.mem_cons, List.not_mem_nil, or_false] at hc; rcases hc with rfl | rfl; exact (lT 1 (4, 1)); exact (lT 2 (4, 1))))) J <| aA (bW J J) J <| Um J J <| aM J (dU J) J <| aM J (dJ (cs := [_]) (rows := [[_]]) J J (by decide) J J J) J <| aM J (bG (b := .v (.bool true)) (aK J (qK 1 2 [1] [1] (by decide)) (aQ (by intro c hc; simp only [List.mem_cons, List.not_mem_nil, or_false] at hc; rcases hc with rfl | rfl; exact (lM 1 1); exact (lM 2 1)))) J) J <| aA (bW J J) J <| Um J J <| aM J (dU J) J <| aM J (gB J J) J <| bE (fun h54 => ?_) (fun h54 => ?_)
 rotate_left
 ·exact absurd J h54
 refine aA (bW J J) J <| Um J J <| aM J (dU J) J <| aM J (aK J (gR 2 1) dD) J <| aM J (dJ (cs := [_, _]) (rows := [[_, _]]) J J (by decide) J J J) J <| aM J (aK J (lS 1 2 [(2, 1)] (by decide)) (aQ (by intro c hc; simp only [List.mem_cons, List.not_mem_nil, or_false] at hc; rcases hc with rfl | rfl; exact (lT 1 (2, 1)); exact (lT 2 (2, 1))))) J <| aA (bW J J) J <| Um J J <| aM J (dU J) J <| aM J (dJ (cs := [_]) (rows := [[_]]) J J (by decide) J J J) J <| aM J (bG (b := .v (.bool true)) (aK J (qK 1 2 [0] [0] (by decide)) (aQ (by intro c hc; simp only [List.mem_cons, List.not_mem_nil, or_false] at hc; rcases hc with rfl | rfl; exact (lM 1 0); exact (lM 2 0)))) J) J <| aA (bW J J) J <| Ua J J <| Nk [0] J <| aP <| post (n := 0) (.inr J) J ?_ dD
 rfl
end Go.Proofs.Ytcblgjaomljikaa
namespace Go.Proofs.Ytcblgjaomljikaa
open Go.Ab Go.RowKit
theorem rD (k : Nat) (ss : List Go.Ab.ST) (f : NM) (z : Int) (hI : ∀ s, s ∈ ss → IS s) (hf1 : I64 f.1) (hf2 : I64 f.2) (hz : I64 z) : Run Try.prog T E0 (.call 51 [lvMo k ss, lvM f, .v (.int .i64 z)] (stO ss f z)) := by
 refine bK Try.func51 J J (dM J) <| Rg 4 J <| bB (eG J J) J <| bB (eG J J) J <| Ua J J <| Ua J J <| Wn <| aB <| Rg 4 J <| aA (aL (l := lvMo k ss) J J (by repeat (first | exact g0 | refine g1 om ?_ | refine aD om ?_)) J J) J ?_
 refine aA (aL (l := lvM f) J J (by repeat (first | exact g0 | refine g1 om ?_ | refine aD om ?_)) J J) J ?_
 refine aA (aK J (eA k 0 ss f [] hI hf1 hf2 (by intro a ha; cases ha) (by decide)) (aQ (by intro c hc; simp only [List.mem_cons, List.not_mem_nil, or_false] at hc; rcases hc with rfl | rfl | rfl; exact eQ; exact eQ; exact (.sl 0 [] (by simp))))) J <| Ua J J <| Wn <| aB <| Rg 2 J <| Um J J <| aA (dV J J) J <| bE (fun h18 => ?_) (fun h18 => ?_)
 ·refine Wn <| aR J <| aB <| Rg 3 J <| Um J J <| Ua J J <| Ua J J <| Wn <| bC <| post (n := 0) (.inr J) J ?_ nZ
  show _ = stO ss f z
  unfold stO; rw [if_neg h18]; rfl
 refine Wn <| aT J <| aE <| aB <| Rg 6 J <| Um J J <| aA (bU J J) J <| bE (fun h21 => ?_) (fun h21 => ?_)
 ·refine Um J J <| K1 J J <| K1 J J <| aA (bW J J) J <| Nk [2,3,4,25] J <| aR J <| aB <| Rg 2 J <| Ua J J <| Ua J J <| Wn <| bC <| post (n := 0) (.inr J) J ?_ nZ
  show _ = stO ss f z
  unfold stO; rw [if_pos (Classical.not_not.1 h18), if_neg om]; rfl
 refine Um J J <| aM J (dU J) J <| aM J (gW J J) J <| bE (fun h24 => ?_) (fun h24 => ?_)
 ·refine aA (cG J J) J <| Nk [2,3,4,25] J <| aR J <| aB <| Rg 2 J <| Ua J J <| Ua J J <| Wn <| bC <| post (n := 0) (.inr J) J ?_ nZ
  show _ = stO ss f z
  unfold stO; rw [if_pos (Classical.not_not.1 h18), if_neg om]; rfl
 refine aA (cG J J) J <| Nk [2,3,4,25] J <| aT J <| aE ?_
 have h0 := Classical.not_not.1 h18
 obtain ⟨hV, hvf, hall, hf0, hf3⟩ := iV h0
 have hV1 := fS hV
 have hn40 := hV1.wt.len
 have hpos := hV1.pos
 have hd01 := gY hvf hf0 hf3
 have hbd := stp_bd (d := nq f) hV hn40 hV1.cs hvf.bd
 refine WC.drawF (z := 9) J kR <| aH (bH J J J J J) J <| aH (aL J J (by repeat (first | exact g0 | refine g1 om ?_ | refine aD om ?_)) J J) J ?_
 refine aH (bD J J) J <| mF (oMk (a := ss.length) (b := ss.length) J J J J (by simp) (by simp) (by decide) om (by show 64 * ss.length ≤ _; omega) om) J <| aH (aL (l := lvM f) J J (by repeat (first | exact g0 | refine g1 om ?_ | refine aD om ?_)) J J) J ?_
 refine aH (bG (b := lvX (nx f)) (aK J (dC f hf1 hf2 hvf.all3.2.2) dD) J) J <| mF (dS J) J <| aH (fR J) J <| cR (cO (cs' := xc (nx f)) J J J g0 J J J J) <| bJ (aY kR) J ?_
 have hov : outV (0 + 4 + 4 + 2 + 6 + 3) 4 ((List.replicate ss.length x0).map xc) = .ref (0 + 4 + 4 + 2 + 6 + 3) 4 0 ss.length := by
  rw [fE (fun h => by have := congrArg List.length h; rw [List.length_map, List.length_nil, List.length_replicate] at this; omega), List.length_map, List.length_replicate]
 refine Fz.weakH (outH (0 + 4 + 4 + 2 + 6 + 3) 4 (114) ((List.replicate ss.length x0).map xc) [((0 + 4 + 4 + 2 + 6 + 6), { cells := xc (nx f), sz := 4, elem := (114), st := 0 }), (0, { cells := [.sl k (ss.map stc)], sz := 1, elem := (26), st := 0 })]) (subsM.get (bF (fun _ => by rw [List.map_replicate]; exact (by repeat (first | exact g0 | refine g1 om ?_ | refine aD om ?_))) ⟨(by repeat (first | exact g0 | refine g1 om ?_ | refine aD om ?_)), (by repeat (first | exact g0 | refine g1 om ?_ | refine aD om ?_)), trivial⟩)) ?_
 refine Fz.env (t := 9) (us := (List.replicate ss.length x0).map xc) [(2, _), (3, _), (10, _)] ⟨J, J, J, trivial⟩ (by rw [hov]; rfl) (fun _ r o hr e => by subst e; have h0 : getH [((0 + 4 + 4 + 2 + 6 + 6), { cells := xc (nx f), sz := 4, elem := (114), st := 0 }), (0, { cells := [.sl k (ss.map stc)], sz := 1, elem := (26), st := 0 })] (0 + 4 + 4 + 2 + 6 + 3) = none := gN om (gN om J); rw [h0] at hr; cases hr) (by decide) (bL (f := xc) (n := 4) fun _ => rfl) (aW jI) <| aB <| Rg 2 J <| Um J J <| Um J J <| Wn <| aI <| aX (α := Nat × (List X)) (fun ⟨t, vx⟩ => [(3, .ptr 0 0), (9, .sl (kd (vx.map xc).length) (vx.map xc)), (10, .ptr (0 + 4 + 4 + 2 + 6 + 6) 0), (32, .v (.int .i64 z)), (33, .v (.int .i64 (t : Int)))]) (fun ⟨t, vx⟩ => [((0 + 4 + 4 + 2 + 6 + 6), { cells := xc (nx f), sz := 4, elem := (114), st := 0 }), (0, { cells := [.sl k (ss.map stc)], sz := 1, elem := (26), st := 0 })]) (fun ⟨t, vx⟩ n => (t : Int) ≤ z ∧ vx.map (·.1) = stp ss (nq f) t ∧ 22 < n) (fun ⟨t, vx⟩ => z.toNat - t) (0, (List.replicate ss.length x0)) ⟨J, J, J, J, J, trivial⟩ ⟨gG, gG, trivial⟩ ⟨om, by rw [List.map_replicate]; exact rep_tab ss.length (0 : Rat), om⟩ ?_
 rintro ⟨t, vx⟩ n hF
 change WC _ _ _ _ _ (_ :: _) (_ :: _) n _
 obtain ⟨ht, hvx, hn⟩ := hF
 obtain ⟨nK, hnK⟩ : ∃ z, z = n := ⟨n, rfl⟩
 subst hnK
 have hxl : vx.length = ss.length := by have := congrArg List.length hvx; rw [List.length_map, oA] at this; exact this
 have hvb : ∀ x, x ∈ vx → Bd 12000000 x.1 := fun x hx => hbd t om _ (by rw [← hvx]; exact List.mem_map.2 ⟨x, hx, rfl⟩)
 have hvv : vl vx = fn_ (stp ss (nq f) t) := by unfold vl; rw [hvx]
 refine Rg 1 J <| aA (bU J J) J <| bE (fun h34 => ?_) (fun h34 => ?_)
 rotate_left
 ·refine Wn <| aT J <| aU <| aN <| aO J ?_
  obtain ⟨oo, hoo⟩ : ∃ oo, (vx.mapM fun x => outN x.1) = oo := ⟨_, rfl⟩
  have hmo : (stp ss (nq f) z.toNat).mapM outN = oo := by rw [show z.toNat = t by omega, ← hvx, fP]; exact hoo
  refine Rg 6 J <| Um J J <| aA (bG (b := .tup [.sl (kd (oo.getD []).length) ((oo.getD []).map mc), .v (.int .i64 (if oo.isSome = true then 0 else 3))]) (aK J (lP (kd (vx.map xc).length) vx om) (aQ (by intro c hc; rw [List.mem_singleton] at hc; subst hc; exact (.sl _ _ fun row hr => aW jI row hr)))) (by rw [← hoo]; rfl)) J <| aA (cW J J) J <| aA (cW J J) J <| Ua J J <| Ua J J <| Wn <| aP <| post (n := 0) (.inr J) J ?_ nZ
  show _ = stO ss f z
  unfold stO; rw [if_pos h0, if_pos (show 0 ≤ z ∧ z ≤ 1000 by omega), hmo]; rfl
 refine Wn <| aR J <| aE <| aI <| Rg 4 J <| Um J J <| aA (cI ((ss.length : Int)) (bD J J) om) J <| bB (oMk (a := ss.length) (b := ss.length) J J J J om om (by decide) om (by show 64 * ss.length ≤ _; omega) om) J <| Ua J J <| Wn <| aB <| Rg 4 J <| aA (bH J J J J J) J <| aA (aL J J gG J J) J ?_
 refine aA (bD J J) J <| Um J J <| Wn <| aI <| aX (α := Nat × (List X)) (fun ⟨i, us⟩ => [(3, .ptr 0 0), (9, .sl (kd (vx.map xc).length) (vx.map xc)), (10, .ptr (0 + 4 + 4 + 2 + 6 + 6) 0), (11, .ref (nK + 1 + 2) 4 0 ss.length), (32, .v (.int .i64 z)), (33, .v (.int .i64 (t : Int))), (39, .sl k (ss.map stc)), (40, .v (.int .i64 (ss.length : Int))), (41, .v (.int .i64 (i : Int)))]) (fun ⟨i, us⟩ => ((nK + 1 + 2), { cells := ((us).map xc).flatten, sz := 4, elem := (114), st := 0 }) :: [((0 + 4 + 4 + 2 + 6 + 6), { cells := xc (nx f), sz := 4, elem := (114), st := 0 }), (0, { cells := [.sl k (ss.map stc)], sz := 1, elem := (26), st := 0 })]) (fun ⟨i, us⟩ n => i ≤ ss.length ∧ us.length = ss.length ∧ (∀ a, a < i → (us.getD a default).1 = bsV (ss.getD a default) (nq f) (vl vx)) ∧ nK + 4 < n) (fun ⟨i, us⟩ => ss.length - i) (0, (List.replicate ss.length x0)) ⟨J, J, J, J, J, J, J, J, J, trivial⟩ ⟨g0.trans (by rw [List.map_replicate]; rfl), gG, gG, trivial⟩ ⟨Nat.zero_le _, by simp, fun a ha => absurd ha om, om⟩ ?_
 rintro ⟨i, us⟩ n hF
 change WC _ _ _ _ _ [(3, .ptr 0 0), (9, .sl (kd (vx.map xc).length) (vx.map xc)), (10, .ptr (0 + 4 + 4 + 2 + 6 + 6) 0), (11, .ref (nK + 1 + 2) 4 0 ss.length), (32, .v (.int .i64 z)), (33, .v (.int .i64 (t : Int))), (39, .sl k (ss.map stc)), (40, .v (.int .i64 (ss.length : Int))), (41, .v (.int .i64 (i : Int)))] (((nK + 1 + 2), { cells := ((us).map xc).flatten, sz := 4, elem := (114), st := 0 }) :: [((0 + 4 + 4 + 2 + 6 + 6), { cells := xc (nx f), sz := 4, elem := (114), st := 0 }), (0, { cells := [.sl k (ss.map stc)], sz := 1, elem := (26), st := 0 })]) n _
 obtain ⟨hi, hul, hus, hn2⟩ := hF
 refine fI (z := 1) J <| aA (bU J J) J <| bE (fun h42 => ?_) (fun h42 => ?_)
 rotate_left
 ·refine dA ?_
  have hov : outV (nK + 1 + 2) 4 (us.map xc) = .ref (nK + 1 + 2) 4 0 ss.length := by
   rw [fE (fun h => by have := congrArg List.length h; rw [List.length_map, List.length_nil] at this; omega), List.length_map, hul]
  refine Fz.weakH (outH (nK + 1 + 2) 4 (114) (us.map xc) [((0 + 4 + 4 + 2 + 6 + 6), { cells := xc (nx f), sz := 4, elem := (114), st := 0 }), (0, { cells := [.sl k (ss.map stc)], sz := 1, elem := (26), st := 0 })]) (subsM.get (bF (fun _ => (by repeat (first | exact g0 | refine g1 om ?_ | refine aD om ?_))) ⟨(by repeat (first | exact g0 | refine g1 om ?_ | refine aD om ?_)), (by repeat (first | exact g0 | refine g1 om ?_ | refine aD om ?_)), trivial⟩)) ?_
  refine Fz.env (t := 11) (us := us.map xc) [(3, _), (9, _), (10, _), (32, _), (33, _), (39, _), (40, _), (41, _), (42, _)] ⟨J, J, J, J, J, J, J, J, J, trivial⟩ (by rw [hov]; rfl) (fun _ r o hr e => by subst e; have h0 : getH [((0 + 4 + 4 + 2 + 6 + 6), { cells := xc (nx f), sz := 4, elem := (114), st := 0 }), (0, { cells := [.sl k (ss.map stc)], sz := 1, elem := (26), st := 0 })] (nK + 1 + 2) = none := gN om (gN om J); rw [h0] at hr; cases hr) (by decide) (bL (f := xc) (n := 4) fun _ => rfl) (aW jI) <| aT J <| aU <| aN <| aO J <| aJ (z := 2) J <| Um J J <| Ua J J <| Wn <| aG <| aJ (z := 2) J <| aA (cI (((t + 1 : Nat) : Int)) (aV J J om) om) J <| Um J J <| Wn <| aF <| ⟨⟨t + 1, us⟩, ⟨J, J, J, J, J, trivial⟩, ⟨gG, gG, trivial⟩, ⟨om, ?_, om⟩, by show z.toNat - (t + 1) < z.toNat - t; omega⟩
  refine eW (by rw [List.length_map, oA]; exact hul) fun a ha => ?_
  rw [List.length_map] at ha
  rw [show (us.map (·.1)).getD a default = (us.getD a default).1 from pX (f := fun x : X => x.1) ha, hus a om, hvv]
  exact (dT (f := fun a => bsV (ss.getD a default) (nq f) (fn_ (stp ss (nq f) t))) om).symm
 refine Wn <| Fz.same [(3, _), (9, _), (10, _), (11, _), (32, _), (33, _), (39, _), (40, _), (41, _), (42, _)] _ ⟨J, J, J, J, J, J, J, J, J, J, trivial⟩ (fun _ _ h => h) <| aR J <| aE <| aI ?_
 have hm := bA (us := ss) (i := i) om
 have hcl := hV1.cs _ hm
 refine Rg 6 J <| Um J J <| aA (bS J J J J J om J) J <| aA (dL (l := .agg (stc (ss.getD i default))) J J J) J <| bB (dS J) J <| Ua J J <| aZ (cO (cs' := stc (ss.getD i default)) J J J g0 J J J J) <| Nk [3,9,10,11,12,13,32,33,39,40,41] J <| aJ (z := 11) J <| Um J J <| Um J J <| aA (aL (l := .agg (stc (ss.getD i default))) J J gG J J) J ?_
 refine aA (aL (l := lvX (nx f)) J J gG J J) J ?_
 refine Um J J <| aA (aK J (jE (ss.getD i default) (nx f) (kd (vx.map xc).length) vx ss.length hcl (fun c hc => eT hV hm hc) hvf.bd hxl 12000000 (by decide) (by decide) hvb) (aQ (by intro c hc; simp only [List.mem_cons, List.not_mem_nil, or_false] at hc; rcases hc with rfl | rfl | rfl; exact (.agg _ fun c hc => pF _ c hc); exact eQ; exact (.sl _ _ fun row hr => aW jI row hr)))) J <| Um J J <| aA (cW J J) J <| aA (cW J J) J <| aA (cA (j := i) J J J J om om J) J <| aZ (eC (f := xc) (us := us) (xyl ((ss.getD i default).2.2.getD (bsK (ss.getD i default) (nx f).1 (vl vx)) default) (nx f) vx) J J J gG (fun _ => rfl) J J om J) ?_
 refine Wn <| aG <| Ck [3,9,10,11,32,33,39,40,41] J <| aJ (z := 2) J <| aA (cI (((i + 1 : Nat) : Int)) (aV J J om) om) J <| Um J J <| Wn <| aF <| ⟨⟨i + 1, us.set i (xyl ((ss.getD i default).2.2.getD (bsK (ss.getD i default) (nx f).1 (vl vx)) default) (nx f) vx)⟩, ⟨J, J, J, J, J, J, J, J, J, trivial⟩, ⟨gG, gG, gG, trivial⟩, ⟨om, by rw [List.length_set]; exact hul, fun a ha => ?_, om⟩, by show ss.length - (i + 1) < ss.length - i; omega⟩
 rw [bT om]
 by_cases e : i = a
 ·rw [if_pos e, ← e]; exact oF _ _ _
 ·rw [if_neg e]; exact hus a om
end Go.Proofs.Ytcblgjaomljikaa
namespace Go.Proofs.Ytcblgjaomljikaa
open Go.Ab Go.RowKit
theorem rP (k ks : Nat) (ss : List Go.Ab.ST) (st : List Int) (hll : st.length < 1099511627776) : Run Try.prog T E0 (.call 78 [lvMo k ss, .sl ks (st.map ic)] (.v (.bool (vSt ss st)))) := by
 refine bK Try.func78 J J (dM J) <| Rg 2 J <| bB (eG J J) J <| Ua J J <| Wn <| aB <| Rg 6 J <| Um J J <| aA (bD J J) J <| aA (bH J J J J J) J <| aA (aL J J gG J J) J ?_
 refine aA (bD J J) J <| aA (dV J J) J <| bE (fun h12 => ?_) (fun h12 => ?_)
 ·refine Wn <| aR J <| aB <| Rg 1 J <| Ua J J <| Wn <| bC <| post (n := 0) (.inr J) J ?_ dD
  exact congrArg (fun z => LV.v (.bool z)) (show false = vSt ss st by unfold vSt; rw [decide_eq_false om]; rfl)
 refine Wn <| aT J <| aE <| aB <| Rg 3 J <| Um J J <| aA (bD J J) J <| Um J J <| Wn <| aI <| aX (α := Nat) (fun i => [(2, .ptr 0 0), (13, .sl ks (st.map ic)), (14, .v (.int .i64 (st.length : Int))), (15, .v (.int .i64 (i : Int)))]) (fun i => [(0, { cells := [.sl k (ss.map stc)], sz := 1, elem := (26), st := 0 })]) (fun i n => i ≤ st.length ∧ (∀ j, j < i → (decide (0 ≤ st.getD j default) && decide (st.getD j default < ((ss.getD j default).2.2.length : Int))) = true) ∧ 0 < n) (fun i => st.length - i) (0) ⟨J, J, J, J, trivial⟩ ⟨(by repeat (first | exact g0 | refine g1 (by decide) ?_)), trivial⟩ ⟨Nat.zero_le _, fun j hj => absurd hj om, om⟩ ?_
 rintro i n hF
 change WC _ _ _ _ _ (_ :: _) (_ :: _) n _
 obtain ⟨hi, hok, hn⟩ := hF
 refine Rg 1 J <| aA (bU J J) J <| bE (fun h16 => ?_) (fun h16 => ?_)
 rotate_left
 ·refine Wn <| aT J <| aU <| aN <| aO J <| Rg 1 J <| Ua J J <| Wn <| aP <| post (n := 0) (.inr J) J ?_ dD
  exact congrArg (fun z => LV.v (.bool z)) (show true = vSt ss st by unfold vSt; rw [decide_eq_true om, rS hok om]; rfl)
 refine Wn <| aR J <| aE <| aI <| Rg 5 J <| Um J J <| aA (bS J J J J J om J) J <| aA (dL J J J) J <| Ua J J <| Ua J J <| Wn <| Rg 13 J <| Um J J <| aA (bU J J) J <| bE (fun h21 => ?_) (fun h21 => ?_)
 ·refine Um J J <| K1 J J <| K1 J J <| K1 J J <| K1 J J <| K1 J J <| K1 J J <| K1 J J <| K1 J J <| K1 J J <| aA (bW J J) J <| Nk [2,13,14,15,23,24,25,26,27,28,29,30,31,32] J <| cL J <| Rg 1 J <| Ua J J <| Nk [4] J <| aP <| aS <| bO <| aS <| post (n := 0) (.inr J) J ?_ dD
  exact congrArg (fun z => LV.v (.bool z)) (show false = vSt ss st by unfold vSt; rw [iD (i := i) om (by rw [decide_eq_false om]; rfl), Bool.and_false])
 refine Um J J <| aM J (dU J) J <| aM J (bH J J J J J) J <| aM J (aL J J gG J J) J ?_
 refine aM J (dU J) J <| aM J (bS (j := i) J J J J om om J) J <| aM J (oFa J J J J J) J <| aM J (dL J J J) J <| aM J (bD J J) J <| aM J (mK J J) J <| bE (fun h31 => ?_) (fun h31 => ?_)
 ·refine aA (cG J J) J <| Nk [2,13,14,15,23,24,25,26,27,28,29,30,31,32] J <| cL J <| Rg 1 J <| Ua J J <| Nk [4] J <| aP <| aS <| bO <| aS <| post (n := 0) (.inr J) J ?_ dD
  exact congrArg (fun z => LV.v (.bool z)) (show false = vSt ss st by unfold vSt; rw [iD (i := i) om (by rw [decide_eq_false (show ¬ (st.getD i default) < _ by omega), Bool.and_false]), Bool.and_false])
 refine aA (cG J J) J <| Nk [2,13,14,15,23,24,25,26,27,28,29,30,31,32] J <| cH J <| cM <| aG <| aJ (z := 2) J <| aA (cI (((i + 1 : Nat) : Int)) (aV J J om) om) J <| Um J J <| Wn <| aF <| ⟨i + 1, ⟨J, J, J, J, trivial⟩, ⟨gG, trivial⟩, ⟨om, fun j hj => ?_, om⟩, by show st.length - (i + 1) < st.length - i; omega⟩
 by_cases e : j = i
 ·rw [e, decide_eq_true om, decide_eq_true om]; rfl
 ·exact hok j om
theorem dof_run (k ks : Nat) (ss : List Go.Ab.ST) (f : NM) (st : List Int) (hI : ∀ s, s ∈ ss → IS s) (hf1 : I64 f.1) (hf2 : I64 f.2) (hll : st.length < 1099511627776) : Run Try.prog T E0 (.call 48 [lvMo k ss, lvM f, .sl ks (st.map ic)] (ofO ss f st)) := by
 refine bK Try.func48 J J (dM J) <| Rg 4 J <| bB (eG J J) J <| bB (eG J J) J <| Ua J J <| Ua J J <| Wn <| Rg 4 J <| aA (aL (l := lvMo k ss) J J gG J J) J ?_
 refine aA (aL (l := lvM f) J J gG J J) J ?_
 refine aA (aK J (eA k 0 ss f [] hI hf1 hf2 (by intro a ha; cases ha) (by decide)) (aQ (by intro c hc; simp only [List.mem_cons, List.not_mem_nil, or_false] at hc; rcases hc with rfl | rfl | rfl; exact eQ; exact eQ; exact (.sl 0 [] (by simp))))) J <| Ua J J <| Wn <| aB <| Rg 8 J <| Um J J <| aA (gB J J) J <| bE (fun h13 => ?_) (fun h13 => ?_)
 ·refine Um J J <| K1 J J <| K1 J J <| K1 J J <| K1 J J <| aA (bW J J) J <| Nk [2,3,4,8,19] J <| aR J <| aB <| Rg 2 J <| Ua J J <| Ua J J <| Wn <| bC <| post (n := 0) (.inr J) J ?_ nN
  show _ = ofO ss f st
  unfold ofO; rw [if_pos (.inl om)]; rfl
 refine Um J J <| aM J (aL (l := lvMo k ss) J J gG J J) J ?_
 refine aM J (dU J) J <| aM J (aK J (rP k ks ss st hll) (aQ (by intro c hc; simp only [List.mem_cons, List.not_mem_nil, or_false] at hc; rcases hc with rfl | rfl; exact eQ; exact (.sl _ _ (aW mA))))) J <| fT (fun h17 => ?_) (fun h17 => ?_)
 rotate_left
 ·refine aM J (fG J) J <| aA (cG J J) J <| Nk [2,3,4,8,19] J <| aR J <| aB <| Rg 2 J <| Ua J J <| Ua J J <| Wn <| bC <| post (n := 0) (.inr J) J ?_ nN
  show _ = ofO ss f st
  unfold ofO; rw [if_pos (.inr h17)]; rfl
 refine aM J (fG J) J <| aA (cG J J) J <| Nk [2,3,4,8,19] J <| aT J <| aE <| aB <| Rg 2 J <| Um J J <| aA (dV J J) J <| bE (fun h21 => ?_) (fun h21 => ?_)
 ·refine Wn <| aR J <| aB <| Rg 3 J <| Um J J <| Ua J J <| Ua J J <| Wn <| bC <| post (n := 0) (.inr J) J ?_ nN
  show _ = ofO ss f st
  unfold ofO; rw [if_neg (by rintro (h | h); exact h13 h; rw [h17] at h; cases h), if_neg h21]; rfl
 refine Wn <| aT J <| aE ?_
 have h0 := Classical.not_not.1 h21
 obtain ⟨hV, hvf, hall, hf0, hf3⟩ := iV h0
 have hV1 := fS hV
 have hn40 := hV1.wt.len
 have hd01 := gY hvf hf0 hf3
 have hD := gC hV hd01.1 hd01.2
 obtain ⟨_, hwr, xs, rfl, hxl, hwv, hxb⟩ := pA k ks ss (nx f) st hV hvf.bd hd01.1 hd01.2 h17
 have hwe : wor ss (nq f) st = xs.map (·.1) := wor_eq hD h17 (by rw [List.length_map]; exact hxl) hwv
 obtain ⟨oo, hoo⟩ : ∃ oo, (xs.mapM fun x => outN x.1) = oo := ⟨_, rfl⟩
 have hmo : (wor ss (nq f) st).mapM outN = oo := by rw [hwe, fP]; exact hoo
 refine bN (z := 10) J kR <| aH (aL (l := lvMo k ss) J J gG J J) J ?_
 refine aH (aL (l := lvM f) J J gG J J) J ?_
 refine aH (bG (b := lvX (nx f)) (aK J (dC f hf1 hf2 hvf.all3.2.2) dD) J) J <| Dm J J <| aH (aK J (hwr) (aQ (by intro c hc; simp only [List.mem_cons, List.not_mem_nil, or_false] at hc; rcases hc with rfl | rfl | rfl; exact eQ; exact eQ; exact (.sl _ _ (aW mA))))) J <| aH (bG (b := .tup [.sl (kd (oo.getD []).length) ((oo.getD []).map mc), .v (.int .i64 (if oo.isSome = true then 0 else 3))]) (aK J (lP 1 xs om) (aQ (by intro c hc; rw [List.mem_singleton] at hc; subst hc; exact (.sl _ _ fun row hr => aW jI row hr)))) (by rw [← hoo]; rfl)) J <| aH (cW J J) J <| aH (cW J J) J <| aH (fR J) J <| aH (fR J) J <| bJ (aY kR) J <| Ck [6,7] J <| aP <| post (n := 0) (.inr J) J ?_ nN
 show _ = ofO ss f st
 unfold ofO; rw [if_neg (show ¬ (eD ss f [] = 1 ∨ vSt ss st = false) from fun h => by rw [h17] at h; simp [h13] at h), if_pos h0, hmo]; rfl
end Go.Proofs.Ytcblgjaomljikaa
namespace Go.Proofs.Ytcblgjaomljikaa
open Go.Ab Go.RowKit
theorem oT (n0 : Nat) (k : Nat) (ns : List X) (ln : ns.length < 1099511627776) : WC Try.prog T E0 Try.f93.ntmps (codeOf Try.f93) (argsEnv 0 [.sl k (ns.map xc)]) [] n0 (fun x e' h' n' => (x = .normal ∨ x = .ret) ∧ n0 ≤ n' ∧ ∃ q, resE e' T h' Try.f93.results.toList = some [outV q 2 (((ns.mapM (fun x : X => outN x.1)).getD []).map mc), .v (.int .i64 (if ((ns.mapM (fun x : X => outN x.1))).isSome = true then (0 : Int) else 3))] ∧ n0 ≤ q ∧ q < n' ∧ ((ns.mapM (fun x : X => outN x.1)).getD [] ≠ [] → getH h' q = some { cells := ((((ns.mapM (fun x : X => outN x.1))).getD []).map mc).flatten, sz := 2, elem := (28), st := 0 })) := by
 change WC _ _ _ _ _ [(0, .sl k (ns.map xc))] _ _ _
 refine Rg 2 J <| Ua J J <| Ua J J <| Wn <| Rg 1 J <| Ua J J <| Wn <| aB <| Rg 3 J <| Um J J <| aA (bD J J) J <| Um J J <| Wn <| aI <| aX (α := Nat × Nat × (List NM)) (fun ⟨i, q, ds⟩ => [(4, outV q 2 (ds.map mc)), (9, .sl k (ns.map xc)), (10, .v (.int .i64 (ns.length : Int))), (11, .v (.int .i64 (i : Int)))]) (fun ⟨i, q, ds⟩ => outH q 2 (28) (ds.map mc) []) (fun ⟨i, q, ds⟩ n => i ≤ ns.length ∧ (ns.take i).mapM (fun x : X => outN x.1) = some ds ∧ ds.length = i ∧ n0 ≤ q ∧ q < n) (fun ⟨i, q, ds⟩ => ns.length - i) (0, n0, []) ⟨J, J, J, J, trivial⟩ trivial ⟨Nat.zero_le _, by simp, rfl, om, om⟩ ?_
 rintro ⟨i, q, ds⟩ n hF
 change WC _ _ _ _ _ (_ :: _) (outH _ _ _ _ _) n _
 obtain ⟨hi, hds, hdl, hq0, hq⟩ := hF
 refine Rg 1 J <| aA (bU J J) J <| bE (fun h12 => ?_) (fun h12 => ?_)
 rotate_left
 ·refine Wn <| aT J <| aU <| aN <| aO J <| Rg 3 J <| Um J J <| Ua J J <| Ua J J <| Wn <| aP ?_
  rw [List.take_of_length_le om] at hds
  refine ⟨.inr J, om, q, ?_, hq0, om, fun h => ?_⟩
  ·rw [hds]; rfl
  ·rw [hds] at h ⊢
   have h3 : ds ≠ [] := h
   show getH (outH q 2 (28) (ds.map mc) []) q = some (obN (28) ds)
   rw [bM (fun h2 => h3 (List.map_eq_nil_iff.1 h2))]
   exact g0
 refine Wn <| aR J <| aE <| aI <| Rg 4 J <| aA (bS J J J J J om J) J <| aA (dL (l := .agg [_, _, _, _]) J J J) J <| bB (dS J) J <| aZ (cO (cs' := [_, _, _, _]) J J J g0 J J J J) <| Wn <| Rg 8 J <| aA (aL (l := .agg [_, _, _, _]) J J g0 J J) J <| aA (bG (b := .tup [lvM ((outN (ns.getD i default).1).getD (0, 0)), .v (.int .i64 (if (outN (ns.getD i default).1).isSome = true then 0 else 3))]) (aK J (rQ (ns.getD i default)) dD) (by rw [lvO_eq])) J <| Um J J <| aA (cW J J) J <| aA (cW J J) J <| bB (dS J) J <| aZ (cO (cs' := [_, _]) J J J g0 J J J J) <| Ua J J <| Nk [4,7,8,9,10,11] J <| aB <| Rg 2 J <| Um J J ?_
 refine aA (dV J J) J <| bE (fun h21 => ?_) (fun h21 => ?_)
 ·refine Wn <| aR J <| aB ?_
  have hno2 : (outN (ns.getD i default).1) = none := by
   cases ho : (outN (ns.getD i default).1) with
   | none => rfl
   | some _ => rw [ho] at h21; exact absurd rfl h21
  have hno : (ns.mapM (fun x : X => outN x.1)) = none := qM (i := i) om hno2
  refine Rg 3 J <| Um J J <| Ua J J <| Ua J J <| Wn <| bC <| aS <| bO <| aS <| ⟨.inr J, om, q, ?_, hq0, om, fun h => absurd (by rw [hno]; rfl) h⟩
  rw [hno]
  first | rfl | (rw [hno2]; rfl)
 refine Wn <| aT J <| aE ?_
 obtain ⟨o, ho⟩ : ∃ o, (outN (ns.getD i default).1) = some o := by
  cases ho : (outN (ns.getD i default).1) with
  | none => rw [ho] at h21; exact absurd (by decide) h21
  | some o => exact ⟨o, rfl⟩
 refine aJ (z := 5) J <| Um J J <| aA (bG (b := lvM o) (aL (l := .agg [_, _]) J J g0 J J) (by simp only [ho, Option.getD_some]; rfl)) J <| aA (dJ (cs := [_, _]) (rows := [[_, _]]) J J (by decide) J J J) J <| fF _ (subsM.get (bF (q := q) (sz := 2) (el := (28)) (us := ds.map mc) (h := []) (fun hne => by rw [bM hne]; repeat (first | exact g0 | refine g1 om ?_)) trivial)) ?_
 refine gD (te := ti28) (f := mc) (q := q) (us := ds) (u := o) J J J J J (fun _ => rfl) (by decide) (by show (2 * (ds.length + 1) + 256) * 16 ≤ _; omega) om (by repeat (first | rfl | refine gN om ?_)) (by repeat (first | rfl | refine gN om ?_)) J ?_
 refine Ua J J <| Wn <| aG <| aJ (z := 2) J <| aA (cI (((i + 1 : Nat) : Int)) (aV J J om) om) J <| Um J J <| Wn <| aF <| ⟨⟨i + 1, _, ds ++ [o]⟩, ⟨J, J, J, J, trivial⟩, jP, ⟨om, lN hds om ho, by simp; omega, om, om⟩, by show ns.length - (i + 1) < ns.length - i; omega⟩
end Go.Proofs.Ytcblgjaomljikaa
namespace Go.Proofs.Ytcblgjaomljikaa
open Go.Ab Go.RowKit
theorem fam_both {h' : Hp} {a : Nat → Nat} {es : List (List NM)} {q i n m n0 : Nat} (hfa : ∀ t, t < i → n0 ≤ a t ∧ a t < n ∧ a t ≠ q) (ho : ∀ t x, opN (28) (es.getD t []) = some x → es.getD t [] ≠ []) (hl : es.length = i) (hq : q < n) (hm : n ≤ m) : Both m (appH [] (famH a (fun t => opN (28) (es.getD t [])) (outH q 1 (41) (rwC a es) []) i)) h' (famH a (fun t => opN (28) (es.getD t [])) (outH q 1 (41) (rwC a es) []) i) := .old (fun r o hr => by
 apply Classical.byContradiction
 intro hn
 have hr2 := (eB (a := a) (o := fun t => opN (28) (es.getD t [])) (h := outH q 1 (41) (rwC a es) []) (q := r) i (fun t ht => by have := hfa t ht; omega)).symm.trans hr
 rw [cC om rfl] at hr2
 cases hr2)
theorem mouts_own (n0 : Nat) (k : Nat) (ns : List X1) (ln : ns.length < 1099511627776) (lr : ∀ r, r ∈ ns → r.2.length < 1099511627776) : WC Try.prog T E0 Try.f88.ntmps (codeOf Try.f88) (argsEnv 0 [.sl k (ns.map fX)]) [] n0 (fun x e' h' n' => (x = .normal ∨ x = .ret) ∧ n0 ≤ n' ∧ ∃ (q : Nat) (a : Nat → Nat), resE e' T h' Try.f88.results.toList = some [outV q 1 (rwC a ((ns.mapM fun r : X1 => r.2.mapM fun x : X => outN x.1).getD [])), .v (.int .i64 (if ((ns.mapM fun r : X1 => r.2.mapM fun x : X => outN x.1)).isSome = true then (0 : Int) else 3))] ∧ OwnM h' (41) (28) n0 n' q a ((ns.mapM fun r : X1 => r.2.mapM fun x : X => outN x.1).getD [])) := by
 change WC _ _ _ _ _ [(0, .sl k (ns.map fX))] _ _ _
 refine Rg 2 J <| Ua J J <| Ua J J <| Wn <| Rg 1 J <| Ua J J <| Wn <| aB <| Rg 3 J <| Um J J <| aA (bD J J) J <| Um J J <| Wn <| aI <| aX (α := Nat × Nat × (List (List NM)) × (Nat → Nat)) (fun ⟨i, q, es, a⟩ => [(4, outV q 1 (rwC a es)), (9, .sl k (ns.map fX)), (10, .v (.int .i64 (ns.length : Int))), (11, .v (.int .i64 (i : Int)))]) (fun ⟨i, q, es, a⟩ => famH a (fun t => opN (28) (es.getD t [])) (outH q 1 (41) (rwC a es) []) i) (fun ⟨i, q, es, a⟩ n => i ≤ ns.length ∧ (ns.take i).mapM (fun r : X1 => r.2.mapM fun x : X => outN x.1) = some es ∧ es.length = i ∧ n0 ≤ q ∧ q < n ∧ (∀ t, t < i → n0 ≤ a t ∧ a t < n ∧ a t ≠ q) ∧ ∀ s t, s < i → t < i → a s = a t → s = t) (fun ⟨i, q, es, a⟩ => ns.length - i) (0, n0, [], fun _ => 0) ⟨J, J, J, J, trivial⟩ trivial ⟨Nat.zero_le _, by simp, rfl, om, om, fun t ht => absurd ht om, fun s t hs => absurd hs om⟩ ?_
 rintro ⟨i, q, es, a⟩ n hF
 change WC _ _ _ _ _ [(4, outV q 1 (rwC a es)), (9, .sl k (ns.map fX)), (10, .v (.int .i64 (ns.length : Int))), (11, .v (.int .i64 (i : Int)))] (famH a (fun t => opN (28) (es.getD t [])) (outH q 1 (41) (rwC a es) []) i) n _
 obtain ⟨hi, hes, hlen, hq0, hq, hfa, hinj⟩ := hF
 refine Rg 1 J <| aA (bU J J) J <| bE (fun h12 => ?_) (fun h12 => ?_)
 rotate_left
 ·refine Wn <| aT J <| aU <| aN <| aO J <| Rg 3 J <| Um J J <| Ua J J <| Ua J J <| Wn <| aP ?_
  rw [List.take_of_length_le om] at hes
  refine ⟨.inr J, om, q, a, by rw [hes]; rfl, ?_⟩
  rw [hes]
  refine ⟨hq0, om, fun t ht => by have := hfa t (by rw [← hlen]; exact ht); omega, fun s t hs ht e => hinj s t (by rw [← hlen]; exact hs) (by rw [← hlen]; exact ht) e, fun hne => ?_, fun t ht hne => ?_⟩
  ·refine (eB _ (fun t ht => by have := hfa t ht; omega)).trans ?_
   have h3 : rwC a es ≠ [] := fun h => hne (List.eq_nil_of_length_eq_zero (by show es.length = 0; rw [← iW a es, h]; rfl))
   rw [bM h3]; exact g0
  ·exact kU _ (by rw [← hlen]; exact ht) (opN_ne hne) (fun s hs e => hinj s t hs (by rw [← hlen]; exact ht) e)
 refine Wn <| aR J <| aE <| aI <| Rg 3 J <| aA (bS J J J J J om J) J <| aA (dL (l := .sl (ns.getD i default).1 ((ns.getD i default).2.map xc)) J J J) J <| Ua J J <| dA ?_
 have hm := bA (us := ns) (i := i) om
 refine eE (z := 7) J <| bV (dU J) J <| WN.F (cal := .func 93) (first := []) (cap := []) (ls := [.sl (ns.getD i default).1 ((ns.getD i default).2.map xc)]) (as_ := [.sl (ns.getD i default).1 ((ns.getD i default).2.map xc)]) (Φ := fun r h' n' => ∃ b, r = .tup [outV b 2 ((((ns.getD i default).2.mapM fun x : X => outN x.1).getD []).map mc), .v (.int .i64 (if (((ns.getD i default).2.mapM fun x : X => outN x.1)).isSome = true then (0 : Int) else 3))] ∧ n + 1 + 3 + 7 ≤ b ∧ b < n' ∧ n + 1 + 3 + 7 ≤ n' ∧ ((((ns.getD i default).2.mapM fun x : X => outN x.1).getD []) ≠ [] → getH h' b = some { cells := ((((ns.getD i default).2.mapM fun x : X => outN x.1).getD []).map mc).flatten, sz := 2, elem := (28), st := 0 })) [] J J (gH (ls := [.sl (ns.getD i default).1 ((ns.getD i default).2.map xc)]) (aQ (by intro c hc; simp only [List.mem_cons, List.not_mem_nil, or_false] at hc; rcases hc with rfl; exact (.sl _ _ fun row hr => aW jI row hr)))) (by intro p hp; cases hp) Try.func93 J J (dM J) J ((oT (n + 1 + 3 + 7) (ns.getD i default).1 (ns.getD i default).2 (lr _ hm)).mono (by rintro x e h n' ⟨hx, h1, q, hr, h2, h3, h4⟩; exact ⟨hx, _, hr, q, rfl, h2, h3, h1, h4⟩)) ?_
 rintro r h' n1 ⟨b, rfl, hb0, hb1, hn1, hgb⟩
 refine ⟨outH b 2 (28) ((((ns.getD i default).2.mapM fun x : X => outN x.1).getD []).map mc) (famH a (fun t => opN (28) (es.getD t [])) (outH q 1 (41) (rwC a es) []) i), ?_, ?_⟩
 ·cases hro : (((ns.getD i default).2.mapM fun x : X => outN x.1).getD []) with
  | nil => exact fam_both hfa (fun t x hx => (nO hx).1) hlen om om
  | cons u us => exact .cons (.inr ⟨hb0, by rw [hro] at hgb; exact hgb (by simp)⟩) (fam_both hfa (fun t x hx => (nO hx).1) hlen om om)
 refine bV (dU J) J <| bV (cW J J) J <| bV (cW J J) J <| bV (fR J) J <| bV (fR J) J <| eH <| Ck [4,7,8,9,10,11] J <| aB <| Rg 2 J <| Um J J <| aA (dV J J) J <| bE (fun h21 => ?_) (fun h21 => ?_)
 ·refine Wn <| aR J <| aB ?_
  have hno2 : ((ns.getD i default).2.mapM fun x : X => outN x.1) = none := by
   cases ho : ((ns.getD i default).2.mapM fun x : X => outN x.1) with
   | none => rfl
   | some _ => rw [ho] at h21; exact absurd rfl h21
  have hno : (ns.mapM fun r : X1 => r.2.mapM fun x : X => outN x.1) = none := qM (i := i) om hno2
  refine Rg 3 J <| Um J J <| Ua J J <| Ua J J <| Wn <| bC <| aS <| bO <| aS <| ⟨.inr J, om, q, a, ?_, ?_⟩
  ·rw [hno]
   first | rfl | (rw [hno2]; rfl)
  ·rw [hno]; exact .nil hq0 om
 refine Wn <| aT J <| aE ?_
 obtain ⟨o, ho⟩ : ∃ o, ((ns.getD i default).2.mapM fun x : X => outN x.1) = some o := by
  cases ho : ((ns.getD i default).2.mapM fun x : X => outN x.1) with
  | none => rw [ho] at h21; exact absurd (by decide) h21
  | some o => exact ⟨o, rfl⟩
 rw [show (((ns.getD i default).2.mapM fun x : X => outN x.1).getD []) = o by rw [ho]; rfl]
 refine aJ (z := 5) J <| Um J J <| aA (bG (b := outV b 2 (o.map mc)) (dU J) J) J <| aA (dJ (cs := [outV b 2 (o.map mc)]) (rows := [[outV b 2 (o.map mc)]]) J J (by decide) J (by generalize o.map mc = z; cases z <;> rfl) J) J <| fF _ (subsM.get (bF (q := q) (sz := 1) (el := (41)) (us := rwC a es) (h := outH b 2 (28) (o.map mc) (famH a (fun t => opN (28) (es.getD t [])) ([]) i)) (fun hne => by rw [bM hne]; repeat (first | exact g0 | refine g1 om ?_ | refine aD om ?_ | refine (eB _ (fun t ht => by have := hfa t ht; omega)).trans ?_)) (bF (fun hne => by rw [bM hne]; repeat (first | exact g0 | refine g1 om ?_ | refine aD om ?_ | refine (eB _ (fun t ht => by have := hfa t ht; omega)).trans ?_)) (mO _ (fun t ht x hx => by have := hfa t ht; repeat (first | exact kU _ ht hx (fun s hs e => hinj s t hs ht e) | refine g1 om ?_ | refine aD om ?_)) trivial)))) ?_
 refine WO.ap (te := ti41) (q := q) (us := rwC a es) J J J J J (by decide) (by intro r hr; rw [List.mem_singleton] at hr; subst hr; rfl) rwC_row (by simp) (by rw [iW, hlen]; show (2 * (i + 1) + 256) * 24 ≤ _; omega) (by rw [iW, hlen]; show i + 1 < _; omega) (by repeat (first | rfl | refine gN om ?_ | refine cC om ?_ | refine (eB _ (fun t ht => by have := hfa t ht; omega)).trans ?_)) (by repeat (first | rfl | refine gN om ?_ | refine cC om ?_ | refine (eB _ (fun t ht => by have := hfa t ht; omega)).trans ?_)) J ?_
 refine Ua J J <| Wn <| aG <| aJ (z := 2) J <| aA (cI (((i + 1 : Nat) : Int)) (aV J J om) om) J <| Um J J <| Wn <| aF ?_
 have ea := rwC_snoc (a := a) (o := o) (b := b) hlen
 refine ⟨⟨i + 1, n1 + 2 + 3, es ++ [o], fun t => if t = i then b else a t⟩, ⟨congrArg some (by rw [ea]; rfl), rfl, rfl, rfl, trivial⟩, ?_, ⟨om, lN hes om ho, by rw [List.length_append, hlen]; rfl, om, om, fun t ht => ?_, fun s t hs ht e => ?_⟩, by show ns.length - (i + 1) < ns.length - i; omega⟩
 ·dsimp only
  rw [ea]
  refine mO _ (fun t ht x hx => ?_) (bF (fun hne => by rw [bM hne]; repeat (first | exact g0 | refine g1 om ?_ | refine aD om ?_ | refine (eB _ (fun t ht => by have := hfa t ht; omega)).trans ?_)) trivial)
  rw [getD_snoc hlen] at hx
  by_cases e : t = i
  ·rw [if_pos e] at hx ⊢
   obtain ⟨h1, rfl⟩ := nO hx
   refine aD om ?_
   rw [bM (fun h2 => h1 (List.map_eq_nil_iff.1 h2))]
   exact g0
  ·rw [if_neg e] at hx ⊢
   have ht' : t < i := by omega
   have := hfa t ht'
   repeat (first | exact kU _ ht' hx (fun s hs e => hinj s t hs ht' e) | refine g1 om ?_ | refine aD om ?_)
 ·dsimp only
  by_cases e : t = i
  ·rw [if_pos e]; omega
  ·rw [if_neg e]; have := hfa t om; omega
 ·dsimp only at e
  by_cases e1 : s = i <;> by_cases e2 : t = i
  ·omega
  ·rw [if_pos e1, if_neg e2] at e; have := hfa t om; omega
  ·rw [if_neg e1, if_pos e2] at e; have := hfa s om; omega
  ·rw [if_neg e1, if_neg e2] at e; exact hinj s t om om e
end Go.Proofs.Ytcblgjaomljikaa
namespace Go.Proofs.Ytcblgjaomljikaa
open Go.Ab Go.RowKit
theorem copy_run (k : Nat) (ss : List Go.Ab.ST) (hb1 : ss.length ≤ 1000) (hb2 : ∀ x, x ∈ ss → x.2.2.length ≤ 1000 ∧ ∀ c, c ∈ x.2.2 → c.2.2.length ≤ 1000) : Run Try.prog T E0 (.call 16 [lvMo k ss] (lvMo (kd ss.length) (cpM ss))) := by
 refine bK Try.func16 J J (dM J) <| Rg 2 J <| bB (eG J J) J <| bB (dS J) J <| Wn <| Rg 3 J <| aA (kH (cs := [_]) J J J J J) J <| bB (dS J) J <| aZ (cO (cs' := [_]) J J J g0 J J J J) <| Wn <| aB <| Rg 4 J <| aA (bH J J J J J) J <| aA (aL J J gG J J) J ?_
 refine aA (bD J J) J <| Um J J <| Wn <| aI <| aX (α := Nat × Nat) (fun ⟨i, q⟩ => [(2, .ptr 1 0), (3, .ptr 3 0), (11, .sl k (ss.map stc)), (12, .v (.int .i64 (ss.length : Int))), (13, .v (.int .i64 (i : Int)))]) (fun ⟨i, q⟩ => outH q 3 (40) ((tab i (fun t => cpS (ss.getD t default))).map stc) [(3, { cells := [outV q 3 ((tab i (fun t => cpS (ss.getD t default))).map stc)], sz := 1, elem := (26), st := 0 }), (1, { cells := [.sl 0 []], sz := 1, elem := (26), st := 0 })]) (fun ⟨i, q⟩ n => i ≤ ss.length ∧ 4 < q ∧ q < n) (fun ⟨i, q⟩ => ss.length - i) (0, 5) ⟨J, J, J, J, J, trivial⟩ ⟨gG, gG, trivial⟩ ⟨Nat.zero_le _, om, om⟩ ?_
 rintro ⟨i, q⟩ n hF
 change WC _ _ _ _ _ (_ :: _) (outH _ _ _ _ _) n _
 obtain ⟨hi, hq0, hq⟩ := hF
 obtain ⟨nK, hnK⟩ : ∃ z, z = n := ⟨n, rfl⟩
 subst hnK
 refine Rg 1 J <| aA (bU J J) J <| bE (fun h14 => ?_) (fun h14 => ?_)
 rotate_left
 ·refine Wn <| aT J <| aU <| aN <| aO J <| Rg 2 J <| aA (aL (l := .agg [_]) J J (by repeat (first | exact g0 | refine g1 om ?_ | refine aD om ?_)) J J) J ?_
  refine aZ (cO (cs' := [_]) J J J (by repeat (first | exact g0 | refine g1 om ?_ | refine aD om ?_)) J J J J) ?_
  refine Wn <| aP ?_
  obtain rfl : i = ss.length := by omega
  have hU : tab ss.length (fun t => cpS (ss.getD t default)) = cpM ss := eW (by rw [cK, WL_cp]) fun t ht => by
   rw [cK] at ht
   rw [oC _ ht]; exact (pX (f := cpS) ht).symm
  rw [hU]
  rw [show lvMo (kd ss.length) (cpM ss) = .agg [outR ((cpM ss).map stc)] by rw [iC, WL_cp]; rfl]
  exact postOutA (n := 0) (.inr J) (resE_cell J J g0 J J) (fun hne => g1 om (by rw [bM hne]; exact g0)) (by decide) (bL (f := stc) (n := 3) fun _ => rfl) (aW (f := stc) pF)
 refine Wn <| aR J <| aE <| aI ?_
 have hm := bA (us := ss) (i := i) om
 have hcl := hb2 _ hm
 refine Rg 4 J <| aA (bS J J J J J om J) J <| aA (dL (l := .agg (stc (ss.getD i default))) J J J) J <| bB (dS J) J <| aZ (cO (cs' := stc (ss.getD i default)) J J J g0 J J J J) <| Wn <| Rg 7 J <| aA (bH J J J J J) J <| aA (aL J J gG J J) J ?_
 refine aA (bH J J J J J) J <| aA (aL J J gG J J) J ?_
 refine aA (kH (cs := [_, _, _]) J J J J J) J <| bB (dS J) J <| aZ (cO (cs' := [_, _, _]) J J J g0 J J J J) <| Nk [2,3,5,6,11,12,13] J <| aB <| Rg 4 J <| aA (bH J J J J J) J <| aA (aL J J gG J J) J ?_
 refine aA (bD J J) J <| Um J J <| Wn <| aI <| aX (α := Nat × Nat) (fun ⟨j, q2⟩ => [(2, .ptr 1 0), (3, .ptr 3 0), (6, .ptr (nK + 1 + 4 + 5) 0), (11, .sl k (ss.map stc)), (12, .v (.int .i64 (ss.length : Int))), (13, .v (.int .i64 (i : Int))), (23, .sl (ss.getD i default).2.1 ((ss.getD i default).2.2.map chc)), (24, .v (.int .i64 ((ss.getD i default).2.2.length : Int))), (25, .v (.int .i64 (j : Int)))]) (fun ⟨j, q2⟩ => outH q2 3 (37) ((tab j (fun t => cpC ((ss.getD i default).2.2.getD t default))).map chc) (((nK + 1 + 4 + 5), { cells := [.v (.int .i64 (ss.getD i default).1.1), .v (.int .i64 (ss.getD i default).1.2), outV q2 3 ((tab j (fun t => cpC ((ss.getD i default).2.2.getD t default))).map chc)], sz := 3, elem := (40), st := 0 }) :: outH q 3 (40) ((tab i (fun t => cpS (ss.getD t default))).map stc) [(3, { cells := [outV q 3 ((tab i (fun t => cpS (ss.getD t default))).map stc)], sz := 1, elem := (26), st := 0 }), (1, { cells := [.sl 0 []], sz := 1, elem := (26), st := 0 })])) (fun ⟨j, q2⟩ n => j ≤ (ss.getD i default).2.2.length ∧ nK + 14 < q2 ∧ q2 < n ∧ nK + 16 ≤ n) (fun ⟨j, q2⟩ => (ss.getD i default).2.2.length - j) (0, nK + 15) ⟨J, J, J, J, J, J, J, J, J, trivial⟩ ⟨(by repeat (first | exact g0 | refine g1 om ?_ | refine aD om ?_)), (bF (fun hne => by rw [bM hne]; repeat (first | exact g0 | refine g1 om ?_ | refine aD om ?_)) ⟨(by repeat (first | exact g0 | refine g1 om ?_ | refine aD om ?_)), (by repeat (first | exact g0 | refine g1 om ?_ | refine aD om ?_)), trivial⟩)⟩ ⟨Nat.zero_le _, om, om, om⟩ ?_
 rintro ⟨j, q2⟩ n hF
 change WC _ _ _ _ _ (_ :: _) (outH _ _ _ _ _) n _
 obtain ⟨hj, hq1, hq2, hn2⟩ := hF
 have h6 : nK + (1 + (4 + 5)) < n := by omega
 have h62 : nK + (1 + (4 + 5)) ≠ q2 := by omega
 refine fI (z := 1) J <| aA (bU J J) J <| bE (fun h26 => ?_) (fun h26 => ?_)
 rotate_left
 ·refine dA ?_
  have hje : j = (ss.getD i default).2.2.length := by omega
  have hK : (tab j (fun t => cpC ((ss.getD i default).2.2.getD t default))) = ((ss.getD i default).2.2.map cpC) := eW (by rw [cK, List.length_map]; exact hje) fun t ht => by
   rw [cK] at ht
   rw [oC _ ht, pX (f := cpC) om]
  rw [hK]
  refine Fz.cellR (A := [_, _]) [(2, _), (3, _), (6, _), (11, _), (12, _), (13, _), (23, _), (24, _), (25, _), (26, _)] ⟨J, J, J, J, J, J, J, J, J, J, trivial⟩ om (by decide) (bL (f := chc) (n := 3) fun _ => rfl) (aW dchc1) (by repeat (first | rfl | refine gN om ?_ | refine cC om ?_)) ?_
  rw [iC, List.length_map]
  refine aT J <| aU <| aN <| aO J <| aJ (z := 7) J <| aA (bH J J J J J) J <| aA (aL J J (by repeat (first | exact g0 | refine g1 om ?_ | refine aD om ?_)) J J) J ?_
  refine aA (aL (l := .agg (stc (cpS (ss.getD i default)))) J J (by repeat (first | exact g0 | refine g1 om ?_ | refine aD om ?_)) J J) J ?_
  refine aA (dJ (cs := [_, _, _]) (rows := [[_, _, _]]) J J (by decide) J J J) J <| fF _ (subsM.get (bF (q := q) (sz := 3) (el := (40)) (us := (tab i (fun t => cpS (ss.getD t default))).map stc) (h := [(3, { cells := [outV q 3 ((tab i (fun t => cpS (ss.getD t default))).map stc)], sz := 1, elem := (26), st := 0 }), (1, { cells := [.sl 0 []], sz := 1, elem := (26), st := 0 })]) (fun hne => by rw [bM hne]; repeat (first | exact g0 | refine g1 om ?_ | refine aD om ?_)) ⟨(by repeat (first | exact g0 | refine g1 om ?_ | refine aD om ?_)), (by repeat (first | exact g0 | refine g1 om ?_ | refine aD om ?_)), trivial⟩)) ?_
  refine gD (te := ti40) (f := stc) (q := q) (us := (tab i (fun t => cpS (ss.getD t default)))) (u := cpS (ss.getD i default)) J J J J J (fun _ => rfl) (by decide) (by rw [cK]; show (2 * (i + 1) + 256) * 40 ≤ _; omega) (by rw [cK]; omega) (by repeat (first | rfl | refine gN om ?_ | refine cC om ?_)) (by repeat (first | rfl | refine gN om ?_ | refine cC om ?_)) J ?_
  refine aA (bH J J J J J) J <| aZ (oStV J J J J J (by repeat (first | exact g0 | refine g1 om ?_ | refine aD om ?_))) ?_
  refine Wn <| aG <| Ck [2,3,11,12,13] J <| aJ (z := 2) J <| aA (cI (((i + 1 : Nat) : Int)) (aV J J om) om) J <| Um J J <| Wn <| aF ?_
  have ea : tab (i + 1) (fun t => cpS (ss.getD t default)) = (tab i (fun t => cpS (ss.getD t default))) ++ [cpS (ss.getD i default)] := gA _
  refine ⟨⟨i + 1, (n + 1 + 4)⟩, ⟨J, J, J, J, J, trivial⟩, by dsimp only; rw [ea]; exact bF (fun hne => by rw [bM hne]; repeat (first | exact g0 | refine g1 om ?_ | refine aD om ?_)) ⟨(by repeat (first | exact g0 | refine g1 om ?_ | refine aD om ?_)), (by repeat (first | exact g0 | refine g1 om ?_ | refine aD om ?_)), trivial⟩, ⟨om, om, om⟩, by show ss.length - (i + 1) < ss.length - i; omega⟩
 refine Wn <| Fz.same [(2, _), (3, _), (6, _), (11, _), (12, _), (13, _), (23, _), (24, _), (25, _), (26, _)] _ ⟨J, J, J, J, J, J, J, J, J, J, trivial⟩ (fun _ _ h => h) <| aR J <| aE <| aI ?_
 have hmc := bA (us := (ss.getD i default).2.2) (i := j) om
 have hbs := hcl.2 _ hmc
 refine Rg 4 J <| aA (bS J J J J J om J) J <| aA (dL (l := lvC ((ss.getD i default).2.2.getD j default)) J J J) J <| bB (dS J) J <| aZ (cO (cs' := chc ((ss.getD i default).2.2.getD j default)) J J J g0 J J J J) <| Wn <| jB (z := 13) J kR <| aH (bH J J J J J) J <| aH (aL J J (by repeat (first | exact g0 | refine g1 om ?_ | refine aD om ?_)) J J) J ?_
 refine aH (bH J J J J J) J <| aH (aL (l := lvM ((ss.getD i default).2.2.getD j default).1) J J (by repeat (first | exact g0 | refine g1 om ?_ | refine aD om ?_)) J J) J ?_
 refine aH (dJ (cs := []) (rows := []) J J (by decide) J J J) J <| aH (bH J J J J J) J <| aH (aL J J (by repeat (first | exact g0 | refine g1 om ?_ | refine aD om ?_)) J J) J ?_
 refine WD.apK (te := ti34) (k0 := 2) (rows := (((ss.getD i default).2.2.getD j default).2.2.map brc)) (.inr J) J J J J J (by decide) (bL (f := brc) (n := 3) fun _ => rfl) (by rw [List.length_map]; show (2 * ((ss.getD i default).2.2.getD j default).2.2.length + 256) * 24 ≤ _; omega) (by rw [List.length_map]; omega) J <| aH (kH (cs := [.v (.int .i64 ((ss.getD i default).2.2.getD j default).1.1), .v (.int .i64 ((ss.getD i default).2.2.getD j default).1.2), (outK 2 (n + 1 + 4 + 7) 3 (((ss.getD i default).2.2.getD j default).2.2.map brc))]) J J J J (by generalize (((ss.getD i default).2.2.getD j default).2.2.map brc) = z; cases z <;> rfl)) J <| aH (dJ (cs := [.v (.int .i64 ((ss.getD i default).2.2.getD j default).1.1), .v (.int .i64 ((ss.getD i default).2.2.getD j default).1.2), (outK 2 (n + 1 + 4 + 7) 3 (((ss.getD i default).2.2.getD j default).2.2.map brc))]) (rows := [[.v (.int .i64 ((ss.getD i default).2.2.getD j default).1.1), .v (.int .i64 ((ss.getD i default).2.2.getD j default).1.2), (outK 2 (n + 1 + 4 + 7) 3 (((ss.getD i default).2.2.getD j default).2.2.map brc))]]) J J (by decide) J (by generalize (((ss.getD i default).2.2.getD j default).2.2.map brc) = z; cases z <;> rfl) J) J ?_
 refine iK _ (subsM.get (bF (q := q2) (sz := 3) (el := (37)) (us := ((tab j (fun t => cpC ((ss.getD i default).2.2.getD t default))).map chc)) (h := outH (n + 1 + 4 + 7) 3 (34) (((ss.getD i default).2.2.getD j default).2.2.map brc) (((n + 1 + 2), { cells := chc ((ss.getD i default).2.2.getD j default), sz := 3, elem := (37), st := 0 }) :: ((nK + 1 + 4 + 5), { cells := [.v (.int .i64 (ss.getD i default).1.1), .v (.int .i64 (ss.getD i default).1.2), outV q2 3 ((tab j (fun t => cpC ((ss.getD i default).2.2.getD t default))).map chc)], sz := 3, elem := (40), st := 0 }) :: outH q 3 (40) ((tab i (fun t => cpS (ss.getD t default))).map stc) [(3, { cells := [outV q 3 ((tab i (fun t => cpS (ss.getD t default))).map stc)], sz := 1, elem := (26), st := 0 }), (1, { cells := [.sl 0 []], sz := 1, elem := (26), st := 0 })])) (fun hne => by rw [bM hne]; repeat (first | exact g0 | refine g1 om ?_ | refine aD om ?_)) (bF (fun hne => by rw [bM hne]; repeat (first | exact g0 | refine g1 om ?_ | refine aD om ?_)) ⟨(by repeat (first | exact g0 | refine g1 om ?_ | refine aD om ?_)), (by repeat (first | exact g0 | refine g1 om ?_ | refine aD om ?_)), (bF (fun hne => by rw [bM hne]; repeat (first | exact g0 | refine g1 om ?_ | refine aD om ?_)) ⟨(by repeat (first | exact g0 | refine g1 om ?_ | refine aD om ?_)), (by repeat (first | exact g0 | refine g1 om ?_ | refine aD om ?_)), trivial⟩)⟩))) ?_
 refine qU (te := ti37) (k0 := 0) (us := ((tab j (fun t => cpC ((ss.getD i default).2.2.getD t default))).map chc)) (rows := [[.v (.int .i64 ((ss.getD i default).2.2.getD j default).1.1), .v (.int .i64 ((ss.getD i default).2.2.getD j default).1.2), (outK 2 (n + 1 + 4 + 7) 3 (((ss.getD i default).2.2.getD j default).2.2.map brc))]]) (.inl J) J J J (by rw [iI]; rfl) J (by decide) (by intro r hr; rw [List.mem_singleton] at hr; subst hr; rfl) (bL (f := chc) (n := 3) fun _ => rfl) (by simp) (by rw [List.length_map, cK]; show (2 * (j + 1) + 256) * 40 ≤ _; omega) (by rw [List.length_map, cK]; show j + 1 < _; omega) (by repeat (first | rfl | refine gN om ?_ | refine cC om ?_)) J ?_
 refine aH (bH J J J J J) J <| cR (cO (cs' := [_, _, _]) J J J (by repeat (first | exact g0 | refine g1 om ?_ | refine aD om ?_)) J J J J) ?_
 refine bJ (dR (rq q2 n) (by simp only [List.reverse_cons, List.reverse_nil, List.nil_append, List.cons_append, List.map_cons, List.map_nil, ren, keys, Nat.add_assoc, rq_self, rq_lt h6 h62, rq_add hq2]; kernel_rfl)) J <| Fz.weakH (outH (n + 1 + 4 + 7) 3 (34) (((ss.getD i default).2.2.getD j default).2.2.map brc) (((n + 1 + 4 + 10), { cells := (((tab j (fun t => cpC ((ss.getD i default).2.2.getD t default))).map chc).flatten ++ [LV.v (.int .i64 ((ss.getD i default).2.2.getD j default).1.1), .v (.int .i64 ((ss.getD i default).2.2.getD j default).1.2)]) ++ [(outK 2 (n + 1 + 4 + 7) 3 (((ss.getD i default).2.2.getD j default).2.2.map brc))], sz := 3, elem := (37), st := 0 }) :: ((nK + 1 + 4 + 5), { cells := [.v (.int .i64 (ss.getD i default).1.1), .v (.int .i64 (ss.getD i default).1.2), .ref (n + 1 + 4 + 10) 3 0 (((tab j (fun t => cpC ((ss.getD i default).2.2.getD t default))).map chc).length + 1)], sz := 3, elem := (40), st := 0 }) :: outH q 3 (40) ((tab i (fun t => cpS (ss.getD t default))).map stc) [(3, { cells := [outV q 3 ((tab i (fun t => cpS (ss.getD t default))).map stc)], sz := 1, elem := (26), st := 0 }), (1, { cells := [.sl 0 []], sz := 1, elem := (26), st := 0 })])) (subsM.get (bF (fun hne => by rw [bM hne]; repeat (first | exact g0 | refine g1 om ?_ | refine aD om ?_)) ⟨by rw [List.append_assoc]; exact (by repeat (first | exact g0 | refine g1 om ?_ | refine aD om ?_)), (by repeat (first | exact g0 | refine g1 om ?_ | refine aD om ?_)), (bF (fun hne => by rw [bM hne]; repeat (first | exact g0 | refine g1 om ?_ | refine aD om ?_)) ⟨(by repeat (first | exact g0 | refine g1 om ?_ | refine aD om ?_)), (by repeat (first | exact g0 | refine g1 om ?_ | refine aD om ?_)), trivial⟩)⟩)) ?_
 refine Fz.copyC [(2, _), (3, _), (6, _), (11, _), (12, _), (13, _), (23, _), (24, _), (25, _)] ⟨J, J, J, J, J, J, J, J, J, trivial⟩ om (by decide) (bL (f := brc) (n := 3) fun _ => rfl) dbrc (by repeat (first | rfl | refine gN om ?_ | refine cC om ?_)) ?_
 rw [List.length_map]
 refine aG <| aJ (z := 2) J <| aA (cI (((j + 1 : Nat) : Int)) (aV J J om) om) J <| Um J J <| Wn <| aF ?_
 have eu : tab (j + 1) (fun t => cpC ((ss.getD i default).2.2.getD t default)) = (tab j (fun t => cpC ((ss.getD i default).2.2.getD t default))) ++ [cpC ((ss.getD i default).2.2.getD j default)] := gA _
 refine ⟨⟨j + 1, (n + 1 + 4 + 10)⟩, ⟨J, J, J, J, J, J, J, J, J, trivial⟩, by dsimp only; rw [eu, List.map_append, List.map_cons, List.map_nil, iH, outV_snoc]; exact ⟨(Eq.trans (by repeat (first | exact g0 | refine g1 om ?_ | refine aD om ?_)) (congrArg (fun z => some (Ob.mk z 3 (37) 0)) (List.append_assoc _ _ _))), (by repeat (first | exact g0 | refine g1 om ?_ | refine aD om ?_)), (bF (fun hne => by rw [bM hne]; repeat (first | exact g0 | refine g1 om ?_ | refine aD om ?_)) ⟨(by repeat (first | exact g0 | refine g1 om ?_ | refine aD om ?_)), (by repeat (first | exact g0 | refine g1 om ?_ | refine aD om ?_)), trivial⟩)⟩, ⟨om, om, om, om⟩, by show (ss.getD i default).2.2.length - (j + 1) < (ss.getD i default).2.2.length - j; omega⟩
end Go.Proofs.Ytcblgjaomljikaa
namespace Go.Proofs.Ytcblgjaomljikaa
open Go.Ab Go.RowKit
theorem ident_run (k k' : Nat) (ss : List Go.Ab.ST) (hb1 : ss.length ≤ 1000) (hb2 : ∀ x, x ∈ ss → x.2.2.length ≤ 1000 ∧ ∀ c, c ∈ x.2.2 → c.2.2.length ≤ 1000) : Run Try.prog T E0 (.call 21 [lvMo k ss, lvMo k' (cpM ss)] (.v (.bool true))) := by
 refine bK Try.func21 J J (dM J) <| Rg 3 J <| bB (eG J J) J <| bB (eG J J) J <| Ua J J <| Wn <| aB <| Rg 7 J <| aA (bH J J J J J) J <| aA (aL J J gG J J) J ?_
 refine aA (bD J J) J <| aA (bH J J J J J) J <| aA (aL J J gG J J) J ?_
 refine aA (bD J J) J <| aA (bG (b := .v (.bool false)) (dV J J) (by rw [WL_cp]; simp)) J <| Wn <| aT J <| aE <| aB <| Rg 4 J <| aA (bH J J J J J) J <| aA (aL J J gG J J) J ?_
 refine aA (bD J J) J <| Um J J <| Nk [3,21,22,23] J <| aI <| aX (α := Nat) (fun i => [(3, .ptr 1 0), (21, .sl k (ss.map stc)), (22, .v (.int .i64 (ss.length : Int))), (23, .v (.int .i64 (i : Int)))]) (fun i => [(1, { cells := [.sl k' ((cpM ss).map stc)], sz := 1, elem := (26), st := 0 })]) (fun i n => i ≤ ss.length ∧ 2 < n) (fun i => ss.length - i) (0) ⟨J, J, J, J, trivial⟩ ⟨gG, trivial⟩ ⟨Nat.zero_le _, om⟩ ?_
 rintro i n hF
 change WC _ _ _ _ _ (_ :: _) (_ :: _) n _
 obtain ⟨hi, hn0⟩ := hF
 obtain ⟨nK, hnK⟩ : ∃ z, z = n := ⟨n, rfl⟩
 subst hnK
 refine Rg 1 J <| aA (bU J J) J <| bE (fun h24 => ?_) (fun h24 => ?_)
 rotate_left
 ·refine Wn <| aT J <| aU <| aN <| aO J <| Rg 1 J <| Ua J J <| Wn <| aP <| post (n := 0) (.inr J) J ?_ dD
  rfl
 refine Wn <| aR J <| aE <| aI ?_
 have hm := bA (us := ss) (i := i) om
 have hcl := hb2 _ hm
 refine Rg 6 J <| Um J J <| aA (bS J J J J J om J) J <| aA (dL (l := .agg (stc (ss.getD i default))) J J J) J <| bB (dS J) J <| Ua J J <| aZ (cO (cs' := stc (ss.getD i default)) J J J g0 J J J J) <| Wn <| Rg 7 J <| aA (bH J J J J J) J <| aA (aL J J gG J J) J ?_
 refine Um J J <| aA (bS (us := cpM ss) (j := i) J J J J J (by rw [WL_cp]; omega) J) J <| aA (bG (b := .agg (stc (cpS (ss.getD i default)))) (dL (l := .agg (stc ((cpM ss).getD i default))) J J J) (by rw [cpM_get om])) J <| bB (dS J) J <| aZ (cO (cs' := stc (cpS (ss.getD i default))) J J J g0 J J J J) <| Nk [3,6,7,21,22,23] J <| aB <| Rg 21 J <| aA (bH J J J J J) J <| aA (aL J J gG J J) J ?_
 refine aA (bH J J J J J) J <| aA (aL J J gG J J) J ?_
 refine aA (bG (b := .v (.bool false)) (dV J J) (by exact congrArg (fun z => LV.v (.bool z)) (decide_eq_false (fun h => h J)))) J <| Um J J <| aM J (bH J J J J J) J <| aM J (aL J J gG J J) J ?_
 refine aM J (bH J J J J J) J <| aM J (aL J J gG J J) J ?_
 refine aM J (bG (b := .v (.bool false)) (dV J J) (by exact congrArg (fun z => LV.v (.bool z)) (decide_eq_false (fun h => h J)))) J <| aA (cG J J) J <| Um J J <| aM J (bH J J J J J) J <| aM J (aL J J gG J J) J ?_
 refine aM J (bD J J) J <| aM J (bH J J J J J) J <| aM J (aL J J gG J J) J ?_
 refine aM J (bD J J) J <| aM J (bG (b := .v (.bool false)) (dV J J) (by show LV.v (.bool (decide (((ss.getD i default).2.2.length : Int) ≠ (((ss.getD i default).2.2.map cpC).length : Int)))) = _; rw [List.length_map]; simp)) J <| aA (cG J J) J <| Nk [3,6,7,21,22,23,39,40,41,42,43,46,47,48,49,50,51,52,53] J <| aT J <| aE <| Rg 4 J <| aA (bH J J J J J) J <| aA (aL J J gG J J) J ?_
 refine aA (bD J J) J <| Um J J <| Nk [3,7,21,22,23,39,40,41,42,43,46,47,48,49,50,51,52,55,56,57] J <| cN <| aX (α := Nat) (fun j => [(3, .ptr 1 0), (7, .ptr (nK + 1 + 6 + 5) 0), (21, .sl k (ss.map stc)), (22, .v (.int .i64 (ss.length : Int))), (23, .v (.int .i64 (i : Int))), (55, .sl (ss.getD i default).2.1 ((ss.getD i default).2.2.map chc)), (56, .v (.int .i64 ((ss.getD i default).2.2.length : Int))), (57, .v (.int .i64 (j : Int)))]) (fun j => [((nK + 1 + 6 + 5), { cells := stc (cpS (ss.getD i default)), sz := 3, elem := (40), st := 0 }), (1, { cells := [.sl k' ((cpM ss).map stc)], sz := 1, elem := (26), st := 0 })]) (fun j n => j ≤ (ss.getD i default).2.2.length ∧ nK + 13 ≤ n) (fun j => (ss.getD i default).2.2.length - j) (0) ⟨J, J, J, J, J, J, J, J, trivial⟩ ⟨gG, gG, trivial⟩ ⟨Nat.zero_le _, om⟩ ?_
 rintro j n hF
 change WC _ _ _ _ _ (_ :: _) (_ :: _) n _
 obtain ⟨hj, hn1⟩ := hF
 obtain ⟨nL, hnL⟩ : ∃ z, z = n := ⟨n, rfl⟩
 subst hnL
 refine Rg 1 J <| aA (bU J J) J <| bE (fun h58 => ?_) (fun h58 => ?_)
 rotate_left
 ·refine Wn <| aT J <| aU <| aN <| dO J <| aG <| aJ (z := 2) J <| aA (cI (((i + 1 : Nat) : Int)) (aV J J om) om) J <| Um J J <| Wn <| aF <| ⟨i + 1, ⟨J, J, J, J, trivial⟩, ⟨gG, trivial⟩, ⟨om, om⟩, by show ss.length - (i + 1) < ss.length - i; omega⟩
 refine Wn <| aR J <| aE <| aI ?_
 have hmc := bA (us := (ss.getD i default).2.2) (i := j) om
 have hbs := hcl.2 _ hmc
 refine Rg 6 J <| Um J J <| aA (bS J J J J J om J) J <| aA (dL (l := lvC ((ss.getD i default).2.2.getD j default)) J J J) J <| bB (dS J) J <| Ua J J <| aZ (cO (cs' := chc ((ss.getD i default).2.2.getD j default)) J J J g0 J J J J) <| Wn <| Rg 7 J <| aA (bH J J J J J) J <| aA (aL J J gG J J) J ?_
 refine Um J J <| aA (bS (us := (ss.getD i default).2.2.map cpC) (j := j) J J J J J (by rw [List.length_map]; omega) J) J <| aA (bG (b := lvC (cpC ((ss.getD i default).2.2.getD j default))) (dL (l := lvC (((ss.getD i default).2.2.map cpC).getD j default)) J J J) (by rw [pX (f := cpC) om])) J <| bB (dS J) J <| aZ (cO (cs' := chc (cpC ((ss.getD i default).2.2.getD j default))) J J J g0 J J J J) <| Nk [3,7,9,10,21,22,23,55,56,57] J <| aB <| Rg 14 J <| aA (bH J J J J J) J <| aA (aL (l := lvM ((ss.getD i default).2.2.getD j default).1) J J gG J J) J ?_
 refine aA (bH J J J J J) J <| aA (aL (l := lvM ((ss.getD i default).2.2.getD j default).1) J J gG J J) J ?_
 refine aA (bG (b := .v (.bool false)) (oNeS J J J J J) (by simp)) J <| Um J J <| aM J (bH J J J J J) J <| aM J (aL J J gG J J) J ?_
 refine aM J (bD J J) J <| aM J (bH J J J J J) J <| aM J (aL J J gG J J) J ?_
 refine aM J (bD J J) J <| aM J (bG (b := .v (.bool false)) (dV J J) (by simp [cpC])) J <| aA (cG J J) J <| Nk [3,7,9,10,21,22,23,55,56,57,73,74,75,76,77,78,79,80] J <| aT J <| aE <| Rg 4 J <| aA (bH J J J J J) J <| aA (aL J J gG J J) J ?_
 refine aA (bD J J) J <| Um J J <| Nk [3,7,10,21,22,23,55,56,57,73,74,75,76,77,78,79,82,83,84] J <| cN <| aX (α := Nat) (fun b => [(3, .ptr 1 0), (7, .ptr (nK + 1 + 6 + 5) 0), (10, .ptr (nL + 1 + 6 + 5) 0), (21, .sl k (ss.map stc)), (22, .v (.int .i64 (ss.length : Int))), (23, .v (.int .i64 (i : Int))), (55, .sl (ss.getD i default).2.1 ((ss.getD i default).2.2.map chc)), (56, .v (.int .i64 ((ss.getD i default).2.2.length : Int))), (57, .v (.int .i64 (j : Int))), (82, .sl ((ss.getD i default).2.2.getD j default).2.1 (((ss.getD i default).2.2.getD j default).2.2.map brc)), (83, .v (.int .i64 (((ss.getD i default).2.2.getD j default).2.2.length : Int))), (84, .v (.int .i64 (b : Int)))]) (fun b => [((nL + 1 + 6 + 5), { cells := chc (cpC ((ss.getD i default).2.2.getD j default)), sz := 3, elem := (37), st := 0 }), ((nK + 1 + 6 + 5), { cells := stc (cpS (ss.getD i default)), sz := 3, elem := (40), st := 0 }), (1, { cells := [.sl k' ((cpM ss).map stc)], sz := 1, elem := (26), st := 0 })]) (fun b n => b ≤ ((ss.getD i default).2.2.getD j default).2.2.length ∧ nL + 13 ≤ n) (fun b => ((ss.getD i default).2.2.getD j default).2.2.length - b) (0) ⟨J, J, J, J, J, J, J, J, J, J, J, J, trivial⟩ ⟨gG, gG, gG, trivial⟩ ⟨Nat.zero_le _, om⟩ ?_
 rintro b n hF
 change WC _ _ _ _ _ (_ :: _) (_ :: _) n _
 obtain ⟨hb, hn2⟩ := hF
 have h10 : nL + (1 + (6 + 5)) < n := by omega
 refine Rg 1 J <| aA (bU J J) J <| bE (fun h85 => ?_) (fun h85 => ?_)
 rotate_left
 ·refine Wn <| aT J <| aU <| aN <| dO J <| aG <| aJ (z := 2) J <| aA (cI (((j + 1 : Nat) : Int)) (aV J J om) om) J <| Um J J <| Wn <| aF <| ⟨j + 1, ⟨J, J, J, J, J, J, J, J, trivial⟩, ⟨gG, gG, trivial⟩, ⟨om, om⟩, by show (ss.getD i default).2.2.length - (j + 1) < (ss.getD i default).2.2.length - j; omega⟩
 refine Wn <| aR J <| aE <| aI <| Rg 6 J <| Um J J <| aA (bS J J J J J om J) J <| aA (dL (l := .agg (brc (((ss.getD i default).2.2.getD j default).2.2.getD b default))) J J J) J <| bB (dS J) J <| Ua J J <| aZ (cO (cs' := brc (((ss.getD i default).2.2.getD j default).2.2.getD b default)) J J J g0 J J J J) <| Nk [3,7,10,11,12,21,22,23,55,56,57,82,83,84] J <| bN (z := 7) J kR <| aH (aL (l := .agg (brc (((ss.getD i default).2.2.getD j default).2.2.getD b default))) J J gG J J) J ?_
 refine aH (bH J J J J J) J <| aH (aL J J gG J J) J ?_
 refine Dm J J <| aH (bS (us := ((ss.getD i default).2.2.getD j default).2.2) (j := b) J J J J J om J) J <| aH (dL (l := .agg (brc (((ss.getD i default).2.2.getD j default).2.2.getD b default))) J J J) J <| aH (bG (b := .v (.bool false)) (oNeS J J J J J) (by simp)) J <| bJ (dR (rn n) (by simp only [List.reverse_cons, List.reverse_nil, List.nil_append, List.cons_append, List.map_cons, List.map_nil, ren, keys, Nat.add_assoc, iX, rn_lt h10]; kernel_rfl)) J <| Ck [3,7,10,21,22,23,55,56,57,82,83,84,95] J <| cH J <| cM <| aG <| aJ (z := 2) J <| aA (cI (((b + 1 : Nat) : Int)) (aV J J om) om) J <| Um J J <| Wn <| aF <| ⟨b + 1, ⟨J, J, J, J, J, J, J, J, J, J, J, J, trivial⟩, ⟨gG, gG, gG, trivial⟩, ⟨om, om⟩, by show ((ss.getD i default).2.2.getD j default).2.2.length - (b + 1) < ((ss.getD i default).2.2.getD j default).2.2.length - b; omega⟩
end Go.Proofs.Ytcblgjaomljikaa
namespace Go.Proofs.Ytcblgjaomljikaa
open Go.Ab Go.RowKit
theorem nouts_ownO (k : Nat) (ns : List X) (o : List NM) (ln : ns.length < 1099511627776) (ho : (ns.mapM fun x : X => outN x.1) = some o) (hne : o ≠ []) : Run Try.prog T E0 (.callO 93 [.sl k (ns.map xc)] (.tup (.ref 0 2 0 o.length :: [.v (.int .i64 0)])) (obN (28) o)) := by
 refine mkcallOv Try.func93 J J (dM J) (.v _) J J (by intro c hc; obtain ⟨row, hr, hc⟩ := List.mem_flatten.1 hc; exact aW nB row hr c hc) <| (oT 0 k ns ln).mono ?_
 rintro x e h n ⟨hx, h1, q, hr, h2, h3, h4⟩
 rw [ho] at hr h4
 refine ⟨hx, q, ?_, h4 hne⟩
 rw [hr]
 show some [outV q 2 (o.map mc), _] = _
 rw [fE (fun h => hne (List.map_eq_nil_iff.1 h)), List.length_map]
 rfl
theorem nouts_F (n0 lo k : Nat) (ns : List X) (o : List NM) (ln : ns.length < 1099511627776) (hlo : lo ≤ n0) (ho : (ns.mapM fun x : X => outN x.1) = some o) : WC Try.prog T E0 Try.f93.ntmps (codeOf Try.f93) (argsEnv 0 [.sl k (ns.map xc)]) [] n0 (fun x e' h' n' => (x = .normal ∨ x = .ret) ∧ ∃ ls', resE e' T h' Try.f93.results.toList = some ls' ∧ PhiN (28) lo n0 o 0 (resultLV ls') h' n') := by
 refine (oT n0 k ns ln).mono ?_
 rintro x e h n ⟨hx, h1, q, hr, h2, h3, h4⟩
 rw [ho] at hr h4
 exact ⟨hx, _, hr, q, rfl, h1, om, h3, fun h => ⟨h2, h4 h⟩⟩
theorem mouts_F (n0 lo k : Nat) (ns : List X1) (o : List (List NM)) (ln : ns.length < 1099511627776) (lr : ∀ r, r ∈ ns → r.2.length < 1099511627776) (hlo : lo ≤ n0) (ho : (ns.mapM fun r : X1 => r.2.mapM fun x : X => outN x.1) = some o) : WC Try.prog T E0 Try.f88.ntmps (codeOf Try.f88) (argsEnv 0 [.sl k (ns.map fX)]) [] n0 (fun x e' h' n' => (x = .normal ∨ x = .ret) ∧ ∃ ls', resE e' T h' Try.f88.results.toList = some ls' ∧ PhiM (41) (28) lo n0 o 0 (resultLV ls') h' n') := by
 refine (mouts_own n0 k ns ln lr).mono ?_
 rintro x e h n ⟨hx, h1, q, a, hr, h2⟩
 rw [ho] at hr h2
 exact ⟨hx, _, hr, q, a, rfl, h1, h2.mono hlo (Nat.le_refl _) (fun r o _ _ h => h), fun _ => h2⟩
theorem dof_own (n0 lo k ks : Nat) (ss : List Go.Ab.ST) (f : NM) (st : List Int) (hI : ∀ s, s ∈ ss → IS s) (hf1 : I64 f.1) (hf2 : I64 f.2) (hll : st.length < 1099511627776) (hlo : lo ≤ n0) (hL : ofL ss f st ≠ []) : WC Try.prog T E0 Try.f48.ntmps (codeOf Try.f48) (argsEnv 0 [lvMo k ss, lvM f, .sl ks (st.map ic)]) [] n0 (fun x e' h' n' => (x = .normal ∨ x = .ret) ∧ ∃ ls', resE e' T h' Try.f48.results.toList = some ls' ∧ PhiN (28) lo n0 (ofL ss f st) (ofE ss f st) (resultLV ls') h' n') := by
 obtain ⟨⟨hE0, hvs⟩, o, hmo, hone, hLo, hEo⟩ := oL_ne (er := if eD ss f [] = 1 ∨ vSt ss st = false then 1 else eD ss f []) (show oL _ _ ≠ [] from hL)
 have hLo' : ofL ss f st = o := hLo
 have hEo' : ofE ss f st = 0 := hEo
 change WC _ _ _ _ _ [(0, lvMo k ss), (1, lvM f), (2, .sl ks (st.map ic))] _ _ _
 refine Rg 4 J <| bB (eG J J) J <| bB (eG J J) J <| Ua J J <| Ua J J <| Wn <| Rg 4 J <| aA (aL (l := lvMo k ss) J J gG J J) J ?_
 refine aA (aL (l := lvM f) J J gG J J) J ?_
 refine aA (aK J (eA k 0 ss f [] hI hf1 hf2 (by intro a ha; cases ha) (by decide)) (aQ (by intro c hc; simp only [List.mem_cons, List.not_mem_nil, or_false] at hc; rcases hc with rfl | rfl | rfl; exact eQ; exact eQ; exact (.sl 0 [] (by simp))))) J <| Ua J J <| Wn <| aB <| Rg 8 J <| Um J J <| aA (gB J J) J <| bE (fun h13 => ?_) (fun h13 => ?_)
 ·refine Um J J <| K1 J J <| K1 J J <| K1 J J <| K1 J J <| aA (bW J J) J <| Nk [2,3,4,8,19] J <| aR J <| aB <| Rg 2 J <| Ua J J <| Ua J J <| Wn <| bC ?_
  exact absurd hE0 om
 refine Um J J <| aM J (aL (l := lvMo k ss) J J gG J J) J ?_
 refine aM J (dU J) J <| aM J (aK J (rP k ks ss st hll) (aQ (by intro c hc; simp only [List.mem_cons, List.not_mem_nil, or_false] at hc; rcases hc with rfl | rfl; exact eQ; exact (.sl _ _ (aW mA))))) J <| fT (fun h17 => ?_) (fun h17 => ?_)
 rotate_left
 ·refine aM J (fG J) J <| aA (cG J J) J <| Nk [2,3,4,8,19] J <| aR J <| aB <| Rg 2 J <| Ua J J <| Ua J J <| Wn <| bC ?_
  rw [hvs] at h17; cases h17
 refine aM J (fG J) J <| aA (cG J J) J <| Nk [2,3,4,8,19] J <| aT J <| aE <| aB <| Rg 2 J <| Um J J <| aA (dV J J) J <| bE (fun h21 => ?_) (fun h21 => ?_)
 ·refine Wn <| aR J <| aB <| Rg 3 J <| Um J J <| Ua J J <| Ua J J <| Wn <| bC ?_
  exact absurd hE0 h21
 refine Wn <| aT J <| aE ?_
 have h0 := Classical.not_not.1 h21
 obtain ⟨hV, hvf, hall, hf0, hf3⟩ := iV h0
 have hV1 := fS hV
 have hn40 := hV1.wt.len
 have hd01 := gY hvf hf0 hf3
 have hD := gC hV hd01.1 hd01.2
 obtain ⟨_, hwr, xs, rfl, hxl, hwv, hxb⟩ := pA k ks ss (nx f) st hV hvf.bd hd01.1 hd01.2 h17
 have hwe : wor ss (nq f) st = xs.map (·.1) := wor_eq hD h17 (by rw [List.length_map]; exact hxl) hwv
 have hxo : (xs.mapM fun x : X => outN x.1) = some o := by rw [hwe, fP] at hmo; exact hmo
 refine bN (z := 10) J kR <| aH (aL (l := lvMo k ss) J J gG J J) J ?_
 refine aH (aL (l := lvM f) J J gG J J) J ?_
 refine aH (bG (b := lvX (nx f)) (aK J (dC f hf1 hf2 hvf.all3.2.2) dD) J) J <| Dm J J <| aH (aK J (hwr) (aQ (by intro c hc; simp only [List.mem_cons, List.not_mem_nil, or_false] at hc; rcases hc with rfl | rfl | rfl; exact eQ; exact eQ; exact (.sl _ _ (aW mA))))) J <| mF (oCallOF [.sl 1 (xs.map xc)] [] J (nouts_ownO 1 xs o om hxo hone) (gH (ls := [.sl 1 (xs.map xc)]) (aQ (by intro c hc; rw [List.mem_singleton] at hc; subst hc; exact (.sl _ _ fun row hr => aW jI row hr)))) (by intro p hp; cases hp)) J <| aH (cW J J) J <| aH (cW J J) J <| aH (fR J) J <| aH (fR J) J <| bJ (dR (rn n0) (by simp only [List.reverse_cons, List.reverse_nil, List.nil_append, List.cons_append, List.map_cons, List.map_nil, ren, keys, Nat.add_assoc, iX, rn_self]; kernel_rfl)) J <| Ck [6,7] J <| aP <| ⟨.inr J, _, rfl, PhiN.mk hLo' hEo' hone om hlo ?_ ?_ ?_⟩
 rotate_left 2
 ·exact gG
 ·omega
 ·omega
theorem dsteps_own (n0 lo k : Nat) (ss : List Go.Ab.ST) (f : NM) (z : Int) (hI : ∀ s, s ∈ ss → IS s) (hf1 : I64 f.1) (hf2 : I64 f.2) (hz : I64 z) (hlo : lo ≤ n0) (hL : stL ss f z ≠ []) : WC Try.prog T E0 Try.f51.ntmps (codeOf Try.f51) (argsEnv 0 [lvMo k ss, lvM f, .v (.int .i64 z)]) [] n0 (fun x e' h' n' => (x = .normal ∨ x = .ret) ∧ ∃ ls', resE e' T h' Try.f51.results.toList = some ls' ∧ PhiN (28) lo n0 (stL ss f z) (stE ss f z) (resultLV ls') h' n') := by
 obtain ⟨⟨hE0, hz0, hz1⟩, o, hmo, hone, hLo, hEo⟩ := oL_ne (er := if eD ss f [] = 0 then 6 else eD ss f []) (show oL _ _ ≠ [] from hL)
 have hLo' : stL ss f z = o := hLo
 have hEo' : stE ss f z = 0 := hEo
 change WC _ _ _ _ _ [(0, lvMo k ss), (1, lvM f), (2, .v (.int .i64 z))] _ _ _
 refine Rg 4 J <| bB (eG J J) J <| bB (eG J J) J <| Ua J J <| Ua J J <| Wn <| aB <| Rg 4 J <| aA (aL (l := lvMo k ss) J J (by repeat (first | exact g0 | refine g1 om ?_ | refine aD om ?_)) J J) J ?_
 refine aA (aL (l := lvM f) J J (by repeat (first | exact g0 | refine g1 om ?_ | refine aD om ?_)) J J) J ?_
 refine aA (aK J (eA k 0 ss f [] hI hf1 hf2 (by intro a ha; cases ha) (by decide)) (aQ (by intro c hc; simp only [List.mem_cons, List.not_mem_nil, or_false] at hc; rcases hc with rfl | rfl | rfl; exact eQ; exact eQ; exact (.sl 0 [] (by simp))))) J <| Ua J J <| Wn <| aB <| Rg 2 J <| Um J J <| aA (dV J J) J <| bE (fun h18 => ?_) (fun h18 => ?_)
 ·refine Wn <| aR J <| aB <| Rg 3 J <| Um J J <| Ua J J <| Ua J J <| Wn <| bC ?_
  exact absurd hE0 h18
 refine Wn <| aT J <| aE <| aB <| Rg 6 J <| Um J J <| aA (bU J J) J <| bE (fun h21 => ?_) (fun h21 => ?_)
 ·refine Um J J <| K1 J J <| K1 J J <| aA (bW J J) J <| Nk [2,3,4,25] J <| aR J <| aB <| Rg 2 J <| Ua J J <| Ua J J <| Wn <| bC ?_
  omega
 refine Um J J <| aM J (dU J) J <| aM J (gW J J) J <| bE (fun h24 => ?_) (fun h24 => ?_)
 ·refine aA (cG J J) J <| Nk [2,3,4,25] J <| aR J <| aB <| Rg 2 J <| Ua J J <| Ua J J <| Wn <| bC ?_
  omega
 refine aA (cG J J) J <| Nk [2,3,4,25] J <| aT J <| aE ?_
 have h0 := Classical.not_not.1 h18
 obtain ⟨hV, hvf, hall, hf0, hf3⟩ := iV h0
 have hV1 := fS hV
 have hn40 := hV1.wt.len
 have hpos := hV1.pos
 have hd01 := gY hvf hf0 hf3
 have hbd := stp_bd (d := nq f) hV hn40 hV1.cs hvf.bd
 refine WC.drawF (z := 9) J kR <| aH (bH J J J J J) J <| aH (aL J J (by repeat (first | exact g0 | refine g1 om ?_ | refine aD om ?_)) J J) J ?_
 refine aH (bD J J) J <| mF (oMk (a := ss.length) (b := ss.length) J J J J (by simp) (by simp) (by decide) om (by show 64 * ss.length ≤ _; omega) om) J <| aH (aL (l := lvM f) J J (by repeat (first | exact g0 | refine g1 om ?_ | refine aD om ?_)) J J) J ?_
 refine aH (bG (b := lvX (nx f)) (aK J (dC f hf1 hf2 hvf.all3.2.2) dD) J) J <| mF (dS J) J <| aH (fR J) J <| cR (cO (cs' := xc (nx f)) J J J g0 J J J J) <| bJ (dR (rn n0) (by simp only [List.reverse_cons, List.reverse_nil, List.nil_append, List.cons_append, List.map_cons, List.map_nil, ren, keys, Nat.add_assoc, iX, rn_self]; kernel_rfl)) J ?_
 have hov : outV (n0 + 4 + 4 + 2 + 6 + 3) 4 ((List.replicate ss.length x0).map xc) = .ref (n0 + 4 + 4 + 2 + 6 + 3) 4 0 ss.length := by
  rw [fE (fun h => by have := congrArg List.length h; rw [List.length_map, List.length_nil, List.length_replicate] at this; omega), List.length_map, List.length_replicate]
 refine Fz.weakH (outH (n0 + 4 + 4 + 2 + 6 + 3) 4 (114) ((List.replicate ss.length x0).map xc) [((n0 + 4 + 4 + 2 + 6 + 6), { cells := xc (nx f), sz := 4, elem := (114), st := 0 }), (n0, { cells := [.sl k (ss.map stc)], sz := 1, elem := (26), st := 0 })]) (subsM.get (bF (fun _ => by rw [List.map_replicate]; exact (by repeat (first | exact g0 | refine g1 om ?_ | refine aD om ?_))) ⟨(by repeat (first | exact g0 | refine g1 om ?_ | refine aD om ?_)), (by repeat (first | exact g0 | refine g1 om ?_ | refine aD om ?_)), trivial⟩)) ?_
 refine Fz.env (t := 9) (us := (List.replicate ss.length x0).map xc) [(2, _), (3, _), (10, _)] ⟨J, J, J, trivial⟩ (by rw [hov]; rfl) (fun _ r o hr e => by subst e; have h0 : getH [((n0 + 4 + 4 + 2 + 6 + 6), { cells := xc (nx f), sz := 4, elem := (114), st := 0 }), (n0, { cells := [.sl k (ss.map stc)], sz := 1, elem := (26), st := 0 })] (n0 + 4 + 4 + 2 + 6 + 3) = none := gN om (gN om J); rw [h0] at hr; cases hr) (by decide) (bL (f := xc) (n := 4) fun _ => rfl) (aW jI) <| aB <| Rg 2 J <| Um J J <| Um J J <| Wn <| aI <| aX (α := Nat × (List X)) (fun ⟨t, vx⟩ => [(3, .ptr n0 0), (9, .sl (kd (vx.map xc).length) (vx.map xc)), (10, .ptr (n0 + 4 + 4 + 2 + 6 + 6) 0), (32, .v (.int .i64 z)), (33, .v (.int .i64 (t : Int)))]) (fun ⟨t, vx⟩ => [((n0 + 4 + 4 + 2 + 6 + 6), { cells := xc (nx f), sz := 4, elem := (114), st := 0 }), (n0, { cells := [.sl k (ss.map stc)], sz := 1, elem := (26), st := 0 })]) (fun ⟨t, vx⟩ n => (t : Int) ≤ z ∧ vx.map (·.1) = stp ss (nq f) t ∧ n0 + 22 < n) (fun ⟨t, vx⟩ => z.toNat - t) (0, (List.replicate ss.length x0)) ⟨J, J, J, J, J, trivial⟩ ⟨gG, gG, trivial⟩ ⟨om, by rw [List.map_replicate]; exact rep_tab ss.length (0 : Rat), om⟩ ?_
 rintro ⟨t, vx⟩ n hF
 change WC _ _ _ _ _ (_ :: _) (_ :: _) n _
 obtain ⟨ht, hvx, hn⟩ := hF
 obtain ⟨nK, hnK⟩ : ∃ z, z = n := ⟨n, rfl⟩
 subst hnK
 have hxl : vx.length = ss.length := by have := congrArg List.length hvx; rw [List.length_map, oA] at this; exact this
 have hvb : ∀ x, x ∈ vx → Bd 12000000 x.1 := fun x hx => hbd t om _ (by rw [← hvx]; exact List.mem_map.2 ⟨x, hx, rfl⟩)
 have hvv : vl vx = fn_ (stp ss (nq f) t) := by unfold vl; rw [hvx]
 refine Rg 1 J <| aA (bU J J) J <| bE (fun h34 => ?_) (fun h34 => ?_)
 rotate_left
 ·refine Wn <| aT J <| aU <| aN <| aO J ?_
  have hxo : (vx.mapM fun x : X => outN x.1) = some o := by rw [show z.toNat = t by omega, ← hvx, fP] at hmo; exact hmo
  refine eE (z := 6) J <| bV (dU J) J <| qV (Φ := PhiN (28) lo (nK + 1 + 6) o 0) J (aQ (by intro c hc; rw [List.mem_singleton] at hc; subst hc; exact (.sl _ _ fun row hr => aW jI row hr))) Try.func93 J J (dM J) J (.inr (nouts_F (nK + 1 + 6) lo (kd (vx.map xc).length) vx o om om hxo)) ?_
  rintro r h' n1 ⟨q, rfl, hn1, hq0, hq1, hg⟩
  refine ⟨outH q 2 (28) (o.map mc) ([]), bothN hg Both.nil, ?_⟩
  refine bV (cW J J) J <| bV (cW J J) J <| bV (fR J) J <| bV (fR J) J <| eH <| aP <| ⟨.inr J, _, rfl, (PhiN.to (n := nK + 1 + 6) (lo := lo) ⟨q, rfl, hn1, hq0, hq1, fun h => ⟨(hg h).1, ?_⟩⟩ hLo' hEo' om (Nat.le_refl _) (fun _ _ _ h => h))⟩
  rw [bM (fun h2 => h (List.map_eq_nil_iff.1 h2))]
  exact g0
 refine Wn <| aR J <| aE <| aI <| Rg 4 J <| Um J J <| aA (cI ((ss.length : Int)) (bD J J) om) J <| bB (oMk (a := ss.length) (b := ss.length) J J J J om om (by decide) om (by show 64 * ss.length ≤ _; omega) om) J <| Ua J J <| Wn <| aB <| Rg 4 J <| aA (bH J J J J J) J <| aA (aL J J gG J J) J ?_
 refine aA (bD J J) J <| Um J J <| Wn <| aI <| aX (α := Nat × (List X)) (fun ⟨i, us⟩ => [(3, .ptr n0 0), (9, .sl (kd (vx.map xc).length) (vx.map xc)), (10, .ptr (n0 + 4 + 4 + 2 + 6 + 6) 0), (11, .ref (nK + 1 + 2) 4 0 ss.length), (32, .v (.int .i64 z)), (33, .v (.int .i64 (t : Int))), (39, .sl k (ss.map stc)), (40, .v (.int .i64 (ss.length : Int))), (41, .v (.int .i64 (i : Int)))]) (fun ⟨i, us⟩ => ((nK + 1 + 2), { cells := ((us).map xc).flatten, sz := 4, elem := (114), st := 0 }) :: [((n0 + 4 + 4 + 2 + 6 + 6), { cells := xc (nx f), sz := 4, elem := (114), st := 0 }), (n0, { cells := [.sl k (ss.map stc)], sz := 1, elem := (26), st := 0 })]) (fun ⟨i, us⟩ n => i ≤ ss.length ∧ us.length = ss.length ∧ (∀ a, a < i → (us.getD a default).1 = bsV (ss.getD a default) (nq f) (vl vx)) ∧ nK + 4 < n) (fun ⟨i, us⟩ => ss.length - i) (0, (List.replicate ss.length x0)) ⟨J, J, J, J, J, J, J, J, J, trivial⟩ ⟨g0.trans (by rw [List.map_replicate]; rfl), gG, gG, trivial⟩ ⟨Nat.zero_le _, by simp, fun a ha => absurd ha om, om⟩ ?_
 rintro ⟨i, us⟩ n hF
 change WC _ _ _ _ _ [(3, .ptr n0 0), (9, .sl (kd (vx.map xc).length) (vx.map xc)), (10, .ptr (n0 + 4 + 4 + 2 + 6 + 6) 0), (11, .ref (nK + 1 + 2) 4 0 ss.length), (32, .v (.int .i64 z)), (33, .v (.int .i64 (t : Int))), (39, .sl k (ss.map stc)), (40, .v (.int .i64 (ss.length : Int))), (41, .v (.int .i64 (i : Int)))] (((nK + 1 + 2), { cells := ((us).map xc).flatten, sz := 4, elem := (114), st := 0 }) :: [((n0 + 4 + 4 + 2 + 6 + 6), { cells := xc (nx f), sz := 4, elem := (114), st := 0 }), (n0, { cells := [.sl k (ss.map stc)], sz := 1, elem := (26), st := 0 })]) n _
 obtain ⟨hi, hul, hus, hn2⟩ := hF
 refine fI (z := 1) J <| aA (bU J J) J <| bE (fun h42 => ?_) (fun h42 => ?_)
 rotate_left
 ·refine dA ?_
  have hov : outV (nK + 1 + 2) 4 (us.map xc) = .ref (nK + 1 + 2) 4 0 ss.length := by
   rw [fE (fun h => by have := congrArg List.length h; rw [List.length_map, List.length_nil] at this; omega), List.length_map, hul]
  refine Fz.weakH (outH (nK + 1 + 2) 4 (114) (us.map xc) [((n0 + 4 + 4 + 2 + 6 + 6), { cells := xc (nx f), sz := 4, elem := (114), st := 0 }), (n0, { cells := [.sl k (ss.map stc)], sz := 1, elem := (26), st := 0 })]) (subsM.get (bF (fun _ => (by repeat (first | exact g0 | refine g1 om ?_ | refine aD om ?_))) ⟨(by repeat (first | exact g0 | refine g1 om ?_ | refine aD om ?_)), (by repeat (first | exact g0 | refine g1 om ?_ | refine aD om ?_)), trivial⟩)) ?_
  refine Fz.env (t := 11) (us := us.map xc) [(3, _), (9, _), (10, _), (32, _), (33, _), (39, _), (40, _), (41, _), (42, _)] ⟨J, J, J, J, J, J, J, J, J, trivial⟩ (by rw [hov]; rfl) (fun _ r o hr e => by subst e; have h0 : getH [((n0 + 4 + 4 + 2 + 6 + 6), { cells := xc (nx f), sz := 4, elem := (114), st := 0 }), (n0, { cells := [.sl k (ss.map stc)], sz := 1, elem := (26), st := 0 })] (nK + 1 + 2) = none := gN om (gN om J); rw [h0] at hr; cases hr) (by decide) (bL (f := xc) (n := 4) fun _ => rfl) (aW jI) <| aT J <| aU <| aN <| aO J <| aJ (z := 2) J <| Um J J <| Ua J J <| Wn <| aG <| aJ (z := 2) J <| aA (cI (((t + 1 : Nat) : Int)) (aV J J om) om) J <| Um J J <| Wn <| aF <| ⟨⟨t + 1, us⟩, ⟨J, J, J, J, J, trivial⟩, ⟨gG, gG, trivial⟩, ⟨om, ?_, om⟩, by show z.toNat - (t + 1) < z.toNat - t; omega⟩
  refine eW (by rw [List.length_map, oA]; exact hul) fun a ha => ?_
  rw [List.length_map] at ha
  rw [show (us.map (·.1)).getD a default = (us.getD a default).1 from pX (f := fun x : X => x.1) ha, hus a om, hvv]
  exact (dT (f := fun a => bsV (ss.getD a default) (nq f) (fn_ (stp ss (nq f) t))) om).symm
 refine Wn <| Fz.same [(3, _), (9, _), (10, _), (11, _), (32, _), (33, _), (39, _), (40, _), (41, _), (42, _)] _ ⟨J, J, J, J, J, J, J, J, J, J, trivial⟩ (fun _ _ h => h) <| aR J <| aE <| aI ?_
 have hm := bA (us := ss) (i := i) om
 have hcl := hV1.cs _ hm
 refine Rg 6 J <| Um J J <| aA (bS J J J J J om J) J <| aA (dL (l := .agg (stc (ss.getD i default))) J J J) J <| bB (dS J) J <| Ua J J <| aZ (cO (cs' := stc (ss.getD i default)) J J J g0 J J J J) <| Nk [3,9,10,11,12,13,32,33,39,40,41] J <| aJ (z := 11) J <| Um J J <| Um J J <| aA (aL (l := .agg (stc (ss.getD i default))) J J gG J J) J ?_
 refine aA (aL (l := lvX (nx f)) J J gG J J) J ?_
 refine Um J J <| aA (aK J (jE (ss.getD i default) (nx f) (kd (vx.map xc).length) vx ss.length hcl (fun c hc => eT hV hm hc) hvf.bd hxl 12000000 (by decide) (by decide) hvb) (aQ (by intro c hc; simp only [List.mem_cons, List.not_mem_nil, or_false] at hc; rcases hc with rfl | rfl | rfl; exact (.agg _ fun c hc => pF _ c hc); exact eQ; exact (.sl _ _ fun row hr => aW jI row hr)))) J <| Um J J <| aA (cW J J) J <| aA (cW J J) J <| aA (cA (j := i) J J J J om om J) J <| aZ (eC (f := xc) (us := us) (xyl ((ss.getD i default).2.2.getD (bsK (ss.getD i default) (nx f).1 (vl vx)) default) (nx f) vx) J J J gG (fun _ => rfl) J J om J) ?_
 refine Wn <| aG <| Ck [3,9,10,11,32,33,39,40,41] J <| aJ (z := 2) J <| aA (cI (((i + 1 : Nat) : Int)) (aV J J om) om) J <| Um J J <| Wn <| aF <| ⟨⟨i + 1, us.set i (xyl ((ss.getD i default).2.2.getD (bsK (ss.getD i default) (nx f).1 (vl vx)) default) (nx f) vx)⟩, ⟨J, J, J, J, J, J, J, J, J, trivial⟩, ⟨gG, gG, gG, trivial⟩, ⟨om, by rw [List.length_set]; exact hul, fun a ha => ?_, om⟩, by show ss.length - (i + 1) < ss.length - i; omega⟩
 rw [bT om]
 by_cases e : i = a
 ·rw [if_pos e, ← e]; exact oF _ _ _
 ·rw [if_neg e]; exact hus a om
theorem dyields_own (n0 lo k kn : Nat) (ss : List Go.Ab.ST) (f : NM) (ns : List NM) (hI : ∀ s, s ∈ ss → IS s) (hf1 : I64 f.1) (hf2 : I64 f.2) (hns : IV ns) (ln : ns.length < 1000000) (hlo : lo ≤ n0) (hL : ywR ss f ns ≠ []) : WC Try.prog T E0 Try.f50.ntmps (codeOf Try.f50) (argsEnv 0 [lvMo k ss, lvM f, .sl kn (ns.map mc)]) [] n0 (fun x e' h' n' => (x = .normal ∨ x = .ret) ∧ ∃ ls', resE e' T h' Try.f50.results.toList = some ls' ∧ PhiM (41) (28) lo n0 (ywR ss f ns) (ywE ss f ns) (resultLV ls') h' n') := by
 obtain ⟨⟨hE0, hlen⟩, o, hmo, hone, hLo, hEo⟩ := oL_ne (er := if eD ss f ns = 0 then 2 else eD ss f ns) (show oL _ _ ≠ [] from hL)
 have hLo' : ywR ss f ns = o := hLo
 have hEo' : ywE ss f ns = 0 := hEo
 change WC _ _ _ _ _ [(0, lvMo k ss), (1, lvM f), (2, .sl kn (ns.map mc))] _ _ _
 refine Rg 4 J <| bB (eG J J) J <| bB (eG J J) J <| Ua J J <| Ua J J <| Wn <| aB <| Rg 5 J <| aA (aL (l := lvMo k ss) J J gG J J) J ?_
 refine aA (aL (l := lvM f) J J gG J J) J ?_
 refine Um J J <| aA (aK J (eA k kn ss f ns hI hf1 hf2 hns om) (aQ (by intro c hc; simp only [List.mem_cons, List.not_mem_nil, or_false] at hc; rcases hc with rfl | rfl | rfl; exact eQ; exact eQ; exact (.sl _ _ fun row hr => aW nB row hr)))) J <| Ua J J <| Wn <| aB <| Rg 2 J <| Um J J <| aA (dV J J) J <| bE (fun h22 => ?_) (fun h22 => ?_)
 ·refine Wn <| aR J <| aB <| Rg 3 J <| Um J J <| Ua J J <| Ua J J <| Nk [6,7] J <| bC ?_
  exact absurd hE0 h22
 refine Wn <| aT J <| aE <| aB <| Rg 6 J <| Um J J <| aA (bD J J) J <| aA (bH J J J J J) J <| aA (aL J J gG J J) J ?_
 refine aA (bD J J) J <| aA (dV J J) J <| bE (fun h29 => ?_) (fun h29 => ?_)
 ·refine Nk [2,3,4,29] J <| aR J <| aB <| Rg 2 J <| Ua J J <| Ua J J <| Wn <| bC ?_
  exact absurd (congrArg Int.ofNat hlen) h29
 refine Nk [2,3,4,29] J <| aT J <| aE ?_
 obtain ⟨hV, hvf, hall, hf0, hf3⟩ := iV (Classical.not_not.1 h22)
 have hva := vn_all hall
 have hV1 := fS hV
 have hn40 := hV1.wt.len
 have hD := gC hV (gY hvf hf0 hf3).1 (gY hvf hf0 hf3).2
 have hxb := nx_bd hva
 have hvl := vl_nx ns
 have hxl : (ns.map nx).length = ss.length := by rw [List.length_map]; exact (Int.ofNat.inj (Classical.not_not.1 h29))
 refine bN (z := 7) J kR <| Dm J J <| aH (aK J (lQ kn ns om hns (fun a ha => (hva a ha).all3.2.2)) dD) J <| aH (aL (l := lvM f) J J gG J J) J ?_
 refine aH (bG (b := lvX (nx f)) (aK J (dC f hf1 hf2 hvf.all3.2.2) dD) J) J <| mF (dS J) J <| aH (fR J) J <| cR (cO (cs' := xc (nx f)) J J J g0 J J J J) <| bJ (dR (rn n0) (by simp only [List.reverse_cons, List.reverse_nil, List.nil_append, List.cons_append, List.map_cons, List.map_nil, ren, keys, Nat.add_assoc, iX, rn_self]; kernel_rfl)) J <| Rg 1 J <| Ua J J <| Wn <| aB <| Rg 4 J <| aA (bH J J J J J) J <| aA (aL J J gG J J) J ?_
 refine aA (bD J J) J <| Um J J <| Nk [9,10,11,35,36,37] J <| aI <| aX (α := Nat × Nat × (List X1)) (fun ⟨i, q, ds⟩ => [(9, .sl (kd (ns.map nx).length) ((ns.map nx).map xc)), (10, .ptr (n0 + 4 + 5 + 2 + 6 + 4) 0), (11, outV q 1 (ds.map fX)), (35, .sl k (ss.map stc)), (36, .v (.int .i64 (ss.length : Int))), (37, .v (.int .i64 (i : Int)))]) (fun ⟨i, q, ds⟩ => outH q 1 108 (ds.map fX) [((n0 + 4 + 5 + 2 + 6 + 4), { cells := xc (nx f), sz := 4, elem := (114), st := 0 })]) (fun ⟨i, q, ds⟩ n => i ≤ ss.length ∧ vX ds = tab i (fun a : Nat => tab (ss.getD a default).2.2.length (ysF (ss.getD a default) (nq f) (vl (ns.map nx)))) ∧ ds.length = i ∧ q < n ∧ q ≠ (n0 + 4 + 5 + 2 + 6 + 4) ∧ (n0 + 4 + 5 + 2 + 6 + 4) < n) (fun ⟨i, q, ds⟩ => ss.length - i) (0, 0, []) ⟨J, J, J, J, J, J, trivial⟩ ⟨gG, trivial⟩ ⟨Nat.zero_le _, rfl, rfl, om, om, om⟩ ?_
 rintro ⟨i, q, ds⟩ n hF
 change WC _ _ _ _ _ (_ :: _) (outH _ _ _ _ _) n _
 obtain ⟨hi, hds, hdl, hq, hqy, hn⟩ := hF
 refine fI (z := 1) J <| aA (bU J J) J <| bE (fun h38 => ?_) (fun h38 => ?_)
 rotate_left
 ·refine Wn <| Fz.env (t := 11) (us := ds.map fX) [(9, _), (10, _), (35, _), (36, _), (37, _), (38, _)] ⟨J, J, J, J, J, J, trivial⟩ J (fun _ r o hr e => by subst e; rw [gN om J] at hr; cases hr) (by decide) (bL (n := 1) (fun _ => rfl)) (aW dfX) <| aT J <| aU <| aN <| aO J ?_
  have hxo : (ds.mapM fun r : X1 => r.2.mapM fun x : X => outN x.1) = some o := by rw [← hmo, outX_eq, hds, hvl, show i = ss.length by omega]; rfl
  refine eE (z := 6) J <| bV (dU J) J <| qV (Φ := PhiM (41) (28) lo (n + 1 + 6) o 0) J (aQ (by intro c hc; rw [List.mem_singleton] at hc; subst hc; exact (.sl _ _ fun row hr => aW dfX row hr))) Try.func88 J J (dM J) J (.inr (mouts_F (n + 1 + 6) lo _ ds o om (fun r hr => by have := yrow_len hV1 (show i ≤ ss.length by omega) hds r hr; omega) om hxo)) ?_
  intro r h' n1 hP
  refine ⟨cutH (n + 1 + 6) h', .cut, ?_⟩
  obtain ⟨q9, a9, hr9, hP2⟩ := hP
  subst hr9
  refine bV (cW J J) J <| bV (cW J J) J <| bV (fR J) J <| bV (fR J) J <| eH <| aP ?_
  exact ⟨.inr J, _, rfl, PhiM.to (lo := lo) (n := n + 1 + 6) ⟨q9, a9, rfl, hP2⟩ hLo' hEo' hone om om (fun q x hq h => (mZ hq).trans h)⟩
 refine Wn <| Fz.same [(9, _), (10, _), (11, _), (35, _), (36, _), (37, _), (38, _)] _ ⟨J, J, J, J, J, J, J, trivial⟩ (fun _ _ h => h) <| aR J <| aE <| aI ?_
 have hm := bA (us := ss) (i := i) om
 have hcl := hV1.cs _ hm
 refine Rg 4 J <| aA (bS J J J J J om J) J <| aA (dL (l := .agg (stc (ss.getD i default))) J J J) J <| bB (dS J) J <| aZ (cO (cs' := stc (ss.getD i default)) J J J g0 J J J J) <| Wn <| Rg 1 J <| Ua J J <| Wn <| aB <| Rg 4 J <| aA (bH J J J J J) J <| aA (aL J J (by repeat (first | exact g0 | refine g1 om ?_ | refine aD om ?_)) J J) J ?_
 refine aA (bD J J) J <| Um J J <| Nk [9,10,11,14,35,36,37,42,43,44] J <| aI <| aX (α := Nat × Nat × (List X)) (fun ⟨j, q2, row⟩ => [(9, .sl (kd (ns.map nx).length) ((ns.map nx).map xc)), (10, .ptr (n0 + 4 + 5 + 2 + 6 + 4) 0), (11, outV q 1 (ds.map fX)), (14, outV q2 4 (row.map xc)), (35, .sl k (ss.map stc)), (36, .v (.int .i64 (ss.length : Int))), (37, .v (.int .i64 (i : Int))), (42, .sl (ss.getD i default).2.1 ((ss.getD i default).2.2.map chc)), (43, .v (.int .i64 ((ss.getD i default).2.2.length : Int))), (44, .v (.int .i64 (j : Int)))]) (fun ⟨j, q2, row⟩ => outH q2 4 114 (row.map xc) (outH q 1 108 (ds.map fX) [((n0 + 4 + 5 + 2 + 6 + 4), { cells := xc (nx f), sz := 4, elem := (114), st := 0 })])) (fun ⟨j, q2, row⟩ n => j ≤ (ss.getD i default).2.2.length ∧ row.map (·.1) = tab j (ysF (ss.getD i default) (nq f) (vl (ns.map nx))) ∧ row.length = j ∧ q2 < n ∧ q2 ≠ (n0 + 4 + 5 + 2 + 6 + 4) ∧ q2 ≠ q ∧ q < n ∧ (n0 + 4 + 5 + 2 + 6 + 4) < n) (fun ⟨j, q2, row⟩ => (ss.getD i default).2.2.length - j) (0, (n + 1), []) ⟨J, J, J, J, J, J, J, J, J, J, trivial⟩ (bF (q := q) (us := ds.map fX) (fun hne => by rw [bM hne]; repeat (first | exact g0 | refine g1 om ?_ | refine aD om ?_)) ⟨(by repeat (first | exact g0 | refine g1 om ?_ | refine aD om ?_)), trivial⟩) ⟨Nat.zero_le _, rfl, rfl, om, om, om, om, om⟩ ?_
 rintro ⟨j, q2, row⟩ n hF
 change WC _ _ _ _ _ (_ :: _) (outH _ _ _ _ _) n _
 obtain ⟨hj, hrw, hrl, hq2, hq2y, hq2q, hqn, hn2⟩ := hF
 refine fI (z := 1) J <| aA (bU J J) J <| bE (fun h45 => ?_) (fun h45 => ?_)
 rotate_left
 ·refine Wn <| Fz.env (t := 14) (us := row.map xc) [(9, _), (10, _), (11, _), (35, _), (36, _), (37, _), (42, _), (43, _), (44, _), (45, _)] ⟨J, J, J, J, J, J, J, J, J, J, trivial⟩ J (fun _ r o hr => by rcases outH_dom hr with h | h <;> omega) (by decide) (bL (n := 4) (fun _ => rfl)) (aW jI) <| aT J <| aU <| aN <| aO J <| aJ (z := 5) J <| Um J J <| Um J J <| aA (dJ (cs := [_]) (rows := [[_]]) J J (by decide) J J J) J <| fF _ (subsM.get (bF (q := q) (sz := 1) (el := 108) (us := ds.map fX) (h := [((n0 + 4 + 5 + 2 + 6 + 4), { cells := xc (nx f), sz := 4, elem := (114), st := 0 })]) (fun hne => by rw [bM hne]; repeat (first | exact g0 | refine g1 om ?_ | refine aD om ?_)) ⟨(by repeat (first | exact g0 | refine g1 om ?_ | refine aD om ?_)), trivial⟩)) ?_
  refine gD (te := ti108) (f := fX) (q := q) (us := ds) (u := (kd (row.map xc).length, row)) J J J J J (fun _ => rfl) (by decide) (by show (2 * (ds.length + 1) + 256) * 24 ≤ _; omega) om (g1 om J) (g1 om J) J <| Ua J J <| Wn <| aG <| Ck [9,10,11,35,36,37] J <| aJ (z := 2) J <| aA (cI (((i + 1 : Nat) : Int)) (aV J J om) om) J <| Um J J <| Wn <| aF ?_
  have hjn : j = (ss.getD i default).2.2.length := by omega
  refine ⟨⟨i + 1, _, ds ++ [(kd (row.map xc).length, row)]⟩, ⟨J, J, J, J, J, J, trivial⟩, rW om, ⟨om, ?_, by simp; omega, om, om, om⟩, by show ss.length - (i + 1) < ss.length - i; omega⟩
  rw [vX_app, hds, gA]
  congr 1
  show [row.map (·.1)] = _
  rw [hrw, hjn]
 refine Wn <| Fz.same [(9, _), (10, _), (11, _), (14, _), (35, _), (36, _), (37, _), (42, _), (43, _), (44, _), (45, _)] _ ⟨J, J, J, J, J, J, J, J, J, J, J, trivial⟩ (fun _ _ h => h) <| aR J <| aE <| aI ?_
 have hmc := bA (us := (ss.getD i default).2.2) (i := j) om
 obtain ⟨hrw9, hvb⟩ := eT hV hm hmc
 refine Rg 4 J <| aA (bS J J J J J om J) J <| aA (dL (l := lvC ((ss.getD i default).2.2.getD j default)) J J J) J <| bB (dS J) J <| aZ (cO (cs' := chc ((ss.getD i default).2.2.getD j default)) J J J g0 J J J J) <| Wn <| aJ (z := 8) J <| Um J J <| aA (aL (l := lvC ((ss.getD i default).2.2.getD j default)) J J (by repeat (first | exact g0 | refine g1 om ?_ | refine aD om ?_)) J J) J ?_
 refine aA (aL (l := lvX (nx f)) J J (by repeat (first | exact g0 | refine g1 om ?_ | refine aD om ?_)) J J) J ?_
 refine Um J J <| aA (aK J (jR ((ss.getD i default).2.2.getD j default) (nx f) (kd (ns.map nx).length) (ns.map nx) ss.length hrw9 hvb hvf.bd hxl 2 (by decide) (by decide) hxb) (aQ (by intro c hc; simp only [List.mem_cons, List.not_mem_nil, or_false] at hc; rcases hc with rfl | rfl | rfl; exact eQ; exact eQ; exact (.sl _ _ fun row hr => aW jI row hr)))) J <| aA (dJ (cs := [_, _, _, _]) (rows := [[_, _, _, _]]) J J (by decide) J J J) J <| fF _ (subsM.get (bF (q := q2) (sz := 4) (el := 114) (us := row.map xc) (h := outH q 1 108 (ds.map fX) [((n0 + 4 + 5 + 2 + 6 + 4), { cells := xc (nx f), sz := 4, elem := (114), st := 0 })]) (fun hne => by rw [bM hne]; repeat (first | exact g0 | refine g1 om ?_ | refine aD om ?_)) (bF (q := q) (sz := 1) (el := 108) (us := ds.map fX) (h := [((n0 + 4 + 5 + 2 + 6 + 4), { cells := xc (nx f), sz := 4, elem := (114), st := 0 })]) (fun hne => by rw [bM hne]; repeat (first | exact g0 | refine g1 om ?_ | refine aD om ?_)) ⟨(by repeat (first | exact g0 | refine g1 om ?_ | refine aD om ?_)), trivial⟩))) ?_
 refine gD (te := ti114) (f := xc) (q := q2) (us := row) (u := xyl ((ss.getD i default).2.2.getD j default) (nx f) (ns.map nx)) J J J J J (fun _ => rfl) (by decide) (by show (2 * (row.length + 1) + 256) * 64 ≤ _; omega) om (aD om (g1 om J)) (aD om (g1 om J)) J <| Ua J J <| Wn <| aG <| Ck [9,10,11,14,35,36,37,42,43,44] J <| aJ (z := 2) J <| aA (cI (((j + 1 : Nat) : Int)) (aV J J om) om) J <| Um J J <| Wn <| aF <| ⟨⟨j + 1, _, row ++ [xyl ((ss.getD i default).2.2.getD j default) (nx f) (ns.map nx)]⟩, ⟨J, J, J, J, J, J, J, J, J, J, trivial⟩, subsM_oo om om om, ⟨om, ?_, by simp; omega, om, om, om, om, om⟩, by show (ss.getD i default).2.2.length - (j + 1) < (ss.getD i default).2.2.length - j; omega⟩
 rw [List.map_append, hrw, gA]
 congr 1
 show [(xyl ((ss.getD i default).2.2.getD j default) (nx f) (ns.map nx)).1] = _
 rw [oF]; rfl
theorem mdbest_own (n0 lo k : Nat) (ss : List Go.Ab.ST) (f : NM) (o : List NM) (hI : ∀ s, s ∈ ss → IS s) (hf1 : I64 f.1) (hf2 : I64 f.2) (hlo : lo ≤ n0) (hE0 : eD ss f [] = 0) (hmo : (vals ss (nq f)).mapM outN = some o) : WC Try.prog T E0 Try.f47.ntmps (codeOf Try.f47) (argsEnv 0 [lvMo k ss, lvM f]) [] n0 (fun x e' h' n' => (x = .normal ∨ x = .ret) ∧ ∃ ls', resE e' T h' Try.f47.results.toList = some ls' ∧ PhiB (28) 3 lo n0 (dbL ss f) (dbS ss f) (dbE ss f) (resultLV ls') h' n') := by
 obtain ⟨hLo, hEo, hSo⟩ := db_ok hE0 hmo
 change WC _ _ _ _ _ [(0, lvMo k ss), (1, lvM f)] _ _ _
 refine Rg 5 J <| bB (eG J J) J <| bB (eG J J) J <| Ua J J <| Ua J J <| Ua J J <| Wn <| aB <| Rg 4 J <| aA (aL (l := lvMo k ss) J J gG J J) J ?_
 refine aA (aL (l := lvM f) J J gG J J) J ?_
 refine aA (aK J (eA k 0 ss f [] hI hf1 hf2 (by intro a ha; cases ha) (by decide)) (aQ (by intro c hc; simp only [List.mem_cons, List.not_mem_nil, or_false] at hc; rcases hc with rfl | rfl | rfl; exact eQ; exact eQ; exact (.sl 0 [] (by simp))))) J <| Ua J J <| Wn <| aB <| Rg 2 J <| Um J J <| aA (dV J J) J <| bE (fun h19 => ?_) (fun h19 => ?_)
 ·refine Wn <| aR J <| aB <| Rg 4 J <| Um J J <| Ua J J <| Ua J J <| Ua J J <| Wn <| bC ?_
  exact absurd hE0 h19
 refine Wn <| aT J <| aE ?_
 have h0 := Classical.not_not.1 h19
 obtain ⟨hV, hvf, hall, hf0, hf3⟩ := iV h0
 have hV1 := fS hV
 have hn40 := hV1.wt.len
 have hd01 := gY hvf hf0 hf3
 have hD := gC hV hd01.1 hd01.2
 obtain ⟨_, hvr, st, xs, rfl, hst, hxl, hwv, hval, hxb⟩ := values_run k ss (nx f) hV hvf.bd hd01.1 hd01.2
 have hve : vals ss (nq f) = xs.map (·.1) := qT hD (by rw [List.length_map]; exact hxl) hval
 have hvv : vl xs = fn_ (vals ss (nq f)) := by rw [hve]; rfl
 refine Rg 4 J <| aA (aL (l := lvM f) J J gG J J) J ?_
 refine aA (bG (b := lvX (nx f)) (aK J (dC f hf1 hf2 hvf.all3.2.2) dD) J) J <| bB (dS J) J <| aZ (cO (cs' := xc (nx f)) J J J g0 J J J J) <| Nk [2,8] J <| Rg 4 J <| aA (aL (l := lvMo k ss) J J gG J J) J ?_
 refine aA (aL (l := lvX (nx f)) J J gG J J) J ?_
 refine aA (aK J (hvr) dD) J <| Ua J J <| dA ?_
 have hxo : (xs.mapM fun x : X => outN x.1) = some o := by rw [hve, fP] at hmo; exact hmo
 have hone : o ≠ [] := fun h => by have h1 := (rM hxo).1; have h2 := hV1.pos; rw [h] at h1; simp at h1; omega
 refine eE (z := 7) J <| bV (dU J) J <| qV (Φ := PhiN (28) lo (n0 + 5 + 4 + 2 + 4 + 4 + 7) o 0) J (aQ (by intro c hc; rw [List.mem_singleton] at hc; subst hc; exact (.sl _ _ fun row hr => aW jI row hr))) Try.func93 J J (dM J) J (.inr (nouts_F (n0 + 5 + 4 + 2 + 4 + 4 + 7) lo 1 xs o om om hxo)) ?_
 rintro r h' n1 ⟨q, rfl, hn1, hq0, hq1, hg⟩
 refine ⟨outH q 2 (28) (o.map mc) ([((n0 + 5 + 4 + 2 + 2), { cells := xc (nx f), sz := 4, elem := (114), st := 0 }), (n0, { cells := [.sl k (ss.map stc)], sz := 1, elem := (26), st := 0 })]), bothN hg (.cons (.inl ⟨om, g0⟩) (.cons (.inl ⟨om, gG⟩) .nil)), ?_⟩
 rw [bM (fun h2 => hone (List.map_eq_nil_iff.1 h2))]
 obtain ⟨hqn, hgq⟩ := hg hone
 refine bV (dU J) J <| bV (cW J J) J <| bV (cW J J) J <| bV (fR J) J <| bV (fR J) J <| eH <| aB <| Rg 2 J <| Um J J <| aA (dV J J) J <| bE (fun h32 => ?_) (fun h32 => ?_)
 ·refine Nk [2,8,9,10,11,32] J <| aR J <| aB <| Rg 4 J <| Um J J <| Ua J J <| Ua J J <| Ua J J <| Wn <| bC ?_
  exact absurd J h32
 refine Nk [2,8,9,10,11,32] J <| aT J <| aE <| Rg 4 J <| Um J J <| aA (cI ((ss.length : Int)) (bD J J) om) J <| bB (oMk (a := ss.length) (b := ss.length) J J J J om om (by decide) om (by show 8 * ss.length ≤ _; omega) om) J <| Ua J J <| Wn <| aB <| Rg 4 J <| aA (bH J J J J J) J <| aA (aL J J gG J J) J ?_
 refine aA (bD J J) J <| Um J J <| Wn <| aI <| aX (α := Nat) (fun i => [(8, .ptr (n0 + 5 + 4 + 2 + 2) 0), (9, .sl 1 (xs.map xc)), (10, outV q 2 (o.map mc)), (12, .ref (n1 + 2 + 2) 1 0 ss.length), (38, .sl k (ss.map stc)), (39, .v (.int .i64 (ss.length : Int))), (40, .v (.int .i64 (i : Int)))]) (fun i => [((n1 + 2 + 2), { cells := ((tab ss.length (mixf (fun _ => (0 : Int)) (fun s : Nat => ((bsK (ss.getD s default) (nq f) (fn_ (vals ss (nq f))) : Nat) : Int)) i)).map ic).flatten, sz := 1, elem := (3), st := 0 }), (q, { cells := (o.map mc).flatten, sz := 2, elem := (28), st := 0 }), ((n0 + 5 + 4 + 2 + 2), { cells := xc (nx f), sz := 4, elem := (114), st := 0 })]) (fun i n => i ≤ ss.length ∧ n1 + 6 < n) (fun i => ss.length - i) (0) ⟨J, J, J, J, J, J, J, trivial⟩ ⟨e86 gG (by exact tab_repiF fun s => by rw [mixf_zero]), gG, gG, trivial⟩ ⟨Nat.zero_le _, om⟩ ?_
 rintro i n hF
 change WC _ _ _ _ _ (_ :: _) (_ :: _) n _
 obtain ⟨hi, hn⟩ := hF
 refine Rg 1 J <| aA (bU J J) J <| bE (fun h41 => ?_) (fun h41 => ?_)
 rotate_left
 ·refine Wn <| aT J <| aU <| aN <| aO J <| Rg 5 J <| Um J J <| Um J J <| Ua J J <| Ua J J <| Ua J J <| Wn <| aP ?_
  have hin : i = ss.length := by omega
  have ee : tab ss.length (mixf (fun _ => (0 : Int)) (fun s : Nat => ((bsK (ss.getD s default) (nq f) (fn_ (vals ss (nq f))) : Nat) : Int)) i) = dbS ss f := by rw [hSo]; exact tab_eq fun s hs => by unfold mixf; rw [if_pos om]
  have hSn : dbS ss f ≠ [] := fun h => by have h2 := congrArg List.length ee; rw [h, cK] at h2; have h3 : ss.length = 0 := h2; have := hV1.pos; omega
  have hSl : (dbS ss f).length = ss.length := by rw [← ee, cK]
  refine ⟨.inr J, _, rfl, q, (n1 + 2 + 2), ?_, om, ⟨om, om⟩, ⟨om, om⟩, om, fun _ => ⟨om, ?_⟩, fun _ => ⟨om, ?_⟩⟩
  ·rw [hLo, hEo, fE (q := (n1 + 2 + 2)) (fun h => hSn (List.map_eq_nil_iff.1 h)), List.length_map, hSl]
   rfl
  ·rw [hLo]; exact gG
  ·rw [← ee]; exact gG
 refine Wn <| aR J <| aE <| aI ?_
 have hm := bA (us := ss) (i := i) om
 have hcl := hV1.cs _ hm
 refine Rg 6 J <| Um J J <| aA (bS J J J J J om J) J <| aA (dL (l := .agg (stc (ss.getD i default))) J J J) J <| bB (dS J) J <| Ua J J <| aZ (cO (cs' := stc (ss.getD i default)) J J J g0 J J J J) <| Wn <| aJ (z := 11) J <| Um J J <| Um J J <| aA (aL (l := .agg (stc (ss.getD i default))) J J gG J J) J ?_
 refine aA (aL (l := lvX (nx f)) J J gG J J) J ?_
 refine Um J J <| aA (aK J (jE (ss.getD i default) (nx f) 1 xs ss.length hcl (fun c hc => eT hV hm hc) hvf.bd hxl 268435456 (by decide) (by decide) hxb) (aQ (by intro c hc; simp only [List.mem_cons, List.not_mem_nil, or_false] at hc; rcases hc with rfl | rfl | rfl; exact (.agg _ fun c hc => pF _ c hc); exact eQ; exact (.sl _ _ fun row hr => aW jI row hr)))) J <| Um J J <| aA (cW J J) J <| aA (bG (b := .v (.int .i64 ((fun s : Nat => ((bsK (ss.getD s default) (nq f) (fn_ (vals ss (nq f))) : Nat) : Int)) i))) (cW J J) (congrArg (fun z => LV.v (.int .i64 ((bsK (ss.getD i default) (nq f) z : Nat) : Int))) hvv)) J <| aA (cA (j := i) J J J J om om J) J <| aZ (oStTi J J J gG om J) ?_
 refine Wn <| aG <| Ck [8,9,10,12,38,39,40] J <| aJ (z := 2) J <| aA (cI (((i + 1 : Nat) : Int)) (aV J J om) om) J <| Um J J <| Wn <| aF <| ⟨i + 1, ⟨J, J, J, J, J, J, J, trivial⟩, ⟨e86 gG (congrArg (fun z => Ob.mk ((tab ss.length z).map ic).flatten 1 3 0) mixf_set.symm), gG, gG, trivial⟩, ⟨om, om⟩, by show ss.length - (i + 1) < ss.length - i; omega⟩
end Go.Proofs.Ytcblgjaomljikaa
namespace Go.Proofs.Ytcblgjaomljikaa
open Go.Ab Go.RowKit
theorem cpn_run (k : Nat) (ns : List NM) (ln : ns.length < 1099511627776) : Run Try.prog T E0 (.call 27 [.sl k (ns.map mc)] (.sl (kd2 ns.length) (ns.map mc))) := by
 refine bK Try.func27 J J (dM J) <| Rg 1 J <| Ua J J <| Wn <| fI (z := 4) J <| aA (dJ (cs := []) (rows := []) J J (by decide) J J J) J <| Um J J <| WO.apD (te := ti28) (rows := ns.map mc) J J J J J (by decide) (bL (f := mc) (n := 2) fun _ => rfl) (by rw [List.length_map]; show (2 * (0 + ns.length) + 256) * 16 ≤ _; omega) (by rw [List.length_map]; omega) J <| Ua J J <| Wn <| Fz.env2 (t := 2) (us := ns.map mc) [] trivial J (fun _ r o hr => by simp [getH] at hr) (by decide) (bL (f := mc) (n := 2) fun _ => rfl) (aW nB) <| aP ?_
 rw [List.length_map]
 refine post (n := 0) (.inr J) J ?_ (.sl _ _ fun row hr => aW nB row hr)
 rfl
theorem cpn_G (n0 q : Nat) (H : Hp) (L : List NM) (ll : L.length < 1099511627776) (hlt : ∀ r o, getH H r = some o → r < n0) (hg : L ≠ [] → getH H q = some (obN (28) L)) : WC Try.prog T E0 Try.f27.ntmps (codeOf Try.f27) (argsEnv 0 [outV q 2 (L.map mc)]) H n0 (fun x e' h' n' => (x = .normal ∨ x = .ret) ∧ ∃ ls', resE e' T h' Try.f27.results.toList = some ls' ∧ (resultLV ls' = .sl (kd2 L.length) (L.map mc) ∧ n0 ≤ n' ∧ h' = H)) := by
 change WC _ _ _ _ _ [(0, outV q 2 (L.map mc))] _ _ _
 refine Rg 1 J <| Ua J J <| Wn <| fI (z := 4) J <| aA (dJ (cs := []) (rows := []) J J (by decide) J J J) J <| Um J J <| WO.apC (te := ti28) (q := q) (rows := L.map mc) (el3 := (28)) J J J J J (by decide) (bL (f := mc) (n := 2) fun _ => rfl) (fun h => hg (fun h2 => h (by rw [h2]; rfl))) (by rw [List.length_map]; show (2 * (0 + L.length) + 256) * 16 ≤ _; omega) (by rw [List.length_map]; omega) J <| Ua J J <| Wn <| Fz.env2 (t := 2) (us := L.map mc) [] trivial J (fun _ r o hr => by have := hlt r o hr; omega) (by decide) (bL (f := mc) (n := 2) fun _ => rfl) (aW nB) <| aP ?_
 rw [List.length_map]
 exact ⟨.inr J, _, rfl, rfl, om, rfl⟩
theorem spn_G (n0 q : Nat) (H : Hp) (L : List NM) (ll : L.length < 1000000) (hb : ∀ t, t < L.length → -9223372036854775809 < (L.getD t default).1 ∧ (L.getD t default).1 < 9223372036854775807) (hg : L ≠ [] → getH H q = some (obN (28) L)) : WC Try.prog T E0 Try.f37.ntmps (codeOf Try.f37) (argsEnv 0 [outV q 2 (L.map mc)]) H n0 (fun x e' h' n' => (x = .normal ∨ x = .ret) ∧ ∃ ls', resE e' T h' Try.f37.results.toList = some ls' ∧ (n0 ≤ n' ∧ ∀ r o, r ≠ q → getH H r = some o → getH h' r = some o)) := by
 change WC _ _ _ _ _ [(0, outV q 2 (L.map mc))] _ _ _
 refine Rg 3 J <| Um J J <| aA (oLenO J J) J <| Um J J <| Wn <| cN <| aX (α := Nat × (List NM) × Hp) (fun ⟨i, cur, hh⟩ => [(0, outV q 2 (L.map mc)), (4, .v (.int .i64 (L.length : Int))), (5, .v (.int .i64 (i : Int)))]) (fun ⟨i, cur, hh⟩ => nrm hh) (fun ⟨i, cur, hh⟩ n => i ≤ L.length ∧ cur.length = L.length ∧ (L ≠ [] → getH hh q = some (obN (28) cur)) ∧ (∀ t, i ≤ t → cur.getD t default = L.getD t default) ∧ (∀ r o, r ≠ q → getH H r = some o → getH hh r = some o) ∧ n0 ≤ n) (fun ⟨i, cur, hh⟩ => L.length - i) (0, L, H) ⟨J, J, J, trivial⟩ (dX fun _ _ h => h) ⟨Nat.zero_le _, rfl, hg, fun _ _ => rfl, fun _ _ _ h => h, om⟩ ?_
 rintro ⟨i, cur, hh⟩ n hF
 change WC _ _ _ _ _ [(0, outV q 2 (L.map mc)), (4, .v (.int .i64 (L.length : Int))), (5, .v (.int .i64 (i : Int)))] (nrm hh) n _
 obtain ⟨hi, hcl, hgc, hct, hke, hn⟩ := hF
 refine Rg 1 J <| aA (bU J J) J <| bE (fun h6 => ?_) (fun h6 => ?_)
 rotate_left
 ·refine Wn <| aT J <| aU <| aN <| dO J ?_
  exact ⟨.inl J, _, rfl, om, fun r o hr h => nrm_get.trans (hke r o hr h)⟩
 refine Wn <| aR J <| aE <| aI ?_
 have hil : i < L.length := by omega
 have hov : outV q 2 (L.map mc) = .ref q 2 0 L.length := by rw [fE (fun h => iO hil (List.map_eq_nil_iff.1 h)), List.length_map]
 rw [hov]
 have hgi : getH (nrm hh) q = some { cells := (cur.map mc).flatten, sz := 2, elem := (28), st := 0 } := nrm_get.trans (hgc (iO hil))
 have hbi := hb i hil
 rw [← hct i (Nat.le_refl _)] at hbi
 refine Rg 2 J <| Um J J <| Ua J J <| Wn <| aJ (z := 11) J <| Um J J <| Um J J <| Um J J <| Um J J <| aA (cA (j := i) J J J J J om J) J <| aA (bH J J J J J) J <| aA (oLdF0 (us := cur) (j := i) J J hgi om (fun _ _ => rfl)) J <| aA (cI ((cur.getD i default).1 + 1) (aV J J om) om) J <| aA (kH (cs := [.v (.int .i64 ((cur.getD i default).1 + 1)), .v (.int .i64 7)]) J J J J J) J <| aA (cA (j := i) J J J J J om J) J <| aZ (eC (f := mc) (us := cur) ((cur.getD i default).1 + 1, 7) J J J hgi (fun _ => rfl) J J om J) <| Wn <| aG <| Ck [0,4,5] J <| aJ (z := 2) J <| aA (cI (((i + 1 : Nat) : Int)) (aV J J om) om) J <| Um J J <| Wn <| aF ?_
 refine ⟨⟨i + 1, _, (q, obN (28) (cur.set i ((cur.getD i default).1 + 1, 7))) :: nrm hh⟩, ⟨J, J, J, trivial⟩, dX fun _ _ h => h, ⟨om, by rw [List.length_set]; exact hcl, fun _ => g0, fun t ht => ?_, fun r o hr h => g1 (fun e => hr e.symm) (nrm_get.trans (hke r o hr h)), om⟩, by show L.length - (i + 1) < L.length - i; omega⟩
 rw [nH om]; exact hct t om
theorem cpm_G (n0 q : Nat) (a : Nat → Nat) (H : Hp) (R : List (List NM)) (lR : R.length < 1000000) (lr : ∀ t, t < R.length → (R.getD t []).length < 1000000) (hlt : ∀ r o, getH H r = some o → r < n0) (hai : ∀ t, t < R.length → a t < n0) (hqn : q < n0) (hR : RdM H (41) (28) q a R) : WC Try.prog T E0 Try.f26.ntmps (codeOf Try.f26) (argsEnv 0 [outV q 1 (rwC a R)]) H n0 (fun x e' h' n' => (x = .normal ∨ x = .ret) ∧ ∃ ls', resE e' T h' Try.f26.results.toList = some ls' ∧ (resultLV ls' = .sl (kd R.length) ((R.map cp2).map fM) ∧ n0 ≤ n' ∧ h' = nrm H)) := by
 change WC _ _ _ _ _ [(0, outV q 1 (rwC a R))] _ _ _
 refine Rg 1 J <| Ua J J <| Wn <| Rg 1 J <| Ua J J <| Wn <| aB <| Rg 3 J <| Um J J <| aA (cI ((R.length : Int)) (oLenO J J) (congrArg Int.ofNat List.length_range)) J <| Um J J <| Wn <| aI <| aX (α := Nat × Nat) (fun ⟨i, qc⟩ => [(3, outV qc 1 ((tab i (fun t => cp2 (R.getD t []))).map fM)), (6, outV q 1 (rwC a R)), (7, .v (.int .i64 (R.length : Int))), (8, .v (.int .i64 (i : Int)))]) (fun ⟨i, qc⟩ => outH qc 1 (41) ((tab i (fun t => cp2 (R.getD t []))).map fM) (nrm H)) (fun ⟨i, qc⟩ n => i ≤ R.length ∧ n0 ≤ qc ∧ qc < n) (fun ⟨i, qc⟩ => R.length - i) (0, n0) ⟨J, J, J, J, trivial⟩ (dX fun _ _ h => h) ⟨Nat.zero_le _, om, om⟩ ?_
 rintro ⟨i, qc⟩ n hF
 change WC _ _ _ _ _ (_ :: _) (outH _ _ _ _ _) n _
 obtain ⟨hi, hq0, hq⟩ := hF
 refine Rg 1 J <| aA (bU J J) J <| bE (fun h9 => ?_) (fun h9 => ?_)
 rotate_left
 ·refine Wn <| aT J <| aU <| aN <| aO J <| fI (z := 2) J <| Um J J <| Ua J J <| Wn <| Fz.env (t := 2) (us := (tab i (fun t => cp2 (R.getD t []))).map fM) [] trivial J (fun _ r o hr => by rw [nrm_get] at hr; have := hlt r o hr; omega) (by decide) (bL (f := fM) (n := 1) fun _ => rfl) (aW dfM) <| aP ?_
  obtain rfl : i = R.length := by omega
  have eu : tab R.length (fun t => cp2 (R.getD t [])) = R.map cp2 := eW (by rw [cK, List.length_map]) fun t ht => by
   rw [cK] at ht
   rw [oC _ ht]; exact (pX (f := cp2) ht).symm
  refine ⟨.inr J, _, rfl, ?_, om, rfl⟩
  rw [eu]
  show LV.sl (kd _) _ = _
  rw [List.length_map, List.length_map]
 refine Wn <| aR J <| aE <| aI ?_
 have hil : i < R.length := by omega
 have hov : outV q 1 (rwC a R) = .ref q 1 0 R.length := by rw [fE (fun h => iO hil (List.eq_nil_of_length_eq_zero (by rw [← iW a R, h]; rfl))), iW]
 rw [hov]
 refine Rg 3 J <| aA (cA (j := i) J J J J J om J) J <| aA (bG (b := outV (a i) 2 ((R.getD i []).map mc)) (eJ (f := ffN) (us := rwT a R) (j := i) J J ((aD om J).trans (nrm_get.trans ((hR.top (iO hil)).trans (by rw [rwC_map])))) (fun _ => rfl) J (by decide) (by rw [lW]; exact hil) J) (by rw [qQ hil])) J <| Ua J J <| Wn <| mR (z := 6) J <| bV (dU J) J <| bV (dU J) J ?_
 have hlt5 : ∀ r o, getH (outH qc 1 (41) ((tab i (fun t => cp2 (R.getD t []))).map fM) (nrm H)) r = some o → r < (n + 1 + 3 + 6) := fun r o hr => by
  by_cases e : qc = r
  ·omega
  ·have h2 : getH (outH qc 1 (41) ((tab i (fun t => cp2 (R.getD t []))).map fM) (nrm H)) r = getH (nrm H) r := aD e rfl
   rw [h2, nrm_get] at hr; have := hlt r o hr; omega
 refine qW (ls := [outV (a i) 2 ((R.getD i []).map mc)]) (Φ := fun r h' n' => r = .sl (kd2 (R.getD i []).length) ((R.getD i []).map mc) ∧ (n + 1 + 3 + 6) ≤ n' ∧ h' = outH qc 1 (41) ((tab i (fun t => cp2 (R.getD t []))).map fM) (nrm H)) J Try.func27 J J (dM J) J ((cpn_G (n + 1 + 3 + 6) (a i) (outH qc 1 (41) ((tab i (fun t => cp2 (R.getD t []))).map fM) (nrm H)) (R.getD i []) (by have := lr i hil; omega) hlt5 (fun hne => (aD (by have := hai i hil; omega) J).trans (nrm_get.trans (hR.rd.row i hil hne)))).mono (by rintro x e h m ⟨hx, ls, hr, h1, h2, h3⟩; exact ⟨hx, ls, hr, h1, h2, h3⟩)) ?_
 rintro r h' n1 ⟨rfl, hn1, rfl⟩
 refine WN.O <| aA (dJ (cs := [_]) (rows := [[_]]) J J (by decide) J J J) J <| gD (te := ti41) (f := fM) (q := qc) (us := (tab i (fun t => cp2 (R.getD t [])))) (u := cp2 (R.getD i [])) J J J J J (fun _ => rfl) (by decide) (by rw [cK]; show (2 * (i + 1) + 256) * 24 ≤ _; omega) (by rw [cK]; omega) (by cases hk : getH (nrm H) qc with
 | none => rfl
 | some o => rw [nrm_get] at hk; have := hlt _ _ hk; omega) (by cases hk : getH (nrm H) (n + 1 + 3 + 4) with
 | none => rfl
 | some o => rw [nrm_get] at hk; have := hlt _ _ hk; omega) rfl ?_
 refine Ua J J <| Wn <| aG <| aJ (z := 2) J <| aA (cI (((i + 1 : Nat) : Int)) (aV J J om) om) J <| Um J J <| Wn <| aF ?_
 have ea : tab (i + 1) (fun t => cp2 (R.getD t [])) = (tab i (fun t => cp2 (R.getD t []))) ++ [cp2 (R.getD i [])] := gA _
 refine ⟨⟨i + 1, _⟩, ⟨congrArg some (by rw [ea]; rfl), rfl, rfl, rfl, trivial⟩, by dsimp only; rw [ea]; exact bF (fun hne => by rw [bM hne]; exact g0) (dX fun r o hr => aD (by have := hlt r o hr; omega) (nrm_get.trans hr)), ⟨om, om, om⟩, by show R.length - (i + 1) < R.length - i; omega⟩
theorem spm_G (n0 q : Nat) (a : Nat → Nat) (H : Hp) (R : List (List NM)) (lR : R.length < 1000000) (lr : ∀ t, t < R.length → (R.getD t []).length < 1000000) (hb : ∀ t, t < R.length → ∀ s, s < (R.getD t []).length → -9223372036854775809 < ((R.getD t []).getD s default).1 ∧ ((R.getD t []).getD s default).1 < 9223372036854775807) (hR : RdM H (41) (28) q a R) : WC Try.prog T E0 Try.f36.ntmps (codeOf Try.f36) (argsEnv 0 [outV q 1 (rwC a R)]) H n0 (fun x e' h' n' => (x = .normal ∨ x = .ret) ∧ ∃ ls', resE e' T h' Try.f36.results.toList = some ls' ∧ (n0 ≤ n' ∧ ∀ r o, (∀ t, t < R.length → r ≠ a t) → getH H r = some o → getH h' r = some o)) := by
 change WC _ _ _ _ _ [(0, outV q 1 (rwC a R))] _ _ _
 refine Rg 3 J <| Um J J <| aA (cI ((R.length : Int)) (oLenO J J) (congrArg Int.ofNat List.length_range)) J <| Um J J <| Wn <| cN <| aX (α := Nat × Hp) (fun ⟨i, hh⟩ => [(4, outV q 1 (rwC a R)), (5, .v (.int .i64 (R.length : Int))), (6, .v (.int .i64 (i : Int)))]) (fun ⟨i, hh⟩ => nrm hh) (fun ⟨i, hh⟩ n => i ≤ R.length ∧ (∀ r o, (∀ t, t < i → r ≠ a t) → getH H r = some o → getH hh r = some o) ∧ n0 ≤ n) (fun ⟨i, hh⟩ => R.length - i) (0, H) ⟨J, J, J, trivial⟩ (dX fun _ _ h => h) ⟨Nat.zero_le _, fun _ _ _ h => h, om⟩ ?_
 rintro ⟨i, hh⟩ n hF
 change WC _ _ _ _ _ [(4, outV q 1 (rwC a R)), (5, .v (.int .i64 (R.length : Int))), (6, .v (.int .i64 (i : Int)))] (nrm hh) n _
 obtain ⟨hi, hke, hn⟩ := hF
 refine Rg 1 J <| aA (bU J J) J <| bE (fun h7 => ?_) (fun h7 => ?_)
 rotate_left
 ·refine Wn <| aT J <| aU <| aN <| dO J ?_
  exact ⟨.inl J, _, rfl, om, fun r o hr h => nrm_get.trans (hke r o (fun t ht => hr t om) h)⟩
 refine Wn <| aR J <| aE <| aI ?_
 have hil : i < R.length := by omega
 have hov : outV q 1 (rwC a R) = .ref q 1 0 R.length := by rw [fE (fun h => iO hil (List.eq_nil_of_length_eq_zero (by rw [← iW a R, h]; rfl))), iW]
 rw [hov]
 refine Rg 3 J <| aA (cA (j := i) J J J J J om J) J <| aA (bG (b := outV (a i) 2 ((R.getD i []).map mc)) (eJ (f := ffN) (us := rwT a R) (j := i) J J (nrm_get.trans (hke _ _ (fun t ht => (hR.ne t om).symm) ((hR.top (iO hil)).trans (by rw [rwC_map])))) (fun _ => rfl) J (by decide) (by rw [lW]; exact hil) J) (by rw [qQ hil])) J <| Ua J J <| Wn <| mR (z := 2) J <| bV (dU J) J <| qW (ls := [outV (a i) 2 ((R.getD i []).map mc)]) (Φ := fun r h' n' => (n + 1 + 3 + 2) ≤ n' ∧ ∀ r o, r ≠ a i → getH (nrm hh) r = some o → getH h' r = some o) J Try.func37 J J (dM J) J ((spn_G (n + 1 + 3 + 2) (a i) (nrm hh) (R.getD i []) (by have := lr i hil; omega) (hb i hil) (fun hne => nrm_get.trans (hke _ _ (fun t ht e => by have := hR.rd.inj i t hil om e; omega) (hR.rd.row i hil hne)))).mono (by rintro x e h m ⟨hx, ls, hr, h1, h2⟩; exact ⟨hx, ls, hr, h1, h2⟩)) ?_
 rintro r h' n1 ⟨hn1, hke1⟩
 refine eH <| aG <| aJ (z := 2) J <| aA (cI (((i + 1 : Nat) : Int)) (aV J J om) om) J <| Um J J <| Wn <| aF <| ⟨⟨i + 1, h'⟩, ⟨J, J, J, trivial⟩, dX fun _ _ h => h, ⟨om, fun r o hr h => hke1 r o (hr i om) (nrm_get.trans (hke r o (fun t ht => hr t om) h)), om⟩, by show R.length - (i + 1) < R.length - i; omega⟩
theorem cpm_S (n0 kt : Nat) (a : Nat → Nat) (H : Hp) (R : List (List NM)) (lR : R.length < 1000000) (lr : ∀ t, t < R.length → (R.getD t []).length < 1000000) (hlt : ∀ r o, getH H r = some o → r < n0) (hai : ∀ t, t < R.length → a t < n0) (hR : RdR H (28) a R) : WC Try.prog T E0 Try.f26.ntmps (codeOf Try.f26) (argsEnv 0 [.sl kt ((rwT a R).map ffN)]) H n0 (fun x e' h' n' => (x = .normal ∨ x = .ret) ∧ ∃ ls', resE e' T h' Try.f26.results.toList = some ls' ∧ (resultLV ls' = .sl (kd R.length) ((R.map cp2).map fM) ∧ n0 ≤ n' ∧ h' = nrm H)) := by
 change WC _ _ _ _ _ [(0, .sl kt ((rwT a R).map ffN))] _ _ _
 refine Rg 1 J <| Ua J J <| Wn <| Rg 1 J <| Ua J J <| Wn <| aB <| Rg 3 J <| Um J J <| aA (cI ((R.length : Int)) (bD J J) (congrArg Int.ofNat (lW a R))) J <| Um J J <| Wn <| aI <| aX (α := Nat × Nat) (fun ⟨i, qc⟩ => [(3, outV qc 1 ((tab i (fun t => cp2 (R.getD t []))).map fM)), (6, .sl kt ((rwT a R).map ffN)), (7, .v (.int .i64 (R.length : Int))), (8, .v (.int .i64 (i : Int)))]) (fun ⟨i, qc⟩ => outH qc 1 (41) ((tab i (fun t => cp2 (R.getD t []))).map fM) (nrm H)) (fun ⟨i, qc⟩ n => i ≤ R.length ∧ n0 ≤ qc ∧ qc < n) (fun ⟨i, qc⟩ => R.length - i) (0, n0) ⟨J, J, J, J, trivial⟩ (dX fun _ _ h => h) ⟨Nat.zero_le _, om, om⟩ ?_
 rintro ⟨i, qc⟩ n hF
 change WC _ _ _ _ _ (_ :: _) (outH _ _ _ _ _) n _
 obtain ⟨hi, hq0, hq⟩ := hF
 refine Rg 1 J <| aA (bU J J) J <| bE (fun h9 => ?_) (fun h9 => ?_)
 rotate_left
 ·refine Wn <| aT J <| aU <| aN <| aO J <| fI (z := 2) J <| Um J J <| Ua J J <| Wn <| Fz.env (t := 2) (us := (tab i (fun t => cp2 (R.getD t []))).map fM) [] trivial J (fun _ r o hr => by rw [nrm_get] at hr; have := hlt r o hr; omega) (by decide) (bL (f := fM) (n := 1) fun _ => rfl) (aW dfM) <| aP ?_
  obtain rfl : i = R.length := by omega
  have eu : tab R.length (fun t => cp2 (R.getD t [])) = R.map cp2 := eW (by rw [cK, List.length_map]) fun t ht => by
   rw [cK] at ht
   rw [oC _ ht]; exact (pX (f := cp2) ht).symm
  refine ⟨.inr J, _, rfl, ?_, om, rfl⟩
  rw [eu]
  show LV.sl (kd _) _ = _
  rw [List.length_map, List.length_map]
 refine Wn <| aR J <| aE <| aI ?_
 have hil : i < R.length := by omega
 refine Rg 3 J <| aA (bS (us := rwT a R) (f := ffN) (j := i) J J J J J (by rw [lW]; omega) J) J <| aA (bG (b := outV (a i) 2 ((R.getD i []).map mc)) (dL (l := outV ((rwT a R).getD i default).1 2 (((rwT a R).getD i default).2.map mc)) J J J) (by rw [qQ hil])) J <| Ua J J <| Wn <| mR (z := 6) J <| bV (dU J) J <| bV (dU J) J ?_
 have hlt5 : ∀ r o, getH (outH qc 1 (41) ((tab i (fun t => cp2 (R.getD t []))).map fM) (nrm H)) r = some o → r < (n + 1 + 3 + 6) := fun r o hr => by
  by_cases e : qc = r
  ·omega
  ·have h2 : getH (outH qc 1 (41) ((tab i (fun t => cp2 (R.getD t []))).map fM) (nrm H)) r = getH (nrm H) r := aD e rfl
   rw [h2, nrm_get] at hr; have := hlt r o hr; omega
 refine qW (ls := [outV (a i) 2 ((R.getD i []).map mc)]) (Φ := fun r h' n' => r = .sl (kd2 (R.getD i []).length) ((R.getD i []).map mc) ∧ (n + 1 + 3 + 6) ≤ n' ∧ h' = outH qc 1 (41) ((tab i (fun t => cp2 (R.getD t []))).map fM) (nrm H)) J Try.func27 J J (dM J) J ((cpn_G (n + 1 + 3 + 6) (a i) (outH qc 1 (41) ((tab i (fun t => cp2 (R.getD t []))).map fM) (nrm H)) (R.getD i []) (by have := lr i hil; omega) hlt5 (fun hne => (aD (by have := hai i hil; omega) J).trans (nrm_get.trans (hR.row i hil hne)))).mono (by rintro x e h m ⟨hx, ls, hr, h1, h2, h3⟩; exact ⟨hx, ls, hr, h1, h2, h3⟩)) ?_
 rintro r h' n1 ⟨rfl, hn1, rfl⟩
 refine WN.O <| aA (dJ (cs := [_]) (rows := [[_]]) J J (by decide) J J J) J <| gD (te := ti41) (f := fM) (q := qc) (us := (tab i (fun t => cp2 (R.getD t [])))) (u := cp2 (R.getD i [])) J J J J J (fun _ => rfl) (by decide) (by rw [cK]; show (2 * (i + 1) + 256) * 24 ≤ _; omega) (by rw [cK]; omega) (by cases hk : getH (nrm H) qc with
 | none => rfl
 | some o => rw [nrm_get] at hk; have := hlt _ _ hk; omega) (by cases hk : getH (nrm H) (n + 1 + 3 + 4) with
 | none => rfl
 | some o => rw [nrm_get] at hk; have := hlt _ _ hk; omega) rfl ?_
 refine Ua J J <| Wn <| aG <| aJ (z := 2) J <| aA (cI (((i + 1 : Nat) : Int)) (aV J J om) om) J <| Um J J <| Wn <| aF ?_
 have ea : tab (i + 1) (fun t => cp2 (R.getD t [])) = (tab i (fun t => cp2 (R.getD t []))) ++ [cp2 (R.getD i [])] := gA _
 refine ⟨⟨i + 1, _⟩, ⟨congrArg some (by rw [ea]; rfl), rfl, rfl, rfl, trivial⟩, by dsimp only; rw [ea]; exact bF (fun hne => by rw [bM hne]; exact g0) (dX fun r o hr => aD (by have := hlt r o hr; omega) (nrm_get.trans hr)), ⟨om, om, om⟩, by show R.length - (i + 1) < R.length - i; omega⟩
theorem spm_S (n0 kt : Nat) (a : Nat → Nat) (H : Hp) (R : List (List NM)) (lR : R.length < 1000000) (lr : ∀ t, t < R.length → (R.getD t []).length < 1000000) (hb : ∀ t, t < R.length → ∀ s, s < (R.getD t []).length → -9223372036854775809 < ((R.getD t []).getD s default).1 ∧ ((R.getD t []).getD s default).1 < 9223372036854775807) (hR : RdR H (28) a R) : WC Try.prog T E0 Try.f36.ntmps (codeOf Try.f36) (argsEnv 0 [.sl kt ((rwT a R).map ffN)]) H n0 (fun x e' h' n' => (x = .normal ∨ x = .ret) ∧ ∃ ls', resE e' T h' Try.f36.results.toList = some ls' ∧ (n0 ≤ n' ∧ ∀ r o, (∀ t, t < R.length → r ≠ a t) → getH H r = some o → getH h' r = some o)) := by
 change WC _ _ _ _ _ [(0, .sl kt ((rwT a R).map ffN))] _ _ _
 refine Rg 3 J <| Um J J <| aA (cI ((R.length : Int)) (bD J J) (congrArg Int.ofNat (lW a R))) J <| Um J J <| Wn <| cN <| aX (α := Nat × Hp) (fun ⟨i, hh⟩ => [(4, .sl kt ((rwT a R).map ffN)), (5, .v (.int .i64 (R.length : Int))), (6, .v (.int .i64 (i : Int)))]) (fun ⟨i, hh⟩ => nrm hh) (fun ⟨i, hh⟩ n => i ≤ R.length ∧ (∀ r o, (∀ t, t < i → r ≠ a t) → getH H r = some o → getH hh r = some o) ∧ n0 ≤ n) (fun ⟨i, hh⟩ => R.length - i) (0, H) ⟨J, J, J, trivial⟩ (dX fun _ _ h => h) ⟨Nat.zero_le _, fun _ _ _ h => h, om⟩ ?_
 rintro ⟨i, hh⟩ n hF
 change WC _ _ _ _ _ [(4, .sl kt ((rwT a R).map ffN)), (5, .v (.int .i64 (R.length : Int))), (6, .v (.int .i64 (i : Int)))] (nrm hh) n _
 obtain ⟨hi, hke, hn⟩ := hF
 refine Rg 1 J <| aA (bU J J) J <| bE (fun h7 => ?_) (fun h7 => ?_)
 rotate_left
 ·refine Wn <| aT J <| aU <| aN <| dO J ?_
  exact ⟨.inl J, _, rfl, om, fun r o hr h => nrm_get.trans (hke r o (fun t ht => hr t om) h)⟩
 refine Wn <| aR J <| aE <| aI ?_
 have hil : i < R.length := by omega
 refine Rg 3 J <| aA (bS (us := rwT a R) (f := ffN) (j := i) J J J J J (by rw [lW]; omega) J) J <| aA (bG (b := outV (a i) 2 ((R.getD i []).map mc)) (dL (l := outV ((rwT a R).getD i default).1 2 (((rwT a R).getD i default).2.map mc)) J J J) (by rw [qQ hil])) J <| Ua J J <| Wn <| mR (z := 2) J <| bV (dU J) J <| qW (ls := [outV (a i) 2 ((R.getD i []).map mc)]) (Φ := fun r h' n' => (n + 1 + 3 + 2) ≤ n' ∧ ∀ r o, r ≠ a i → getH (nrm hh) r = some o → getH h' r = some o) J Try.func37 J J (dM J) J ((spn_G (n + 1 + 3 + 2) (a i) (nrm hh) (R.getD i []) (by have := lr i hil; omega) (hb i hil) (fun hne => nrm_get.trans (hke _ _ (fun t ht e => by have := hR.inj i t hil om e; omega) (hR.row i hil hne)))).mono (by rintro x e h m ⟨hx, ls, hr, h1, h2⟩; exact ⟨hx, ls, hr, h1, h2⟩)) ?_
 rintro r h' n1 ⟨hn1, hke1⟩
 refine eH <| aG <| aJ (z := 2) J <| aA (cI (((i + 1 : Nat) : Int)) (aV J J om) om) J <| Um J J <| Wn <| aF <| ⟨⟨i + 1, h'⟩, ⟨J, J, J, trivial⟩, dX fun _ _ h => h, ⟨om, fun r o hr h => hke1 r o (hr i om) (nrm_get.trans (hke r o (fun t ht => hr t om) h)), om⟩, by show R.length - (i + 1) < R.length - i; omega⟩
end Go.Proofs.Ytcblgjaomljikaa
namespace Go.Proofs.Ytcblgjaomljikaa
open Go.Ab Go.RowKit
theorem rO (k1 k2 : Nat) (a b : List M1) (hab : a.map (·.2) = b.map (·.2)) (ln : a.length < 1099511627776) (lr : ∀ r, r ∈ a → r.2.length < 1099511627776) : Run Try.prog T E0 (.call 38 [.sl k1 (a.map fM), .sl k2 (b.map fM)] (.v (.bool true))) := by
 have hl : a.length = b.length := by have := congrArg List.length hab; simpa using this
 have hij : ∀ i, i < a.length → (b.getD i default).2 = (a.getD i default).2 := fun i hi => by
  have := congrArg (fun l => l.getD i default) hab
  simp only [] at this
  rw [pX (f := fun r : M1 => r.2) hi, pX (f := fun r : M1 => r.2) om] at this
  exact this.symm
 refine bK Try.func38 J J (dM J) <| Rg 1 J <| Ua J J <| Wn <| aB <| Rg 5 J <| Um J J <| aA (bD J J) J <| Um J J <| aA (bD J J) J <| aA (dV J J) J <| bE (fun h10 => ?_) (fun h10 => ?_)
 ·omega
 refine Wn <| aT J <| aE <| aB <| Rg 3 J <| Um J J <| aA (bD J J) J <| Um J J <| Wn <| aI <| aX (α := Nat) (fun i => [(0, .sl k1 (a.map fM)), (1, .sl k2 (b.map fM)), (12, .v (.int .i64 (a.length : Int))), (13, .v (.int .i64 (i : Int)))]) (fun i => []) (fun i n => i ≤ a.length) (fun i => a.length - i) (0) ⟨J, J, J, J, trivial⟩ trivial (Nat.zero_le _) ?_
 rintro i n hF
 change WC _ _ _ _ _ (_ :: _) ([]) n _
 have hi : i ≤ a.length := hF
 refine Rg 1 J <| aA (bU J J) J <| bE (fun h14 => ?_) (fun h14 => ?_)
 rotate_left
 ·refine Wn <| aT J <| aU <| aN <| aO J <| Rg 1 J <| Ua J J <| Wn <| aP ?_
  exact post (n := 0) (.inr J) J J (by simp)
 refine Wn <| aR J <| aE <| aI <| Rg 2 J <| Um J J <| Ua J J <| Wn <| bN (z := 10) J kR <| Dm J J <| Dm J J <| aH (bS J J J J J om J) J <| aH (dL J J J) J <| Dm J J <| Dm J J <| aH (bS J J J J J om J) J <| aH (bG (b := .sl (b.getD i default).1 ((a.getD i default).2.map mc)) (dL J J J) (by rw [hij i om])) J <| aH (aK J (lS (a.getD i default).1 (b.getD i default).1 (a.getD i default).2 (lr _ (bA om))) dD) J <| aH (fG J) J <| bJ (aY kR) J <| Ck [0,1,12,13,25] J <| cH J <| cM <| aG ?_
 refine aJ (z := 2) J <| aA (cI (((i + 1 : Nat) : Int)) (aV J J om) om) J <| Um J J <| Wn <| aF <| ⟨i + 1, ⟨J, J, J, J, trivial⟩, trivial, by show i + 1 ≤ _; omega, by show a.length - (i + 1) < a.length - i; omega⟩
theorem db_F (n lo k : Nat) (ss : List Go.Ab.ST) (f : NM) (hI : ∀ s, s ∈ ss → IS s) (hf1 : I64 f.1) (hf2 : I64 f.2) (hn : lo + 1 < n) : (∃ r, Run Try.prog T E0 (.call 47 [lvMo k ss, lvM f] r) ∧ PhiB (28) 3 lo n (dbL ss f) (dbS ss f) (dbE ss f) r [] n) ∨ WC Try.prog T E0 Try.f47.ntmps (codeOf Try.f47) (argsEnv 0 [lvMo k ss, lvM f]) [] n (fun x e' h' n' => (x = .normal ∨ x = .ret) ∧ ∃ ls', resE e' T h' Try.f47.results.toList = some ls' ∧ PhiB (28) 3 lo n (dbL ss f) (dbS ss f) (dbE ss f) (resultLV ls') h' n') := by
 by_cases hc : eD ss f [] = 0 ∧ ((vals ss (nq f)).mapM outN).isSome = true
 ·obtain ⟨h0, hs⟩ := hc
  obtain ⟨o, ho⟩ := Option.isSome_iff_exists.1 hs
  exact .inr (mdbest_own n lo k ss f o hI hf1 hf2 om h0 ho)
 ·exact .inl ⟨_, kG k ss f hI hf1 hf2, .data hn (db_no hc).1 (db_no hc).2 (dbO_eq ss f)⟩
theorem of_F (n lo k ks : Nat) (ss : List Go.Ab.ST) (f : NM) (st : List Int) (hI : ∀ s, s ∈ ss → IS s) (hf1 : I64 f.1) (hf2 : I64 f.2) (hll : st.length < 1099511627776) (hn : lo < n) : (∃ r, Run Try.prog T E0 (.call 48 [lvMo k ss, lvM f, .sl ks (st.map ic)] r) ∧ PhiN (28) lo n (ofL ss f st) (ofE ss f st) r [] n) ∨ WC Try.prog T E0 Try.f48.ntmps (codeOf Try.f48) (argsEnv 0 [lvMo k ss, lvM f, .sl ks (st.map ic)]) [] n (fun x e' h' n' => (x = .normal ∨ x = .ret) ∧ ∃ ls', resE e' T h' Try.f48.results.toList = some ls' ∧ PhiN (28) lo n (ofL ss f st) (ofE ss f st) (resultLV ls') h' n') := by
 by_cases hL : ofL ss f st = []
 ·exact .inl ⟨_, dof_run k ks ss f st hI hf1 hf2 hll, .data hn hL (ofO_eq ss f st)⟩
 ·exact .inr (dof_own n lo k ks ss f st hI hf1 hf2 hll om hL)
theorem st_F (n lo k : Nat) (ss : List Go.Ab.ST) (f : NM) (z : Int) (hI : ∀ s, s ∈ ss → IS s) (hf1 : I64 f.1) (hf2 : I64 f.2) (hz : I64 z) (hn : lo < n) : (∃ r, Run Try.prog T E0 (.call 51 [lvMo k ss, lvM f, .v (.int .i64 z)] r) ∧ PhiN (28) lo n (stL ss f z) (stE ss f z) r [] n) ∨ WC Try.prog T E0 Try.f51.ntmps (codeOf Try.f51) (argsEnv 0 [lvMo k ss, lvM f, .v (.int .i64 z)]) [] n (fun x e' h' n' => (x = .normal ∨ x = .ret) ∧ ∃ ls', resE e' T h' Try.f51.results.toList = some ls' ∧ PhiN (28) lo n (stL ss f z) (stE ss f z) (resultLV ls') h' n') := by
 by_cases hL : stL ss f z = []
 ·exact .inl ⟨_, rD k ss f z hI hf1 hf2 hz, .data hn hL (stO_eq ss f z)⟩
 ·exact .inr (dsteps_own n lo k ss f z hI hf1 hf2 hz om hL)
theorem yd_F (n lo k kn : Nat) (ss : List Go.Ab.ST) (f : NM) (ns : List NM) (hI : ∀ s, s ∈ ss → IS s) (hf1 : I64 f.1) (hf2 : I64 f.2) (hns : IV ns) (ln : ns.length < 1000000) (hn : lo < n) : (∃ r, Run Try.prog T E0 (.call 50 [lvMo k ss, lvM f, .sl kn (ns.map mc)] r) ∧ PhiM (41) (28) lo n (ywR ss f ns) (ywE ss f ns) r [] n) ∨ WC Try.prog T E0 Try.f50.ntmps (codeOf Try.f50) (argsEnv 0 [lvMo k ss, lvM f, .sl kn (ns.map mc)]) [] n (fun x e' h' n' => (x = .normal ∨ x = .ret) ∧ ∃ ls', resE e' T h' Try.f50.results.toList = some ls' ∧ PhiM (41) (28) lo n (ywR ss f ns) (ywE ss f ns) (resultLV ls') h' n') := by
 by_cases hL : ywR ss f ns = []
 ·exact .inl ⟨_, kP k kn ss f ns hI hf1 hf2 hns ln, .data hn hL (ydsO_eq ss f ns)⟩
 ·exact .inr (dyields_own n lo k kn ss f ns hI hf1 hf2 hns ln om hL)
theorem pW (k ks kn : Nat) (ss : List Go.Ab.ST) (f : NM) (st : List Int) (ns : List NM) (hI : ∀ s, s ∈ ss → IS s) (hf1 : I64 f.1) (hf2 : I64 f.2) (hns : IV ns) : Run Try.prog T E0 (.call 7 [lvMo k ss, lvM f, .sl ks (st.map ic), .sl kn (ns.map mc)] (.v (.bool true))) := by
 refine bK Try.func7 J J (dM J) <| Rg 3 J <| bB (eG J J) J <| bB (eG J J) J <| Ua J J <| Wn <| aB <| Rg 5 J <| aA (aL (l := lvMo k ss) J J (by repeat (first | exact g0 | refine g1 om ?_ | refine aD om ?_ | refine (bR (fun t ht => by have := hfa t ht; omega) om).trans ?_)) J J) J ?_
 refine Um J J <| Um J J <| aA (aK J (dfew_run k ks kn ss st ns) (aQ (by intro c hc; simp only [List.mem_cons, List.not_mem_nil, or_false] at hc; rcases hc with rfl | rfl | rfl; exact eQ; exact (.sl _ _ (aW mA)); exact (.sl _ _ fun row hr => aW nB row hr)))) J <| fT (fun h33 => ?_) (fun h33 => ?_)
 rotate_left
 ·refine aA (fG J) J <| Wn <| aR J <| aB <| Rg 2 J <| aA (aK J (pD) dD) J <| Ua J J <| Wn <| bC ?_
  exact post (n := 0) (.inr J) J J (by simp)
 refine aA (fG J) J <| Wn <| aT J <| aE ?_
 have hfw2 := h33
 rw [Bool.and_eq_true, Bool.and_eq_true] at hfw2
 obtain ⟨⟨hfw, hst60⟩, hns60⟩ := hfw2
 have hst60 := of_decide_eq_true hst60
 have hns60 := of_decide_eq_true hns60
 obtain ⟨hl45, hl10⟩ := few6_len hfw
 have hs1 : ss.length ≤ 1000 := by omega
 have hs2 : ∀ x, x ∈ ss → x.2.2.length ≤ 1000 ∧ ∀ c, c ∈ x.2.2 → c.2.2.length ≤ 1000 := fun x hx => ⟨by have := (hl10 x hx).1; omega, fun c hc => by have := (hl10 x hx).2 c hc; omega⟩
 have hsL1 : SmlN (dbL ss f) := smlN_db hs1
 have hsL3 : SmlN (ofL ss f st) := smlN_of' hs1
 have hsL5 : SmlN (stL ss f 3) := smlN_st hs1
 have hsS : Sml (dbS ss f) := sml_db hs1 fun x hx => (hs2 x hx).1
 have hsR : SmlM (ywR ss f ns) := smlM_yd hs1 fun x hx => (hs2 x hx).1
 have hv1 := dbO_eq ss f
 have hv3 := ofO_eq ss f st
 have hv4 := ydsO_eq ss f ns
 have hv5 := stO_eq ss f 3
 obtain ⟨g, e, hge⟩ := gapO_pair ss f ns
 obtain ⟨L1, hL1⟩ : ∃ z, dbL ss f = z := ⟨_, rfl⟩
 obtain ⟨S, hS⟩ : ∃ z, dbS ss f = z := ⟨_, rfl⟩
 obtain ⟨E1, hE1⟩ : ∃ z, dbE ss f = z := ⟨_, rfl⟩
 obtain ⟨L3, hL3⟩ : ∃ z, ofL ss f st = z := ⟨_, rfl⟩
 obtain ⟨E3, hE3⟩ : ∃ z, ofE ss f st = z := ⟨_, rfl⟩
 obtain ⟨R, hR⟩ : ∃ z, ywR ss f ns = z := ⟨_, rfl⟩
 obtain ⟨E4, hE4⟩ : ∃ z, ywE ss f ns = z := ⟨_, rfl⟩
 obtain ⟨L5, hL5⟩ : ∃ z, stL ss f 3 = z := ⟨_, rfl⟩
 obtain ⟨E5, hE5⟩ : ∃ z, stE ss f 3 = z := ⟨_, rfl⟩
 rw [hL1] at hsL1
 rw [hL3] at hsL3
 rw [hL5] at hsL5
 rw [hS] at hsS
 rw [hR] at hsR
 rw [hL1, hS, hE1] at hv1
 rw [hL3, hE3] at hv3
 rw [hR, hE4] at hv4
 rw [hL5, hE5] at hv5
 have hs3 := sml3 hsL1 hsL3 hsL5
 have hs3' : ∀ x, x ∈ [L1, L3, L5] → x.length ≤ 1000 := by
  intro x hx
  simp only [List.mem_cons, List.not_mem_nil, or_false] at hx
  rcases hx with rfl | rfl | rfl
  ·exact hsL1.len
  ·exact hsL3.len
  ·exact hsL5.len
 have hsR' : ∀ x, x ∈ R → x.length ≤ 1000 := fun x hx => by
  obtain ⟨i, hi, rfl⟩ := List.getElem_of_mem hx
  have := (hsR.row i hi).len
  rw [List.getD_eq_getElem?_getD, List.getElem?_eq_getElem hi] at this
  exact this
 have hsSl := hsS.1
 refine fI (z := 11) J <| aA (aL (l := lvMo k ss) J J (by repeat (first | exact g0 | refine g1 om ?_ | refine aD om ?_ | refine (bR (fun t ht => by have := hfa t ht; omega) om).trans ?_)) J J) J ?_
 refine aA (aK J (copy_run k ss hs1 hs2) dD) J <| aA (dJ (cs := []) (rows := []) J J (by decide) J J J) J <| Um J J <| WO.apD (te := ti3) (rows := st.map ic) J J J J J (by decide) (bL (f := ic) (n := 1) fun _ => rfl) (by rw [List.length_map]; show (2 * (0 + st.length) + 256) * 8 ≤ _; omega) (by rw [List.length_map]; omega) J <| Um J J <| aA (aK J (cpn_run kn ns om) (aQ (by intro c hc; simp only [List.mem_cons, List.not_mem_nil, or_false] at hc; rcases hc with rfl; exact (.sl _ _ fun row hr => aW nB row hr)))) J <| bB (dS J) J <| aZ (cO (cs' := [_]) J J J g0 J J J J) <| Ua J J <| Ua J J <| Wn <| Fz.weakH (outH 12 1 (3) (st.map ic) [(15, { cells := [.sl (kd ss.length) ((cpM ss).map stc)], sz := 1, elem := (26), st := 0 }), (1, { cells := mc f, sz := 2, elem := (28), st := 0 }), (0, { cells := [.sl k (ss.map stc)], sz := 1, elem := (26), st := 0 })]) (subsM.get (bF (fun hne => by rw [bM hne]; repeat (first | exact g0 | refine g1 om ?_ | refine aD om ?_)) ⟨(by repeat (first | exact g0 | refine g1 om ?_ | refine aD om ?_)), (by repeat (first | exact g0 | refine g1 om ?_ | refine aD om ?_)), (by repeat (first | exact g0 | refine g1 om ?_ | refine aD om ?_)), trivial⟩)) ?_
 refine Fz.env2 (t := 10) (us := st.map ic) [(2, _), (3, _), (4, _), (5, _), (9, _), (11, _)] ⟨J, J, J, J, J, J, trivial⟩ J (fun _ r o hr e => by subst e; have h0 : getH ([(15, { cells := [.sl (kd ss.length) ((cpM ss).map stc)], sz := 1, elem := (26), st := 0 }), (1, { cells := mc f, sz := 2, elem := (28), st := 0 }), (0, { cells := [.sl k (ss.map stc)], sz := 1, elem := (26), st := 0 })]) 12 = none := (by repeat (first | rfl | refine gN om ?_ | refine cC om ?_)); cases hr.symm.trans h0) (by decide) (bL (f := ic) (n := 1) fun _ => rfl) (aW mA) ?_
 rw [List.length_map]
 refine eE (z := 10) J <| bV (aL (l := lvMo k ss) J J (by repeat (first | exact g0 | refine g1 om ?_ | refine aD om ?_ | refine (bR (fun t ht => by have := hfa t ht; omega) om).trans ?_)) J J) J ?_
 refine bV (aL (l := lvM f) J J (by repeat (first | exact g0 | refine g1 om ?_ | refine aD om ?_ | refine (bR (fun t ht => by have := hfa t ht; omega) om).trans ?_)) J J) J ?_
 refine qV (Φ := PhiB (28) 3 19 29 L1 S E1) J (aQ (by intro c hc; simp only [List.mem_cons, List.not_mem_nil, or_false] at hc; rcases hc with rfl | rfl; exact eQ; exact eQ)) Try.func47 J J (dM J) J (by have := db_F 29 19 k ss f hI hf1 hf2 om; rw [hL1, hS, hE1] at this; exact this) ?_
 rintro r h' n4 ⟨q1, q2, rfl, hn4, hb1, hb2, hq12, hg1, hg2⟩
 refine ⟨outH q1 2 (28) (L1.map mc) (outH q2 1 3 (S.map ic) [(15, { cells := [.sl (kd ss.length) ((cpM ss).map stc)], sz := 1, elem := (26), st := 0 }), (1, { cells := mc f, sz := 2, elem := (28), st := 0 }), (0, { cells := [.sl k (ss.map stc)], sz := 1, elem := (26), st := 0 })]), bothN hg1 (bothI hg2 (.old (fun r o hr => by
  apply Classical.byContradiction
  intro hge
  have hnone : getH ([(15, { cells := [.sl (kd ss.length) ((cpM ss).map stc)], sz := 1, elem := (26), st := 0 }), (1, { cells := mc f, sz := 2, elem := (28), st := 0 }), (0, { cells := [.sl k (ss.map stc)], sz := 1, elem := (26), st := 0 })]) r = none := (by repeat (first | rfl | refine gN om ?_ | refine cC om ?_ | refine (bR (fun t ht => by have := hfa t ht; omega) om).trans ?_))
  cases hr.symm.trans hnone))), ?_⟩
 refine bV (dU J) J <| bV (cW J J) J <| bV (cW J J) J <| bV (cW J J) J <| bV (fR J) J <| bV (fR J) J <| bV (fR J) J <| eH <| Ck [2,3,4,5,9,10,11,12,13,14] J <| eE (z := 9) J <| bV (aL (l := lvMo k ss) J J (by repeat (first | exact g0 | refine g1 om ?_ | refine aD om ?_ | refine (bR (fun t ht => by have := hfa t ht; omega) om).trans ?_)) J J) J ?_
 refine bV (aL (l := lvM f) J J (by repeat (first | exact g0 | refine g1 om ?_ | refine aD om ?_ | refine (bR (fun t ht => by have := hfa t ht; omega) om).trans ?_)) J J) J ?_
 refine bV (dU J) J <| qV (Φ := PhiN (28) n4 (n4 + 9) L3 E3) J (aQ (by intro c hc; simp only [List.mem_cons, List.not_mem_nil, or_false] at hc; rcases hc with rfl | rfl | rfl; exact eQ; exact eQ; exact (.sl _ _ (aW mA)))) Try.func48 J J (dM J) J (by have := of_F (n4 + 9) n4 k ks ss f st hI hf1 hf2 om om; rw [hL3, hE3] at this; exact this) ?_
 rintro r h' n5 ⟨q3, rfl, hn5, hb3, hb3', hg3⟩
 refine ⟨outH q3 2 (28) (L3.map mc) (outH q1 2 (28) (L1.map mc) (outH q2 1 3 (S.map ic) [(15, { cells := [.sl (kd ss.length) ((cpM ss).map stc)], sz := 1, elem := (26), st := 0 }), (1, { cells := mc f, sz := 2, elem := (28), st := 0 }), (0, { cells := [.sl k (ss.map stc)], sz := 1, elem := (26), st := 0 })])), bothN hg3 (.old (fun r o hr => by
  apply Classical.byContradiction
  intro hge
  have hnone : getH (outH q1 2 (28) (L1.map mc) (outH q2 1 3 (S.map ic) [(15, { cells := [.sl (kd ss.length) ((cpM ss).map stc)], sz := 1, elem := (26), st := 0 }), (1, { cells := mc f, sz := 2, elem := (28), st := 0 }), (0, { cells := [.sl k (ss.map stc)], sz := 1, elem := (26), st := 0 })])) r = none := (by repeat (first | rfl | refine gN om ?_ | refine cC om ?_ | refine (bR (fun t ht => by have := hfa t ht; omega) om).trans ?_))
  cases hr.symm.trans hnone)), ?_⟩
 refine bV (dU J) J <| bV (cW J J) J <| bV (cW J J) J <| bV (fR J) J <| bV (fR J) J <| eH <| Ck [2,3,4,5,9,10,11,12,13,14,15,16] J <| Rg 7 J <| aA (aL (l := lvMo k ss) J J (by repeat (first | exact g0 | refine g1 om ?_ | refine aD om ?_ | refine (bR (fun t ht => by have := hfa t ht; omega) om).trans ?_)) J J) J ?_
 refine aA (aL (l := lvM f) J J (by repeat (first | exact g0 | refine g1 om ?_ | refine aD om ?_ | refine (bR (fun t ht => by have := hfa t ht; omega) om).trans ?_)) J J) J ?_
 refine Um J J <| aA (bG (b := .tup [.v (.bool (chkB ss f ns)), .v (.int .i64 (eD ss f []))]) (aK J (dchk_run k kn ss f ns hI hf1 hf2 hns om) (aQ (by intro c hc; simp only [List.mem_cons, List.not_mem_nil, or_false] at hc; rcases hc with rfl | rfl | rfl; exact eQ; exact eQ; exact (.sl _ _ fun row hr => aW nB row hr)))) (chkO_pair ss f ns)) J <| Um J J <| aA (cW J J) J <| aA (cW J J) J <| Nk [2,3,4,5,9,10,11,12,13,14,15,16] J <| eE (z := 9) J <| bV (aL (l := lvMo k ss) J J (by repeat (first | exact g0 | refine g1 om ?_ | refine aD om ?_ | refine (bR (fun t ht => by have := hfa t ht; omega) om).trans ?_)) J J) J ?_
 refine bV (aL (l := lvM f) J J (by repeat (first | exact g0 | refine g1 om ?_ | refine aD om ?_ | refine (bR (fun t ht => by have := hfa t ht; omega) om).trans ?_)) J J) J ?_
 refine bV (dU J) J <| qV (Φ := PhiM (41) (28) (n5 + 7) (n5 + 7 + 9) R E4) J (aQ (by intro c hc; simp only [List.mem_cons, List.not_mem_nil, or_false] at hc; rcases hc with rfl | rfl | rfl; exact eQ; exact eQ; exact (.sl _ _ fun row hr => aW nB row hr))) Try.func50 J J (dM J) J (by have := yd_F (n5 + 7 + 9) (n5 + 7) k kn ss f ns hI hf1 hf2 hns om om; rw [hR, hE4] at this; exact this) ?_
 rintro r h' n7 ⟨q4, a, rfl, hn7, hO4, hO4'⟩
 have hfa := hO4.at_
 have hb4 := hO4.ql
 have hb4' := hO4.qh
 refine ⟨matH (41) (28) q4 a R (outH q3 2 (28) (L3.map mc) (outH q1 2 (28) (L1.map mc) (outH q2 1 3 (S.map ic) [(15, { cells := [.sl (kd ss.length) ((cpM ss).map stc)], sz := 1, elem := (26), st := 0 }), (1, { cells := mc f, sz := 2, elem := (28), st := 0 }), (0, { cells := [.sl k (ss.map stc)], sz := 1, elem := (26), st := 0 })]))), bothM hO4' (.old (fun r o hr => by
  apply Classical.byContradiction
  intro hge
  have hnone : getH (outH q3 2 (28) (L3.map mc) (outH q1 2 (28) (L1.map mc) (outH q2 1 3 (S.map ic) [(15, { cells := [.sl (kd ss.length) ((cpM ss).map stc)], sz := 1, elem := (26), st := 0 }), (1, { cells := mc f, sz := 2, elem := (28), st := 0 }), (0, { cells := [.sl k (ss.map stc)], sz := 1, elem := (26), st := 0 })]))) r = none := (by repeat (first | rfl | refine gN om ?_ | refine cC om ?_ | refine (bR (fun t ht => by have := hfa t ht; omega) om).trans ?_))
  cases hr.symm.trans hnone)), ?_⟩
 refine bV (dU J) J <| bV (cW J J) J <| bV (cW J J) J <| bV (fR J) J <| bV (fR J) J <| eH <| Ck [2,3,4,5,9,10,11,12,13,14,15,16,17,18] J <| eE (z := 8) J <| bV (aL (l := lvMo k ss) J J (by repeat (first | exact g0 | refine g1 om ?_ | refine aD om ?_ | refine (bR (fun t ht => by have := hfa t ht; omega) om).trans ?_)) J J) J ?_
 refine bV (aL (l := lvM f) J J (by repeat (first | exact g0 | refine g1 om ?_ | refine aD om ?_ | refine (bR (fun t ht => by have := hfa t ht; omega) om).trans ?_)) J J) J ?_
 refine qV (Φ := PhiN (28) n7 (n7 + 8) L5 E5) J (aQ (by intro c hc; simp only [List.mem_cons, List.not_mem_nil, or_false] at hc; rcases hc with rfl | rfl | rfl; exact eQ; exact eQ; exact .v _)) Try.func51 J J (dM J) J (by have := st_F (n7 + 8) n7 k ss f 3 hI hf1 hf2 (by unfold I64; omega) om; rw [hL5, hE5] at this; exact this) ?_
 rintro r h' n8 ⟨q5, rfl, hn8, hb5, hb5', hg5⟩
 refine ⟨outH q5 2 (28) (L5.map mc) (matH (41) (28) q4 a R (outH q3 2 (28) (L3.map mc) (outH q1 2 (28) (L1.map mc) (outH q2 1 3 (S.map ic) [(15, { cells := [.sl (kd ss.length) ((cpM ss).map stc)], sz := 1, elem := (26), st := 0 }), (1, { cells := mc f, sz := 2, elem := (28), st := 0 }), (0, { cells := [.sl k (ss.map stc)], sz := 1, elem := (26), st := 0 })])))), bothN hg5 (.old (fun r o hr => by
  apply Classical.byContradiction
  intro hge
  have hnone : getH (matH (41) (28) q4 a R (outH q3 2 (28) (L3.map mc) (outH q1 2 (28) (L1.map mc) (outH q2 1 3 (S.map ic) [(15, { cells := [.sl (kd ss.length) ((cpM ss).map stc)], sz := 1, elem := (26), st := 0 }), (1, { cells := mc f, sz := 2, elem := (28), st := 0 }), (0, { cells := [.sl k (ss.map stc)], sz := 1, elem := (26), st := 0 })])))) r = none := (by repeat (first | rfl | refine gN om ?_ | refine cC om ?_ | refine (bR (fun t ht => by have := hfa t ht; omega) om).trans ?_))
  cases hr.symm.trans hnone)), ?_⟩
 refine bV (dU J) J <| bV (cW J J) J <| bV (cW J J) J <| bV (fR J) J <| bV (fR J) J <| eH <| Ck [2,3,4,5,9,10,11,12,13,14,15,16,17,18,19,20] J <| Rg 7 J <| aA (aL (l := lvMo k ss) J J (by repeat (first | exact g0 | refine g1 om ?_ | refine aD om ?_ | refine (bR (fun t ht => by have := hfa t ht; omega) om).trans ?_)) J J) J ?_
 refine aA (aL (l := lvM f) J J (by repeat (first | exact g0 | refine g1 om ?_ | refine aD om ?_ | refine (bR (fun t ht => by have := hfa t ht; omega) om).trans ?_)) J J) J ?_
 refine Um J J <| aA (bG (b := .tup [lvM g, .v (.int .i64 e)]) (aK J (dgap_run k kn ss f ns hI hf1 hf2 hns om) (aQ (by intro c hc; simp only [List.mem_cons, List.not_mem_nil, or_false] at hc; rcases hc with rfl | rfl | rfl; exact eQ; exact eQ; exact (.sl _ _ fun row hr => aW nB row hr)))) hge) J <| Um J J <| aA (cW J J) J <| aA (cW J J) J <| Nk [2,3,4,5,9,10,11,12,13,14,15,16,17,18,19,20] J ?_
 obtain ⟨HH, hHH⟩ : ∃ z, z = outH q5 2 (28) (L5.map mc) (matH (41) (28) q4 a R (outH q3 2 (28) (L3.map mc) (outH q1 2 (28) (L1.map mc) (outH q2 1 3 (S.map ic) [(15, { cells := [.sl (kd ss.length) ((cpM ss).map stc)], sz := 1, elem := (26), st := 0 }), (1, { cells := mc f, sz := 2, elem := (28), st := 0 }), (0, { cells := [.sl k (ss.map stc)], sz := 1, elem := (26), st := 0 })])))) := ⟨_, rfl⟩
 have k0 : getH HH 0 = some { cells := [.sl k (ss.map stc)], sz := 1, elem := (26), st := 0 } := by rw [hHH]; exact (by repeat (first | exact g0 | refine g1 om ?_ | refine aD om ?_ | refine (bR (fun t ht => by have := hfa t ht; omega) om).trans ?_))
 have k1 : getH HH 1 = some { cells := mc f, sz := 2, elem := (28), st := 0 } := by rw [hHH]; exact (by repeat (first | exact g0 | refine g1 om ?_ | refine aD om ?_ | refine (bR (fun t ht => by have := hfa t ht; omega) om).trans ?_))
 have k15 : getH HH 15 = some { cells := [.sl (kd ss.length) ((cpM ss).map stc)], sz := 1, elem := (26), st := 0 } := by rw [hHH]; exact (by repeat (first | exact g0 | refine g1 om ?_ | refine aD om ?_ | refine (bR (fun t ht => by have := hfa t ht; omega) om).trans ?_))
 have kx : L1 ≠ [] → getH HH q1 = some (obN (28) L1) := by rw [hHH]; exact (fun hne => by repeat (first | exact ogN hne | exact ogI hne | refine aD om ?_ | refine (bR (fun t ht => by have := hfa t ht; omega) om).trans ?_))
 have kt : S ≠ [] → getH HH q2 = some (obI 3 S) := by rw [hHH]; exact (fun hne => by repeat (first | exact ogN hne | exact ogI hne | refine aD om ?_ | refine (bR (fun t ht => by have := hfa t ht; omega) om).trans ?_))
 have ky : L3 ≠ [] → getH HH q3 = some (obN (28) L3) := by rw [hHH]; exact (fun hne => by repeat (first | exact ogN hne | exact ogI hne | refine aD om ?_ | refine (bR (fun t ht => by have := hfa t ht; omega) om).trans ?_))
 have kz : L5 ≠ [] → getH HH q5 = some (obN (28) L5) := by rw [hHH]; exact (fun hne => by repeat (first | exact ogN hne | exact ogI hne | refine aD om ?_ | refine (bR (fun t ht => by have := hfa t ht; omega) om).trans ?_))
 have kp : RdM HH (41) (28) q4 a R := by rw [hHH]; exact (matH_rd hO4).mono (fun o h => aD om h) (fun t o ht h => aD (by have := hfa t ht; omega) h)
 have hlt : ∀ r o, getH HH r = some o → r < n8 := fun r o hr => by
  rw [hHH] at hr
  apply Classical.byContradiction
  intro hge
  have hnone : getH (outH q5 2 (28) (L5.map mc) (matH (41) (28) q4 a R (outH q3 2 (28) (L3.map mc) (outH q1 2 (28) (L1.map mc) (outH q2 1 3 (S.map ic) [(15, { cells := [.sl (kd ss.length) ((cpM ss).map stc)], sz := 1, elem := (26), st := 0 }), (1, { cells := mc f, sz := 2, elem := (28), st := 0 }), (0, { cells := [.sl k (ss.map stc)], sz := 1, elem := (26), st := 0 })]))))) r = none := (by repeat (first | rfl | refine gN om ?_ | refine cC om ?_ | refine (bR (fun t ht => by have := hfa t ht; omega) om).trans ?_))
  cases hr.symm.trans hnone
 refine eU (nrm HH) (dX (by rw [hHH]; exact fun _ _ h => h)) <| eE (z := 12) J <| bV (dU J) J <| bV (dU J) J <| bV (dU J) J <| bV (dJ (cs := [outV q1 2 (L1.map mc), outV q3 2 (L3.map mc), outV q5 2 (L5.map mc)]) (rows := (rwT (tri q1 q3 q5) [L1, L3, L5]).map ffN) J J (by decide) J (fill3 (outV1c _ _ _) (outV1c _ _ _) (outV1c _ _ _)) J) J <| bV (dJ (cs := []) (rows := []) J J (by decide) J J J) J <| bV (dU J) J <| WN.apC (te := ti3) (q := q2) (rows := S.map ic) (el3 := 3) J J J J J (by decide) (bL (f := ic) (n := 1) fun _ => rfl) (fun h => nrm_get.trans (kt (fun h2 => h (by rw [h2]; rfl)))) (by rw [List.length_map]; show (2 * (0 + S.length) + 256) * 8 ≤ _; omega) (by rw [List.length_map]; omega) J <| bV (dU J) J ?_
 have hlt10 : ∀ r o, getH (outH (n8 + 7 + 6) 1 (3) (S.map ic) (nrm HH)) r = some o → r < (n8 + 7 + 12) := fun r o hr => by
  by_cases e : (n8 + 7 + 6) = r
  ·omega
  ·have h2 : getH (outH (n8 + 7 + 6) 1 (3) (S.map ic) (nrm HH)) r = getH (nrm HH) r := aD e rfl
   rw [h2, nrm_get] at hr; have := hlt r o hr; omega
 refine qW (ls := [outV q4 1 (rwC a R)]) (Φ := fun r h' n' => r = .sl (kd R.length) ((R.map cp2).map fM) ∧ (n8 + 7 + 12) ≤ n' ∧ h' = nrm (outH (n8 + 7 + 6) 1 (3) (S.map ic) (nrm HH))) J Try.func26 J J (dM J) J ((cpm_G (n8 + 7 + 12) q4 a (outH (n8 + 7 + 6) 1 (3) (S.map ic) (nrm HH)) R (by have := hsR.len; omega) (fun t ht => by have := (hsR.row t ht).len; omega) hlt10 (fun t ht => by have := hfa t ht; omega) om (kp.mono (fun o h => aD om (nrm_get.trans h)) (fun t o ht h => aD (by have := hfa t ht; omega) (nrm_get.trans h)))).mono (by rintro x e h m ⟨hx, ls, hr, hk⟩; exact ⟨hx, ls, hr, hk⟩)) ?_
 rintro r h' n10 ⟨rfl, hn10, rfl⟩
 refine bV (fR J) J <| bV (fR J) J <| bV (fR J) J <| eH <| Ck [2,3,4,5,9,10,11,13,14,16,17,18,20,21,22,23] J ?_
 obtain ⟨HB, hHB⟩ : ∃ z, z = nrm (outH (n8 + 7 + 6) 1 (3) (S.map ic) (nrm HH)) := ⟨_, rfl⟩
 have kB : ∀ r o, getH HH r = some o → getH HB r = some o := fun r o hr => by
  rw [hHB]
  exact nrm_get.trans (aD (by have := hlt r o hr; omega) (nrm_get.trans hr))
 have kcB : S ≠ [] → getH HB (n8 + 7 + 6) = some (obI 3 S) := fun hne => by rw [hHB]; exact nrm_get.trans (ogI hne)
 have hltB : ∀ r o, getH HB r = some o → r < n10 := fun r o hr => by
  rw [hHB, nrm_get] at hr
  have := hlt10 r o hr; omega
 have kT : RdR HB (28) (tri q1 q3 q5) [L1, L3, L5] := tri_rd om om om (fun h => kB _ _ (kx h)) (fun h => kB _ _ (ky h)) (fun h => kB _ _ (kz h))
 have hT3 : ∀ t, (tri q1 q3 q5) t < n8 := tri_all (Q := fun z => z < n8) om om om
 refine eU (nrm HB) (dX (by rw [hHB]; exact fun _ _ h => h)) <| eE (z := 3) J <| bV (dU J) J <| qW (ls := [.sl 2 ((rwT (tri q1 q3 q5) [L1, L3, L5]).map ffN)]) (Φ := fun r h' n' => r = .sl (kd 3) (([L1, L3, L5].map cp2).map fM) ∧ (n10 + 3) ≤ n' ∧ h' = nrm (nrm HB)) J Try.func26 J J (dM J) J ((cpm_S (n10 + 3) 2 (tri q1 q3 q5) (nrm HB) [L1, L3, L5] (show (3 : Nat) < 1000000 by decide) (fun t ht => by have := (hs3.row t ht).len; omega) (fun r o hr => by rw [nrm_get] at hr; have := hltB r o hr; omega) (fun t ht => by have := hT3 t; omega) (kT.mono (fun t o ht h => nrm_get.trans h))).mono (by rintro x e h m ⟨hx, ls, hr, hk⟩; exact ⟨hx, ls, hr, hk⟩)) ?_
 rintro r h' n11 ⟨rfl, hn11, rfl⟩
 refine bV (fR J) J <| eH <| Ck [2,3,4,5,9,10,11,13,14,16,17,18,20,21,22,23,24] J <| eE (z := 2) J <| bV (dU J) J <| qW (ls := [.sl 2 ((rwT (tri q1 q3 q5) [L1, L3, L5]).map ffN)]) (Φ := fun r h' n' => (n11 + 2) ≤ n' ∧ ∀ r o, (∀ t, t < 3 → r ≠ (tri q1 q3 q5) t) → getH (nrm (nrm HB)) r = some o → getH h' r = some o) J Try.func36 J J (dM J) J ((spm_S (n11 + 2) 2 (tri q1 q3 q5) (nrm (nrm HB)) [L1, L3, L5] (show (3 : Nat) < 1000000 by decide) (fun t ht => by have := (hs3.row t ht).len; omega) (fun t ht => (hs3.row t ht).rng) (kT.mono (fun t o ht h => nrm_get.trans (nrm_get.trans h)))).mono (by rintro x e h m ⟨hx, ls, hr, hk⟩; exact ⟨hx, ls, hr, hk⟩)) ?_
 rintro r h12 n12 ⟨hn12, hk12⟩
 have hneT : ∀ r, r ≠ q1 → r ≠ q3 → r ≠ q5 → ∀ t, t < 3 → r ≠ (tri q1 q3 q5) t := fun r h1 h3 h5 t _ => tri_all (Q := fun z => r ≠ z) h1 h3 h5 t
 have kC : ∀ r o, r ≠ q1 → r ≠ q3 → r ≠ q5 → getH HB r = some o → getH h12 r = some o := fun r o h1 h3 h5 h => hk12 r o (hneT r h1 h3 h5) (nrm_get.trans (nrm_get.trans h))
 refine eH <| Ck [2,3,4,5,9,10,11,13,14,16,17,18,20,22,23,24] J <| eE (z := 2) J <| bV (dU J) J <| qW (ls := [outV q4 1 (rwC a R)]) (Φ := fun r h' n' => (n12 + 2) ≤ n' ∧ ∀ r o, (∀ t, t < R.length → r ≠ a t) → getH h12 r = some o → getH h' r = some o) J Try.func36 J J (dM J) J ((spm_G (n12 + 2) q4 a h12 R (by have := hsR.len; omega) (fun t ht => by have := (hsR.row t ht).len; omega) (fun t ht => (hsR.row t ht).rng) (kp.mono (fun o h => kC _ _ om om om (kB _ _ h)) (fun t o ht h => kC _ _ (by have := hfa t ht; omega) (by have := hfa t ht; omega) (by have := hfa t ht; omega) (kB _ _ h)))).mono (by rintro x e h m ⟨hx, ls, hr, hk⟩; exact ⟨hx, ls, hr, hk⟩)) ?_
 rintro r h13 n13 ⟨hn13, hk13⟩
 have kD : ∀ r o, r ≠ q1 → r ≠ q3 → r ≠ q5 → (∀ t, t < R.length → r ≠ a t) → getH HB r = some o → getH h13 r = some o := fun r o h1 h3 h5 h4 h => hk13 r o h4 (kC r o h1 h3 h5 h)
 refine eH <| Ck [2,3,4,5,9,10,11,13,14,16,18,20,22,23,24] J <| aB <| eU (outH (n8 + 7 + 6) 1 (3) (S.map ic) (outH q2 1 (3) (S.map ic) [(15, { cells := [.sl (kd ss.length) ((cpM ss).map stc)], sz := 1, elem := (26), st := 0 }), (1, { cells := mc f, sz := 2, elem := (28), st := 0 }), (0, { cells := [.sl k (ss.map stc)], sz := 1, elem := (26), st := 0 })])) (bF (fun h => kD _ _ om om om (fun t ht => by have := hfa t ht; omega) (kcB (fun h2 => h (by rw [h2]; rfl)))) (bF (fun h => kD _ _ om om om (fun t ht => by have := hfa t ht; omega) (kB _ _ (kt (fun h2 => h (by rw [h2]; rfl))))) ⟨kD _ _ om om om (fun t ht => by have := hfa t ht; omega) (kB _ _ k15), kD _ _ om om om (fun t ht => by have := hfa t ht; omega) (kB _ _ k1), kD _ _ om om om (fun t ht => by have := hfa t ht; omega) (kB _ _ k0), trivial⟩)) <| fI (z := 3) J <| Um J J <| aA (oLenO J J) J <| Um J J <| Wn <| Fz.env2 (t := 22) (us := S.map ic) [(2, _), (3, _), (4, _), (5, _), (9, _), (10, _), (11, _), (13, _), (14, _), (16, _), (18, _), (20, _), (23, _), (24, _), (100, _), (101, _)] ⟨J, J, J, J, J, J, J, J, J, J, J, J, J, J, J, J, trivial⟩ J (fun _ r o hr e => by subst e; have h0 : getH (outH q2 1 (3) (S.map ic) [(15, { cells := [.sl (kd ss.length) ((cpM ss).map stc)], sz := 1, elem := (26), st := 0 }), (1, { cells := mc f, sz := 2, elem := (28), st := 0 }), (0, { cells := [.sl k (ss.map stc)], sz := 1, elem := (26), st := 0 })]) (n8 + 7 + 6) = none := (by repeat (first | rfl | refine gN om ?_ | refine cC om ?_)); cases hr.symm.trans h0) (by decide) (bL (f := ic) (n := 1) fun _ => rfl) (aW mA) ?_
 rw [List.length_map (f := ic)]
 refine aI <| aX (α := Nat × (List Int)) (fun ⟨i, cur⟩ => [(2, .sl ks (st.map ic)), (3, .sl kn (ns.map mc)), (4, .ptr 0 0), (5, .ptr 1 0), (9, .ptr 15 0), (10, .sl (kd2 st.length) (st.map ic)), (11, .sl (kd2 ns.length) (ns.map mc)), (13, outV q2 1 (S.map ic)), (14, .v (.int .i64 E1)), (16, .v (.int .i64 E3)), (18, .v (.int .i64 E4)), (20, .v (.int .i64 E5)), (22, .sl (kd2 S.length) (S.map ic)), (23, .sl (kd R.length) ((R.map cp2).map fM)), (24, .sl (kd 3) (([L1, L3, L5].map cp2).map fM)), (100, .v (.int .i64 (S.length : Int))), (101, .v (.int .i64 (i : Int)))]) (fun ⟨i, cur⟩ => outH q2 1 (3) (cur.map ic) [(15, { cells := [.sl (kd ss.length) ((cpM ss).map stc)], sz := 1, elem := (26), st := 0 }), (1, { cells := mc f, sz := 2, elem := (28), st := 0 }), (0, { cells := [.sl k (ss.map stc)], sz := 1, elem := (26), st := 0 })]) (fun ⟨i, cur⟩ n => i ≤ S.length ∧ cur.length = S.length ∧ (∀ t, i ≤ t → cur.getD t default = S.getD t default) ∧ n13 ≤ n) (fun ⟨i, cur⟩ => S.length - i) (0, S) ⟨J, J, J, J, J, J, J, J, J, J, J, J, J, J, J, J, J, trivial⟩ (bF (fun hne => by rw [bM hne]; exact g0) ⟨(by repeat (first | exact g0 | refine g1 om ?_ | refine aD om ?_)), (by repeat (first | exact g0 | refine g1 om ?_ | refine aD om ?_)), (by repeat (first | exact g0 | refine g1 om ?_ | refine aD om ?_)), trivial⟩) ⟨Nat.zero_le _, rfl, fun _ _ => rfl, om⟩ ?_
 rintro ⟨i, cur⟩ n hF
 change WC _ _ _ _ _ (_ :: _) (outH _ _ _ _ _) n _
 obtain ⟨hi, hcl, hct, hn⟩ := hF
 refine Rg 1 J <| aA (bU J J) J <| bE (fun h102 => ?_) (fun h102 => ?_)
 ·refine Nk [2,3,4,5,9,10,11,13,14,16,18,20,22,23,24,100,101,102] J <| aR J <| aE <| aI <| Rg 2 J <| Um J J <| Ua J J <| Nk [2,3,4,5,9,10,11,13,14,16,18,20,22,23,24,25,100,101] J ?_
  have hil : i < S.length := by omega
  have hov : outV q2 1 (S.map ic) = .ref q2 1 0 S.length := by rw [fE (fun h => iO hil (List.map_eq_nil_iff.1 h)), List.length_map]
  rw [hov]
  have hlx : getH (outH q2 1 (3) (cur.map ic) [(15, { cells := [.sl (kd ss.length) ((cpM ss).map stc)], sz := 1, elem := (26), st := 0 }), (1, { cells := mc f, sz := 2, elem := (28), st := 0 }), (0, { cells := [.sl k (ss.map stc)], sz := 1, elem := (26), st := 0 })]) q2 = some { cells := (cur.map ic).flatten, sz := 1, elem := 3, st := 0 } := ogI (fun h => by rw [h] at hcl; simp at hcl; omega)
  have hyb := hsS.2 (S.getD i default) (bA hil)
  rw [← hct i (Nat.le_refl _)] at hyb
  refine aJ (z := 7) J <| Um J J <| Um J J <| aA (cA (j := i) J J J J om om J) J <| aA (cI (cur.getD i default) (eJ (f := ic) (us := cur) (j := i) J J hlx (fun _ => rfl) J (by decide) om J) J) J <| aA (cI (cur.getD i default + 1) (aV J J om) om) J <| aA (cA (j := i) J J J J om om J) J <| aZ (eC (f := ic) (us := cur) (cur.getD i default + 1) J J J hlx (fun _ => rfl) J J om J) <| Wn <| aG <| Ck [2,3,4,5,9,10,11,13,14,16,18,20,22,23,24,100,101] J <| aJ (z := 2) J <| aA (cI (((i + 1 : Nat) : Int)) (aV J J om) om) J <| Um J J <| Wn <| aF <| ⟨⟨i + 1, cur.set i (cur.getD i default + 1)⟩, ⟨J, J, J, J, J, J, J, J, J, J, J, J, J, J, J, J, J, trivial⟩, bF (fun _ => g0) ⟨(by repeat (first | exact g0 | refine g1 om ?_ | refine aD om ?_)), (by repeat (first | exact g0 | refine g1 om ?_ | refine aD om ?_)), (by repeat (first | exact g0 | refine g1 om ?_ | refine aD om ?_)), trivial⟩, ⟨om, by rw [List.length_set]; exact hcl, fun t ht => ?_, om⟩, by show S.length - (i + 1) < S.length - i; omega⟩
  rw [nH om]; exact hct t om
 refine Nk [2,3,4,5,9,10,11,13,14,16,18,20,22,23,24,100,101,102] J <| aT J <| aU <| aN <| aO J <| Ck [2,3,4,5,9,10,11,14,16,18,20,22,23,24] J <| aB <| Rg 16 J <| aA (aL (l := lvMo k ss) J J (by repeat (first | exact g0 | refine g1 om ?_ | refine aD om ?_ | refine (bR (fun t ht => by have := hfa t ht; omega) om).trans ?_)) J J) J ?_
 refine aA (aL (l := lvMo (kd ss.length) (cpM ss)) J J (by repeat (first | exact g0 | refine g1 om ?_ | refine aD om ?_ | refine (bR (fun t ht => by have := hfa t ht; omega) om).trans ?_)) J J) J ?_
 refine aA (aK J (ident_run k (kd ss.length) ss hs1 hs2) (aQ (by intro c hc; simp only [List.mem_cons, List.not_mem_nil, or_false] at hc; rcases hc with rfl | rfl; exact eQ; exact eQ))) J <| aA (fG J) J <| Um J J <| aM J (dU J) J <| aM J (dU J) J <| aM J (bG (b := .v (.bool true)) (aK J (qK ks (kd2 st.length) st st om) (aQ (by intro c hc; simp only [List.mem_cons, List.not_mem_nil, or_false] at hc; rcases hc with rfl | rfl; exact (.sl _ _ (aW mA)); exact (.sl _ _ (aW mA))))) (by exact congrArg (fun z => LV.v (.bool z)) (decide_eq_true J))) J <| aM J (fG J) J <| aA (cG J J) J <| Um J J <| aM J (dU J) J <| aM J (dU J) J <| aM J (aK J (lS kn (kd2 ns.length) ns om) (aQ (by intro c hc; simp only [List.mem_cons, List.not_mem_nil, or_false] at hc; rcases hc with rfl | rfl; exact (.sl _ _ fun row hr => aW nB row hr); exact (.sl _ _ fun row hr => aW nB row hr)))) J <| aM J (fG J) J <| aA (cG J J) J <| Nk [2,3,4,5,14,16,18,20,22,23,24,126] J <| aT J <| aE <| Rg 10 J <| aA (aL (l := lvMo k ss) J J (by repeat (first | exact g0 | refine g1 om ?_ | refine aD om ?_ | refine (bR (fun t ht => by have := hfa t ht; omega) om).trans ?_)) J J) J ?_
 refine aA (aL (l := lvM f) J J (by repeat (first | exact g0 | refine g1 om ?_ | refine aD om ?_ | refine (bR (fun t ht => by have := hfa t ht; omega) om).trans ?_)) J J) J ?_
 refine aA (bG (b := .tup [.sl (kd L1.length) (L1.map mc), .sl (kd S.length) (S.map ic), .v (.int .i64 E1)]) (aK J (kG k ss f hI hf1 hf2) (aQ (by intro c hc; simp only [List.mem_cons, List.not_mem_nil, or_false] at hc; rcases hc with rfl | rfl; exact eQ; exact eQ))) hv1) J <| Um J J <| aA (cW J J) J <| aA (cW J J) J <| aA (cW J J) J <| Ua J J <| Ua J J <| Ua J J <| Nk [2,3,4,5,12,13,14,16,18,20,22,23,24,26] J <| Rg 9 J <| aA (aL (l := lvMo k ss) J J (by repeat (first | exact g0 | refine g1 om ?_ | refine aD om ?_ | refine (bR (fun t ht => by have := hfa t ht; omega) om).trans ?_)) J J) J ?_
 refine aA (aL (l := lvM f) J J (by repeat (first | exact g0 | refine g1 om ?_ | refine aD om ?_ | refine (bR (fun t ht => by have := hfa t ht; omega) om).trans ?_)) J J) J ?_
 refine Um J J <| aA (bG (b := .tup [.sl (kd L3.length) (L3.map mc), .v (.int .i64 E3)]) (aK J (dof_run k ks ss f st hI hf1 hf2 om) (aQ (by intro c hc; simp only [List.mem_cons, List.not_mem_nil, or_false] at hc; rcases hc with rfl | rfl | rfl; exact eQ; exact eQ; exact (.sl _ _ (aW mA))))) hv3) J <| Um J J <| aA (cW J J) J <| aA (cW J J) J <| Ua J J <| Ua J J <| Nk [3,4,5,12,13,14,15,16,18,20,22,23,24,26,27] J <| Rg 9 J <| aA (aL (l := lvMo k ss) J J (by repeat (first | exact g0 | refine g1 om ?_ | refine aD om ?_ | refine (bR (fun t ht => by have := hfa t ht; omega) om).trans ?_)) J J) J ?_
 refine aA (aL (l := lvM f) J J (by repeat (first | exact g0 | refine g1 om ?_ | refine aD om ?_ | refine (bR (fun t ht => by have := hfa t ht; omega) om).trans ?_)) J J) J ?_
 refine Um J J <| aA (bG (b := .tup [.sl (kd R.length) ((R.map kM).map fM), .v (.int .i64 E4)]) (aK J (kP k kn ss f ns hI hf1 hf2 hns om) (aQ (by intro c hc; simp only [List.mem_cons, List.not_mem_nil, or_false] at hc; rcases hc with rfl | rfl | rfl; exact eQ; exact eQ; exact (.sl _ _ fun row hr => aW nB row hr)))) hv4) J <| Um J J <| aA (cW J J) J <| aA (cW J J) J <| Ua J J <| Ua J J <| Nk [4,5,12,13,14,15,16,17,18,20,22,23,24,26,27,28] J <| Rg 8 J <| aA (aL (l := lvMo k ss) J J (by repeat (first | exact g0 | refine g1 om ?_ | refine aD om ?_ | refine (bR (fun t ht => by have := hfa t ht; omega) om).trans ?_)) J J) J ?_
 refine aA (aL (l := lvM f) J J (by repeat (first | exact g0 | refine g1 om ?_ | refine aD om ?_ | refine (bR (fun t ht => by have := hfa t ht; omega) om).trans ?_)) J J) J ?_
 refine aA (bG (b := .tup [.sl (kd L5.length) (L5.map mc), .v (.int .i64 E5)]) (aK J (rD k ss f 3 hI hf1 hf2 (by unfold I64; omega)) (aQ (by intro c hc; simp only [List.mem_cons, List.not_mem_nil, or_false] at hc; rcases hc with rfl | rfl | rfl; exact eQ; exact eQ; exact .v _))) hv5) J <| Um J J <| aA (cW J J) J <| aA (cW J J) J <| Ua J J <| Ua J J <| Nk [12,13,14,15,16,17,18,19,20,22,23,24,26,27,28,29] J <| Rg 40 J <| Um J J <| Um J J <| aA (bG (b := .v (.bool true)) (gB J J) (by exact congrArg (fun z => LV.v (.bool z)) (decide_eq_true J))) J <| Um J J <| aM J (dU J) J <| aM J (dU J) J <| aM J (bG (b := .v (.bool true)) (gB J J) (by exact congrArg (fun z => LV.v (.bool z)) (decide_eq_true J))) J <| aA (bW J J) J <| Um J J <| aM J (dU J) J <| aM J (dU J) J <| aM J (bG (b := .v (.bool true)) (gB J J) (by exact congrArg (fun z => LV.v (.bool z)) (decide_eq_true J))) J <| aA (bW J J) J <| Um J J <| aM J (dU J) J ?_
 refine aM J (dU J) J <| aM J (bG (b := .v (.bool true)) (gB J J) (by exact congrArg (fun z => LV.v (.bool z)) (decide_eq_true J))) J <| aA (bW J J) J <| Um J J <| aM J (dU J) J <| aM J (dU J) J <| aM J (dU J) J <| aM J (bG (b := .sl 2 (([L1, L3, L5].map kM).map fM)) (dJ (cs := [_, _, _]) (rows := [[_], [_], [_]]) J J (by decide) J J J) J) J <| aM J (dU J) J <| aM J (aK J (rO 2 (kd 3) ([L1, L3, L5].map kM) ([L1, L3, L5].map cp2) J (show (3 : Nat) < 1099511627776 by decide) (fun r hr => by obtain ⟨x, hx, rfl⟩ := List.mem_map.1 hr; have := hs3' x hx; show x.length < _; omega)) (aQ (by intro c hc; simp only [List.mem_cons, List.not_mem_nil, or_false] at hc; rcases hc with rfl | rfl; exact (.sl _ _ fun row hr => aW dfM row hr); exact (.sl _ _ fun row hr => aW dfM row hr)))) J <| aA (bW J J) J <| Um J J <| aM J (dU J) J <| aM J (dU J) J <| aM J (bG (b := .v (.bool true)) (aK J (qK (kd S.length) (kd2 S.length) S S om) (aQ (by intro c hc; simp only [List.mem_cons, List.not_mem_nil, or_false] at hc; rcases hc with rfl | rfl; exact (.sl _ _ (aW mA)); exact (.sl _ _ (aW mA))))) (by exact congrArg (fun z => LV.v (.bool z)) (decide_eq_true J))) J <| aA (bW J J) J <| Um J J <| aM J (dU J) J <| aM J (dU J) J <| aM J (aK J (rO (kd R.length) (kd R.length) (R.map kM) (R.map cp2) (by rw [List.map_map, List.map_map]; rfl) (by rw [List.length_map]; have := hsR.len; omega) (fun r hr => by obtain ⟨x, hx, rfl⟩ := List.mem_map.1 hr; have := hsR' x hx; show x.length < _; omega)) (aQ (by intro c hc; simp only [List.mem_cons, List.not_mem_nil, or_false] at hc; rcases hc with rfl | rfl; exact (.sl _ _ fun row hr => aW dfM row hr); exact (.sl _ _ fun row hr => aW dfM row hr)))) J <| aA (bW J J) J <| Um J J <| aM J (aK J (pD) dD) J <| aA (bW J J) J ?_
 refine Ua J J <| Nk [8] J <| aP <| post (n := 0) (.inr J) J ?_ dD
 rfl
end Go.Proofs.Ytcblgjaomljikaa
