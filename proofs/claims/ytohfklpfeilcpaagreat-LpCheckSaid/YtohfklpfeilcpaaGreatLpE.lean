/- Part E of the proof of lpCheck_holds: what it rests on. No condition. -/
import Derived.Test.YtohfklpfeilcpaaGreatLpD
set_option linter.unusedVariables false
set_option linter.unusedSimpArgs false
set_option maxRecDepth 100000
set_option maxHeartbeats 16000000
namespace Go.Proofs.YtohfklpfeilcpaaGreat
open Go.Ab Go.RowKit
theorem qpos_run (k : Nat) (l : List NM) (m : Nat) (hI : IV l) (ll : l.length < 1000000) : Run Tryz.prog T E0 (.call 65 [.sl k (l.map mc), .v (.int .i64 (m : Int))] (.v (.bool (posS l m)))) := by
 refine bL Tryz.func65 J J (dH J) <| Rg 1 J <| Ua J J <| Wn <| aB <| Rg 3 J <| Um J J <| aA (aW J J) J <| Um J J <| Wn <| aL <| bF (α := Nat) (fun i => [(0, .sl k (l.map mc)), (1, .v (.int .i64 (m : Int))), (7, .sl k (l.map mc)), (8, .v (.int .i64 (l.length : Int))), (9, .v (.int .i64 (i : Int)))]) (fun i => []) (fun i n => i ≤ l.length ∧ (∀ a, a < i → ¬ (l.getD a default).1 < 0)) (fun i => l.length - i) (0) ⟨J, J, J, J, J, trivial⟩ trivial ⟨Nat.zero_le _, fun a ha => absurd ha om⟩ ?_
 rintro i n hF
 change WC _ _ _ _ _ (_ :: _) ([]) n _
 obtain ⟨hi, hok⟩ := hF
 refine Rg 1 J <| aA (bZ J J) J <| bB (fun h10 => ?_) (fun h10 => ?_)
 rotate_left
 ·refine Wn <| aX J <| bA <| aS <| aR J <| Rg 9 J <| Um J J <| aA (aW J J) J <| Um J J <| aA (dV J J) J <| bB (fun h20 => ?_) (fun h20 => ?_)
  ·refine Um J J <| aE J (dK J) J <| aE J (aK J (qall_run k l hI om) (aJ (by intro c hc; simp only [List.mem_cons, List.not_mem_nil, or_false] at hc; rcases hc with rfl; exact (.sl _ _ (aY eS))))) J <| aA (bM J J) J <| Ua J J <| Nk [4] J <| aN <| post (n := 0) (.inr J) J ?_ dD
   exact congrArg (fun z => LV.v (.bool z)) (posS_all h20 (fun a ha => hok a om))
  refine Um J J <| K1 J J <| K1 J J <| aA (bK J J) J <| Ua J J <| Nk [4] J <| aN <| post (n := 0) (.inr J) J ?_ dD
  exact congrArg (fun z => LV.v (.bool z)) (posS_len h20)
 refine Wn <| aT J <| aH <| aL <| Rg 4 J <| aA (cG J J J J J om J) J <| aA (dY (l := .agg (mc (l.getD i default))) J J J) J <| bJ (fD J) J <| bH (cP (cs' := mc (l.getD i default)) J J J g0 J J J J) <| Wn <| Rg 3 J <| aA (aU J J J J J) J <| aA (aM J J gG J J) J ?_
 refine aA (bZ J J) J <| bB (fun h15 => ?_) (fun h15 => ?_)
 ·refine Wn <| bY J <| Rg 1 J <| Ua J J <| Wn <| aN <| aP <| cR <| aP <| post (n := 0) (.inr J) J ?_ dD
  exact congrArg (fun z => LV.v (.bool z)) (posS_no (i := i) om h15)
 refine Wn <| bV J <| cA <| aF <| aI (z := 2) J <| aA (cI (((i + 1 : Nat) : Int)) (aO J J om) om) J <| Um J J <| Wn <| aG <| ⟨i + 1, ⟨J, J, J, J, J, trivial⟩, trivial, ⟨om, fun a ha => ?_⟩, by show l.length - (i + 1) < l.length - i; omega⟩
 by_cases e : a = i
 ·rw [e]; exact h15
 ·exact hok a om
theorem mR (ka kb : Nat) (a b : List NM) (ha : IV a) (hb : IV b) (va : ∀ x, x ∈ a → VN x) (vb : ∀ x, x ∈ b → VN x) (hl : a.length ≤ b.length) (hl2 : a.length ≤ 100) (hb2 : b.length < 1000000) : Run Tryz.prog T E0 (.call 63 [.sl ka (a.map mc), .sl kb (b.map mc)] (lvQ (dtN a b))) := by
 refine bL Tryz.func63 J J (dH J) <| Rg 1 J <| bJ (fD J) J <| Wn <| Rg 6 J <| Um J J <| aA (aK J (pH ka a om ha va) (aJ (by intro c hc; simp only [List.mem_cons, List.not_mem_nil, or_false] at hc; rcases hc with rfl; exact (.sl _ _ (aY eS))))) J <| Um J J <| aA (aK J (pH kb b om hb vb) (aJ (by intro c hc; simp only [List.mem_cons, List.not_mem_nil, or_false] at hc; rcases hc with rfl; exact (.sl _ _ (aY eS))))) J <| aA (aV (b := lvQ (dtN a b)) (aK J (qdot_run _ _ (a.map nq) (b.map nq) 2 2 (by rw [List.length_map, List.length_map]; exact hl) (by rw [List.length_map]; omega) (nq_bd va) (nq_bd vb) om (by rw [List.length_map]; omega)) (aJ (by intro c hc; simp only [List.mem_cons, List.not_mem_nil, or_false] at hc; rcases hc with rfl | rfl; exact (.sl _ _ (aY qH)); exact (.sl _ _ (aY qH))))) (congrArg lvQ (dotR_N a b))) J <| bH (cP (cs' := qc (dtN a b)) J J J g0 J J J J) <| Wn <| aN ?_
 exact post (n := 0) (.inr J) J J (.agg _ (qH _))
theorem pG (kx : Nat) (p : PB) (x : List NM) (hV : VP p) (hI : IP p) (hx : IV x) (lx : x.length < 1000000) : Run Tryz.prog T E0 (.call 22 [lvPb p, .sl kx (x.map mc)] (.v (.bool (feaS p x)))) := by
 have hrows := hV.rows
 have hcols := hV.cols
 have hrl := hV.rl
 obtain ⟨hr60, hrv⟩ := nT hV.r
 refine bL Tryz.func22 J J (dH J) <| Rg 2 J <| bJ (eO J J) J <| Ua J J <| Wn <| aB <| Rg 6 J <| Um J J <| aA (aU J J J J J) J <| aA (aM (l := .sl p.2.2.1 (p.2.2.2.map mc)) J J gG J J) J ?_
 refine aA (aW J J) J <| aA (aK J (qpos_run kx x p.2.2.2.length hx lx) (aJ (by intro c hc; simp only [List.mem_cons, List.not_mem_nil, or_false] at hc; rcases hc with rfl | rfl; exact (.sl _ _ (aY eS)); exact (.v _)))) J <| dT (fun h11 => ?_) (fun h11 => ?_)
 rotate_left
 ·refine aA (dE J) J <| Wn <| aT J <| aB <| Rg 1 J <| Ua J J <| Wn <| bI <| post (n := 0) (.inr J) J ?_ dD
  exact congrArg (fun z => LV.v (.bool z)) (feaS_1 h11)
 refine aA (dE J) J <| Wn <| aX J <| aH <| aB ?_
 obtain ⟨hxl, hxv⟩ := hN h11
 refine Rg 4 J <| aA (aU J J J J J) J <| aA (aM (l := .sl p.1.1 (p.1.2.map fM)) J J gG J J) J ?_
 refine aA (aW J J) J <| Um J J <| Wn <| aL <| bF (α := Nat) (fun i => [(1, .sl kx (x.map mc)), (2, .ptr 0 0), (14, .sl p.1.1 (p.1.2.map fM)), (15, .v (.int .i64 (p.1.2.length : Int))), (16, .v (.int .i64 (i : Int)))]) (fun i => [(0, { cells := pbc p, sz := 3, elem := (29), st := 0 })]) (fun i n => i ≤ p.1.2.length ∧ (∀ a, a < i → feaR p x a = true) ∧ 0 < n) (fun i => p.1.2.length - i) (0) ⟨J, J, J, J, J, trivial⟩ ⟨gG, trivial⟩ ⟨Nat.zero_le _, fun a ha => absurd ha om, om⟩ ?_
 rintro i n hF
 change WC _ _ _ _ _ (_ :: _) (_ :: _) n _
 obtain ⟨hi, hok, hn⟩ := hF
 refine Rg 1 J <| aA (bZ J J) J <| bB (fun h17 => ?_) (fun h17 => ?_)
 rotate_left
 ·refine Wn <| aX J <| bA <| aS <| aR J <| Rg 1 J <| Ua J J <| Wn <| aN <| post (n := 0) (.inr J) J ?_ dD
  exact congrArg (fun z => LV.v (.bool z)) (feaS_3 h11 (fun a ha => hok a om))
 refine Wn <| aT J <| aH <| aL ?_
 obtain ⟨hwl, hwv⟩ := hV.rowlen (i := i) om
 have hIr := hI.m _ (bS (us := p.1.2) (i := i) om)
 have hbv := hrv _ (bS (us := p.2.1.2) (i := i) om)
 have hbd := dtN_bd2 hwv (fun a ha => (hxv a ha).1) om om
 refine Rg 5 J <| Um J J <| aA (cG J J J J J om J) J <| aA (dY (l := .sl (p.1.2.getD i default).1 ((p.1.2.getD i default).2.map mc)) J J J) J <| Ua J J <| Ua J J <| Wn <| bR (z := 11) J kR <| Dm J J <| Dm J J <| aC (aK J (mR (p.1.2.getD i default).1 kx (p.1.2.getD i default).2 x hIr hx hwv (fun a ha => (hxv a ha).1) om om lx) (aJ (by intro c hc; simp only [List.mem_cons, List.not_mem_nil, or_false] at hc; rcases hc with rfl | rfl; exact (.sl _ _ (aY eS)); exact (.sl _ _ (aY eS))))) J <| aC (aU J J J J J) J <| aC (aM (l := .sl p.2.1.1 (p.2.1.2.map mc)) J J gG J J) J ?_
 refine Dm J J <| aC (cG (j := i) J J J J om om J) J <| aC (dY (l := lvM (p.2.1.2.getD i default)) J J J) J <| aC (aV (b := lvQ (nq (p.2.1.2.getD i default))) (aK J (oG (p.2.1.2.getD i default) hbv.all3.1 hbv.all3.2.1 hbv) (aJ (by intro c hc; simp only [List.mem_cons, List.not_mem_nil, or_false] at hc; rcases hc with rfl; exact (.agg _ (eS _))))) J) J <| aC (aK J (mQ (dtN (p.1.2.getD i default).2 x) (nq (p.2.1.2.getD i default)) (hbd.mono om) (hbv.bd.mono om)) (aJ (by intro c hc; simp only [List.mem_cons, List.not_mem_nil, or_false] at hc; rcases hc with rfl | rfl; exact (.agg _ (qH _)); exact (.agg _ (qH _))))) J <| aC (eB J J) J <| jD (fun h31 => ?_) (fun h31 => ?_)
 ·refine bG (dX (rn n) (by simp only [List.reverse_cons, List.reverse_nil, List.nil_append, List.cons_append, List.map_cons, List.map_nil, ren, keys, Nat.add_assoc, iR, show rn n 0 = 0 from kG om]; kernel_rfl)) J <| Ck [1,2,14,15,16,31] J <| bY J <| Rg 1 J <| Ua J J <| Wn <| aN <| aP <| cR <| aP <| post (n := 0) (.inr J) J ?_ dD
  exact congrArg (fun z => LV.v (.bool z)) (feaS_2 (i := i) om (feaR_F h31))
 refine bG (dX (rn n) (by simp only [List.reverse_cons, List.reverse_nil, List.nil_append, List.cons_append, List.map_cons, List.map_nil, ren, keys, Nat.add_assoc, iR, show rn n 0 = 0 from kG om]; kernel_rfl)) J <| Ck [1,2,14,15,16,31] J <| bV J <| cA <| aF <| aI (z := 2) J <| aA (cI (((i + 1 : Nat) : Int)) (aO J J om) om) J <| Um J J <| Wn <| aG <| ⟨i + 1, ⟨J, J, J, J, J, trivial⟩, ⟨gG, trivial⟩, ⟨om, fun a ha => ?_, om⟩, by show p.1.2.length - (i + 1) < p.1.2.length - i; omega⟩
 by_cases e : a = i
 ·rw [e]; exact feaR_T h31
 ·exact hok a om
theorem qcol_run (ky kk : Nat) (p : PB) (y : List NM) (hV : VP p) (hI : IP p) (hy : IV y) (hyv : ∀ a, a ∈ y → VN a) (hyl : y.length = p.1.2.length) (hk : kk < p.2.2.2.length) : Run Tryz.prog T E0 (.call 101 [lvPb p, .sl ky (y.map mc), .v (.int .i64 (kk : Int))] (lvQ (colS p y kk p.1.2.length))) := by
 have hrows := hV.rows
 have hcols := hV.cols
 refine bL Tryz.func101 J J (dH J) <| Rg 2 J <| bJ (eO J J) J <| bJ (fD J) J <| Wn <| Rg 3 J <| aA (aV (b := lvQ 0) (aK J (nK 0 (by decide)) dD) J) J <| bJ (fD J) J <| bH (cP (cs' := qc 0) J J J g0 J J J J) <| Wn <| aB <| Rg 4 J <| aA (aU J J J J J) J <| aA (aM (l := .sl p.1.1 (p.1.2.map fM)) J J gG J J) J ?_
 refine aA (aW J J) J <| Um J J <| Wn <| aL <| bF (α := Nat) (fun i => [(1, .sl ky (y.map mc)), (2, .v (.int .i64 (kk : Int))), (6, .ptr (0 + 1) 0), (7, .ptr (0 + 2 + (0 + 1)) 0), (12, .sl p.1.1 (p.1.2.map fM)), (13, .v (.int .i64 (p.1.2.length : Int))), (14, .v (.int .i64 (i : Int)))]) (fun i => [((0 + 2 + (0 + 1)), { cells := qc (colS p y kk i), sz := 6, elem := (35), st := 0 }), ((0 + 1), { cells := List.map lz ti35.zero, sz := ti35.size, elem := (35), st := 0 })]) (fun i n => i ≤ p.1.2.length ∧ 3 < n) (fun i => p.1.2.length - i) (0) ⟨J, J, J, J, J, J, J, trivial⟩ ⟨gG, gG, trivial⟩ ⟨Nat.zero_le _, om⟩ ?_
 rintro i n hF
 change WC _ _ _ _ _ (_ :: _) (_ :: _) n _
 obtain ⟨hi, hn⟩ := hF
 refine Rg 1 J <| aA (bZ J J) J <| bB (fun h15 => ?_) (fun h15 => ?_)
 rotate_left
 ·refine Wn <| aX J <| bA <| aS <| aR J ?_
  have hil : i = p.1.2.length := by omega
  subst hil
  refine Rg 2 J <| aA (aM (l := lvQ (colS p y kk p.1.2.length)) J J gG J J) J ?_
  refine bH (cP (cs' := qc (colS p y kk p.1.2.length)) J J J gG J J J J) ?_
  refine Wn <| aN ?_
  exact post (n := 0) (.inr J) J J (.agg _ (qH _))
 refine Wn <| aT J <| aH <| aL ?_
 obtain ⟨hwl, hwv⟩ := hV.rowlen (i := i) om
 have hav := hwv _ (bS (us := (p.1.2.getD i default).2) (i := kk) om)
 have hbv := hyv _ (bS (us := y) (i := i) om)
 have hcb := colS_bd hV hk hyv hyl i om
 refine Rg 5 J <| Um J J <| aA (cG J J J J J om J) J <| aA (dY (l := .sl (p.1.2.getD i default).1 ((p.1.2.getD i default).2.map mc)) J J J) J <| Ua J J <| Ua J J <| Wn <| dN (z := 14) J kR <| aC (aM (l := lvQ (colS p y kk i)) J J gG J J) J ?_
 refine Dm J J <| Dm J J <| aC (cG (j := kk) J J J J om om J) J <| aC (dY (l := lvM ((p.1.2.getD i default).2.getD kk default)) J J J) J <| aC (aV (b := lvQ (nq ((p.1.2.getD i default).2.getD kk default))) (aK J (oG ((p.1.2.getD i default).2.getD kk default) hav.all3.1 hav.all3.2.1 hav) (aJ (by intro c hc; simp only [List.mem_cons, List.not_mem_nil, or_false] at hc; rcases hc with rfl; exact (.agg _ (eS _))))) J) J <| Dm J J <| Dm J J <| aC (cG (j := i) J J J J om om J) J <| aC (dY (l := lvM (y.getD i default)) J J J) J <| aC (aV (b := lvQ (nq (y.getD i default))) (aK J (oG (y.getD i default) hbv.all3.1 hbv.all3.2.1 hbv) (aJ (by intro c hc; simp only [List.mem_cons, List.not_mem_nil, or_false] at hc; rcases hc with rfl; exact (.agg _ (eS _))))) J) J <| aC (aK J (nrmul_run (nq ((p.1.2.getD i default).2.getD kk default)) (nq (y.getD i default)) (hav.bd.mono om) (hbv.bd.mono om)) (aJ (by intro c hc; simp only [List.mem_cons, List.not_mem_nil, or_false] at hc; rcases hc with rfl | rfl; exact (.agg _ (qH _)); exact (.agg _ (qH _))))) J <| aC (aV (b := lvQ (colS p y kk (i + 1))) (aK J (pD (colS p y kk i) (nq ((p.1.2.getD i default).2.getD kk default) * nq (y.getD i default)) (hcb.mono om) ((hav.bd.mul hbv.bd).mono om)) (aJ (by intro c hc; simp only [List.mem_cons, List.not_mem_nil, or_false] at hc; rcases hc with rfl | rfl; exact (.agg _ (qH _)); exact (.agg _ (qH _))))) J) J <| cO (cP (cs' := qc (colS p y kk (i + 1))) J J J gG J J J J) ?_
 refine bG (dX (rn n) (by simp only [List.reverse_cons, List.reverse_nil, List.nil_append, List.cons_append, List.map_cons, List.map_nil, ren, keys, Nat.add_assoc, iR, show rn n 3 = 0 from kG om]; kernel_rfl)) J <| aF <| Ck [1,2,6,7,12,13,14] J <| aI (z := 2) J <| aA (cI (((i + 1 : Nat) : Int)) (aO J J om) om) J <| Um J J <| Wn <| aG <| ⟨i + 1, ⟨J, J, J, J, J, J, J, trivial⟩, ⟨gG, gG, trivial⟩, ⟨om, om⟩, by show p.1.2.length - (i + 1) < p.1.2.length - i; omega⟩
theorem qcov_run (ky kl : Nat) (p : PB) (y : List NM) (ls : List Rat) (hV : VP p) (hI : IP p) (hy : IV y) (ly : y.length < 1000000) (hls : ls.length = p.2.2.2.length) (hlb : ∀ x, x ∈ ls → Bd 1000000 x) : Run Tryz.prog T E0 (.call 62 [lvPb p, .sl ky (y.map mc), .sl kl (ls.map qc)] (.v (.bool (covQ p y ls)))) := by
 have hrows := hV.rows
 have hcols := hV.cols
 refine bL Tryz.func62 J J (dH J) <| Rg 2 J <| bJ (eO J J) J <| Ua J J <| Wn <| aB <| Rg 6 J <| Um J J <| aA (aU J J J J J) J <| aA (aM (l := .sl p.1.1 (p.1.2.map fM)) J J gG J J) J ?_
 refine aA (aW J J) J <| aA (aK J (qpos_run ky y p.1.2.length hy ly) (aJ (by intro c hc; simp only [List.mem_cons, List.not_mem_nil, or_false] at hc; rcases hc with rfl | rfl; exact (.sl _ _ (aY eS)); exact (.v _)))) J <| dT (fun h12 => ?_) (fun h12 => ?_)
 rotate_left
 ·refine aA (dE J) J <| Wn <| aT J <| aB <| Rg 1 J <| Ua J J <| Wn <| bI <| post (n := 0) (.inr J) J ?_ dD
  exact congrArg (fun z => LV.v (.bool z)) (covQ_1 h12)
 refine aA (dE J) J <| Wn <| aX J <| aH <| aB ?_
 obtain ⟨hyl, hyv⟩ := hN h12
 refine Rg 4 J <| aA (aU J J J J J) J <| aA (aM (l := .sl p.2.2.1 (p.2.2.2.map mc)) J J gG J J) J ?_
 refine aA (aW J J) J <| Um J J <| Nk [1,2,3,16,17] J <| aL <| bF (α := Nat) (fun kk => [(1, .sl ky (y.map mc)), (2, .sl kl (ls.map qc)), (3, .ptr 0 0), (16, .v (.int .i64 (p.2.2.2.length : Int))), (17, .v (.int .i64 (kk : Int)))]) (fun kk => [(0, { cells := pbc p, sz := 3, elem := (29), st := 0 })]) (fun kk n => kk ≤ p.2.2.2.length ∧ (∀ a, a < kk → ¬ (colS p y a p.1.2.length - ls.getD a default).num.sign < 0) ∧ 0 < n) (fun kk => p.2.2.2.length - kk) (0) ⟨J, J, J, J, J, trivial⟩ ⟨gG, trivial⟩ ⟨Nat.zero_le _, fun a ha => absurd ha om, om⟩ ?_
 rintro kk n hF
 change WC _ _ _ _ _ (_ :: _) (_ :: _) n _
 obtain ⟨hk, hok, hn⟩ := hF
 refine Rg 1 J <| aA (bZ J J) J <| bB (fun h18 => ?_) (fun h18 => ?_)
 rotate_left
 ·refine Wn <| aX J <| bA <| aS <| aR J <| Rg 1 J <| Ua J J <| Wn <| aN <| post (n := 0) (.inr J) J ?_ dD
  exact congrArg (fun z => LV.v (.bool z)) (covQ_2 h12 (covS_T (fun a ha => hok a om)))
 refine Wn <| aT J <| aH <| aL <| Rg 2 J <| Um J J <| Ua J J <| cJ ?_
 have hcb := colS_bd hV (k := kk) om (fun a ha => (hyv a ha).1) hyl p.1.2.length om
 have hlk := hlb _ (bS (us := ls) (i := kk) om)
 refine bR (z := 10) J kR <| aC (aM (l := lvPb p) J J gG J J) J ?_
 refine Dm J J <| Dm J J <| aC (aK J (qcol_run ky kk p y hV hI hy (fun a ha => (hyv a ha).1) hyl om) (aJ (by intro c hc; simp only [List.mem_cons, List.not_mem_nil, or_false] at hc; rcases hc with rfl | rfl | rfl; exact gZ; exact (.sl _ _ (aY eS)); exact (.v _)))) J <| Dm J J <| Dm J J <| aC (cG (j := kk) J J J J om om J) J <| aC (dY (l := lvQ (ls.getD kk default)) J J J) J <| aC (aK J (mQ (colS p y kk p.1.2.length) (ls.getD kk default) (hcb.mono om) (hlk.mono om)) (aJ (by intro c hc; simp only [List.mem_cons, List.not_mem_nil, or_false] at hc; rcases hc with rfl | rfl; exact (.agg _ (qH _)); exact (.agg _ (qH _))))) J <| aC (bZ J J) J <| jD (fun h29 => ?_) (fun h29 => ?_)
 ·refine bG (dX (rn n) (by simp only [List.reverse_cons, List.reverse_nil, List.nil_append, List.cons_append, List.map_cons, List.map_nil, ren, keys, Nat.add_assoc, iR, show rn n 0 = 0 from kG om]; kernel_rfl)) J <| Ck [1,2,3,16,17,29] J <| bY J <| Rg 1 J <| Ua J J <| Wn <| aN <| aP <| cR <| aP <| post (n := 0) (.inr J) J ?_ dD
  exact congrArg (fun z => LV.v (.bool z)) (covQ_2 h12 (covS_F (k := kk) om h29))
 refine bG (dX (rn n) (by simp only [List.reverse_cons, List.reverse_nil, List.nil_append, List.cons_append, List.map_cons, List.map_nil, ren, keys, Nat.add_assoc, iR, show rn n 0 = 0 from kG om]; kernel_rfl)) J <| Ck [1,2,3,16,17,29] J <| bV J <| cA <| aF <| aI (z := 2) J <| aA (cI (((kk + 1 : Nat) : Int)) (aO J J om) om) J <| Um J J <| Wn <| aG <| ⟨kk + 1, ⟨J, J, J, J, J, trivial⟩, ⟨gG, trivial⟩, ⟨om, fun a ha => ?_, om⟩, by show p.2.2.2.length - (kk + 1) < p.2.2.2.length - kk; omega⟩
 by_cases e : a = kk
 ·rw [e]; exact h29
 ·exact hok a om
end Go.Proofs.YtohfklpfeilcpaaGreat
namespace Go.Proofs.YtohfklpfeilcpaaGreat
open Go.Ab Go.RowKit
theorem qlvalid_run (p : PB) (hI : IP p) : Run Tryz.prog T E0 (.call 9 [lvPb p] (.v (.bool (vP p)))) := by
 refine bL Tryz.func9 J J (dH J) <| Rg 2 J <| bJ (eO J J) J <| Ua J J <| Wn <| aB <| Rg 37 J <| aA (aU J J J J J) J <| aA (aM (l := .sl p.1.1 (p.1.2.map fM)) J J gG J J) J ?_
 refine aA (aK J (qvalid_run p.1.1 p.1.2 hI.m (by have := hI.lm; omega) (fun r hr => by have := hI.lw r hr; omega)) (aJ (by intro c hc; simp only [List.mem_cons, List.not_mem_nil, or_false] at hc; rcases hc with rfl; exact (.sl _ _ (aY dfM))))) J <| dT (fun h5 => ?_) (fun h5 => ?_)
 rotate_left
 ·refine aA (dE J) J <| Um J J <| K1 J J <| K1 J J <| K1 J J <| K1 J J <| aA (bM J J) J <| Um J J <| K1 J J <| K1 J J <| K1 J J <| K1 J J <| aA (bM J J) J <| Um J J <| K1 J J <| K1 J J <| K1 J J <| K1 J J <| K1 J J <| K1 J J <| K1 J J <| aA (bM J J) J <| Um J J <| K1 J J ?_
  refine K1 J J <| K1 J J <| K1 J J <| aA (bM J J) J <| Um J J <| K1 J J <| K1 J J <| K1 J J <| K1 J J <| aA (bM J J) J <| Nk [1,39] J <| aT J <| aB <| Rg 1 J <| Ua J J <| Wn <| bI <| post (n := 0) (.inr J) J ?_ dD
  refine congrArg (fun z => LV.v (.bool z)) ?_
  first | exact nP h5 | exact vQ_2 h11 | exact nQ h16 | exact vQ_4 h26 | exact nR h31 | exact vQ_6 h38 | exact vQ_7 h5 h11 h16 h26 h31 h38 h43 | exact vQ_8 h5 h11 h16 h26 h31 h38 h43
 refine aA (dE J) J <| Um J J <| aE J (aU J J J J J) J <| aE J (aM (l := .sl p.1.1 (p.1.2.map fM)) J J gG J J) J ?_
 refine aE J (aW J J) J <| aE J (eB J J) J <| bB (fun h11 => ?_) (fun h11 => ?_)
 ·refine aA (bK J J) J <| Um J J <| K1 J J <| K1 J J <| K1 J J <| K1 J J <| aA (bM J J) J <| Um J J <| K1 J J <| K1 J J <| K1 J J <| K1 J J <| K1 J J <| K1 J J <| K1 J J <| aA (bM J J) J <| Um J J <| K1 J J <| K1 J J <| K1 J J <| K1 J J <| aA (bM J J) J <| Um J J <| K1 J J ?_
  refine K1 J J <| K1 J J <| K1 J J <| aA (bM J J) J <| Nk [1,39] J <| aT J <| aB <| Rg 1 J <| Ua J J <| Wn <| bI <| post (n := 0) (.inr J) J ?_ dD
  refine congrArg (fun z => LV.v (.bool z)) ?_
  first | exact nP h5 | exact vQ_2 h11 | exact nQ h16 | exact vQ_4 h26 | exact nR h31 | exact vQ_6 h38 | exact vQ_7 h5 h11 h16 h26 h31 h38 h43 | exact vQ_8 h5 h11 h16 h26 h31 h38 h43
 refine aA (bK J J) J <| Um J J <| aE J (aU J J J J J) J <| aE J (aM (l := .sl p.2.1.1 (p.2.1.2.map mc)) J J gG J J) J ?_
 refine aE J (aK J (kF p.2.1.1 p.2.1.2 hI.r (by have := hI.lr; omega)) (aJ (by intro c hc; simp only [List.mem_cons, List.not_mem_nil, or_false] at hc; rcases hc with rfl; exact (.sl _ _ (aY eS))))) J <| dT (fun h16 => ?_) (fun h16 => ?_)
 rotate_left
 ·refine aE J (dE J) J <| aA (bK J J) J <| Um J J <| K1 J J <| K1 J J <| K1 J J <| K1 J J <| K1 J J <| K1 J J <| K1 J J <| aA (bM J J) J <| Um J J <| K1 J J <| K1 J J <| K1 J J <| K1 J J <| aA (bM J J) J <| Um J J <| K1 J J <| K1 J J <| K1 J J <| K1 J J <| aA (bM J J) J <| cJ ?_
  refine Ck [1,39] J <| aT J <| aB <| Rg 1 J <| Ua J J <| Wn <| bI <| post (n := 0) (.inr J) J ?_ dD
  refine congrArg (fun z => LV.v (.bool z)) ?_
  first | exact nP h5 | exact vQ_2 h11 | exact nQ h16 | exact vQ_4 h26 | exact nR h31 | exact vQ_6 h38 | exact vQ_7 h5 h11 h16 h26 h31 h38 h43 | exact vQ_8 h5 h11 h16 h26 h31 h38 h43
 refine aE J (dE J) J <| aA (bK J J) J <| Um J J <| aE J (aU J J J J J) J <| aE J (aM (l := .sl p.2.1.1 (p.2.1.2.map mc)) J J gG J J) J ?_
 refine aE J (aW J J) J <| aE J (aU J J J J J) J <| aE J (aM (l := .sl p.1.1 (p.1.2.map fM)) J J gG J J) J ?_
 refine aE J (aW J J) J <| aE J (gJ J J) J <| bB (fun h26 => ?_) (fun h26 => ?_)
 ·refine aA (bK J J) J <| Um J J <| K1 J J <| K1 J J <| K1 J J <| K1 J J <| aA (bM J J) J <| Um J J <| K1 J J <| K1 J J <| K1 J J <| K1 J J <| aA (bM J J) J <| Nk [1,39] J <| aT J <| aB <| Rg 1 J <| Ua J J <| Wn <| bI <| post (n := 0) (.inr J) J ?_ dD
  refine congrArg (fun z => LV.v (.bool z)) ?_
  first | exact nP h5 | exact vQ_2 h11 | exact nQ h16 | exact vQ_4 h26 | exact nR h31 | exact vQ_6 h38 | exact vQ_7 h5 h11 h16 h26 h31 h38 h43 | exact vQ_8 h5 h11 h16 h26 h31 h38 h43
 refine aA (bK J J) J <| Um J J <| aE J (aU J J J J J) J <| aE J (aM (l := .sl p.2.2.1 (p.2.2.2.map mc)) J J gG J J) J ?_
 refine aE J (aK J (kF p.2.2.1 p.2.2.2 hI.g (by have := hI.lg; omega)) (aJ (by intro c hc; simp only [List.mem_cons, List.not_mem_nil, or_false] at hc; rcases hc with rfl; exact (.sl _ _ (aY eS))))) J <| dT (fun h31 => ?_) (fun h31 => ?_)
 rotate_left
 ·refine aE J (dE J) J <| aA (bK J J) J <| Um J J <| K1 J J <| K1 J J <| K1 J J <| K1 J J <| aA (bM J J) J <| Nk [1,39] J <| aT J <| aB <| Rg 1 J <| Ua J J <| Wn <| bI <| post (n := 0) (.inr J) J ?_ dD
  refine congrArg (fun z => LV.v (.bool z)) ?_
  first | exact nP h5 | exact vQ_2 h11 | exact nQ h16 | exact vQ_4 h26 | exact nR h31 | exact vQ_6 h38 | exact vQ_7 h5 h11 h16 h26 h31 h38 h43 | exact vQ_8 h5 h11 h16 h26 h31 h38 h43
 refine aE J (dE J) J <| aA (bK J J) J <| Um J J <| aE J (aU J J J J J) J <| aE J (aM (l := .sl p.2.2.1 (p.2.2.2.map mc)) J J gG J J) J ?_
 refine aE J (aW J J) J <| aE J (eB J J) J <| bB (fun h38 => ?_) (fun h38 => ?_)
 ·refine aA (bK J J) J <| Nk [1,39] J <| aT J <| aB <| Rg 1 J <| Ua J J <| Wn <| bI <| post (n := 0) (.inr J) J ?_ dD
  refine congrArg (fun z => LV.v (.bool z)) ?_
  first | exact nP h5 | exact vQ_2 h11 | exact nQ h16 | exact vQ_4 h26 | exact nR h31 | exact vQ_6 h38 | exact vQ_7 h5 h11 h16 h26 h31 h38 h43 | exact vQ_8 h5 h11 h16 h26 h31 h38 h43
 refine aA (bK J J) J <| Nk [1,39] J <| aX J <| aH <| bR (z := 14) J kR <| aC (aU J J J J J) J <| aC (aM (l := .sl p.1.1 (p.1.2.map fM)) J J gG J J) J ?_
 refine aC (aW J J) J <| aC (dV J J) J <| jD (fun h43 => ?_) (fun h43 => ?_)
 ·refine Dm J J <| bE J J <| bE J J <| bE J J <| bE J J <| bE J J <| bE J J <| bE J J <| aC (bM J J) J <| aC (gX J) J <| bG (aQ kR) J <| Ck [2] J <| aN <| post (n := 0) (.inr J) J ?_ dD
  refine congrArg (fun z => LV.v (.bool z)) ?_
  first | exact nP h5 | exact vQ_2 h11 | exact nQ h16 | exact vQ_4 h26 | exact nR h31 | exact vQ_6 h38 | exact vQ_7 h5 h11 h16 h26 h31 h38 h43 | exact vQ_8 h5 h11 h16 h26 h31 h38 h43
 refine Dm J J <| bC J (aU J J J J J) J <| bC J (aM (l := .sl p.1.1 (p.1.2.map fM)) J J gG J J) J ?_
 refine bC J (aK J (nwidth_run p.1.1 p.1.2) (aJ (by intro c hc; simp only [List.mem_cons, List.not_mem_nil, or_false] at hc; rcases hc with rfl; exact (.sl _ _ (aY dfM))))) J <| bC J (aU J J J J J) J <| bC J (aM (l := .sl p.2.2.1 (p.2.2.2.map mc)) J J gG J J) J ?_
 refine bC J (aW J J) J <| bC J (dV J J) J <| aC (bK J J) J <| aC (gX J) J <| bG (aQ kR) J <| Ck [2] J <| aN <| post (n := 0) (.inr J) J ?_ dD
 refine congrArg (fun z => LV.v (.bool z)) ?_
 first | exact nP h5 | exact vQ_2 h11 | exact nQ h16 | exact vQ_4 h26 | exact nR h31 | exact vQ_6 h38 | exact vQ_7 h5 h11 h16 h26 h31 h38 h43 | exact vQ_8 h5 h11 h16 h26 h31 h38 h43
theorem oZ (p : PB) : Run Tryz.prog T E0 (.call 10 [lvPb p] (lvPb p)) := by
 refine bL Tryz.func10 J J (dH J) <| Rg 2 J <| bJ (eO J J) J <| bJ (fD J) J <| Wn <| Rg 2 J <| aA (aM (l := lvPb p) J J gG J J) J ?_
 refine bH (cP (cs' := pbc p) J J J g0 J J J J) <| Wn <| aN ?_
 exact post (n := 0) (.inr J) J J gZ
theorem fewL_run (p : PB) : Run Tryz.prog T E0 (.call 7 [lvPb p] (.v (.bool (fewL p)))) := by
 refine bL Tryz.func7 J J (dH J) <| Rg 2 J <| bJ (eO J J) J <| Ua J J <| Wn <| Rg 28 J <| aA (aU J J J J J) J <| aA (aM (l := .sl p.1.1 (p.1.2.map fM)) J J gG J J) J ?_
 refine aA (aK J (few_run p.1.1 p.1.2) (aJ (by intro c hc; simp only [List.mem_cons, List.not_mem_nil, or_false] at hc; rcases hc with rfl | rfl; exact (.v _); exact (.sl _ _ (aY dfM))))) J <| dT (fun h5 => ?_) (fun h5 => ?_)
 rotate_left
 ·refine Um J J <| K1 J J <| K1 J J <| K1 J J <| K1 J J <| aA (bK J J) J <| Um J J <| K1 J J <| K1 J J <| K1 J J <| K1 J J <| K1 J J <| K1 J J <| K1 J J <| K1 J J <| K1 J J <| K1 J J <| K1 J J <| K1 J J <| K1 J J <| K1 J J <| K1 J J <| K1 J J <| aA (bK J J) J ?_
  refine Ua J J <| Nk [2] J <| aN <| post (n := 0) (.inr J) J ?_ dD
  refine congrArg (fun z => LV.v (.bool z)) ?_
  first | exact rG h5 | exact rH h10 | exact rI h5 h10 h16 | exact rJ h16 h21 | exact rK h5 h10 h16 h21
 refine Um J J <| aE J (aU J J J J J) J <| aE J (aM (l := .sl p.2.1.1 (p.2.1.2.map mc)) J J gG J J) J ?_
 refine aE J (aW J J) J <| aE J (nL J J) J <| bB (fun h10 => ?_) (fun h10 => ?_)
 rotate_left
 ·refine aA (bM J J) J <| Um J J <| K1 J J <| K1 J J <| K1 J J <| K1 J J <| K1 J J <| K1 J J <| K1 J J <| K1 J J <| K1 J J <| K1 J J <| K1 J J <| K1 J J <| K1 J J <| K1 J J <| K1 J J <| K1 J J <| aA (bK J J) J <| Ua J J <| Nk [2] J <| aN <| post (n := 0) (.inr J) J ?_ dD
  refine congrArg (fun z => LV.v (.bool z)) ?_
  first | exact rG h5 | exact rH h10 | exact rI h5 h10 h16 | exact rJ h16 h21 | exact rK h5 h10 h16 h21
 refine aA (bM J J) J <| Um J J <| aE J (aU J J J J J) J <| aE J (aM (l := .sl p.2.2.1 (p.2.2.2.map mc)) J J gG J J) J ?_
 refine aE J (aW J J) J <| aE J (nL J J) J <| bB (fun h16 => ?_) (fun h16 => ?_)
 ·refine aE J (dK J) J <| K1 J J <| K1 J J <| K1 J J <| K1 J J <| K1 J J <| K1 J J <| K1 J J <| K1 J J <| K1 J J <| K1 J J <| aE J (bM J J) J <| aA (bM J J) J <| Ua J J <| Nk [2] J <| aN <| post (n := 0) (.inr J) J ?_ dD
  refine congrArg (fun z => LV.v (.bool z)) ?_
  first | exact rG h5 | exact rH h10 | exact rI h5 h10 h16 | exact rJ h16 h21 | exact rK h5 h10 h16 h21
 refine aE J (dK J) J <| aE J (aU J J J J J) J <| aE J (aM (l := .sl p.2.2.1 (p.2.2.2.map mc)) J J gG J J) J ?_
 refine aE J (aW J J) J <| aE J (eB J J) J <| bB (fun h21 => ?_) (fun h21 => ?_)
 ·refine aE J (dK J) J <| aE J (aU J J J J J) J <| aE J (aM (l := .sl p.2.2.1 (p.2.2.2.map mc)) J J gG J J) J ?_
  refine aE J (aW J J) J <| aE J (nL J J) J <| aE J (bM J J) J <| aE J (bK J J) J <| aA (bM J J) J <| Ua J J <| Nk [2] J <| aN <| post (n := 0) (.inr J) J ?_ dD
  refine congrArg (fun z => LV.v (.bool z)) ?_
  first | exact rG h5 | exact rH h10 | exact rI h5 h10 h16 | exact rJ h16 h21 | exact rK h5 h10 h16 h21
 refine aE J (dK J) J <| K1 J J <| K1 J J <| K1 J J <| K1 J J <| aE J (bK J J) J <| aE J (bK J J) J <| aA (bM J J) J <| Ua J J <| Nk [2] J <| aN <| post (n := 0) (.inr J) J ?_ dD
 refine congrArg (fun z => LV.v (.bool z)) ?_
 first | exact rG h5 | exact rH h10 | exact rI h5 h10 h16 | exact rJ h16 h21 | exact rK h5 h10 h16 h21
end Go.Proofs.YtohfklpfeilcpaaGreat
namespace Go.Proofs.YtohfklpfeilcpaaGreat
open Go.Ab Go.RowKit
theorem qcor_run (p : PB) (r : RS) (hV : VP p) (hI : IP p) (hR : IR r) : Run Tryz.prog T E0 (.call 17 [lvPb p, lvRs r] (.v (.bool (chkS p r)))) := by
 have hrows := hV.rows
 have hcols := hV.cols
 have hrl := hV.rl
 obtain ⟨hr60, hrv⟩ := nT hV.r
 obtain ⟨hg60, hgv⟩ := nT hV.g
 have hlx := hR.lx
 have hly := hR.ly
 have hlr := hR.lr
 refine bL Tryz.func17 J J (dH J) <| Rg 3 J <| bJ (eO J J) J <| bJ (eO J J) J <| Ua J J <| Wn <| Rg 5 J <| aA (aU J J J J J) J <| aA (aM (l := .sl p.2.2.1 (p.2.2.2.map mc)) J J gG J J) J ?_
 refine aA (aW J J) J <| bJ (oMk (a := p.2.2.2.length) (b := p.2.2.2.length) J J J J om om (by decide) om (by show 80 * p.2.2.2.length ≤ _; omega) om) J <| Ua J J <| Wn <| aB <| Rg 3 J <| Um J J <| aA (gY J J) J <| Um J J <| Wn <| aL <| bF (α := Nat × (List (Option Rat))) (fun ⟨i, us⟩ => [(2, .ptr 0 0), (3, .ptr (0 + 1) 0), (5, .ref (0 + 3 + (0 + 1 + 1 + 1)) 6 0 p.2.2.2.length), (15, .v (.int .i64 (p.2.2.2.length : Int))), (16, .v (.int .i64 (i : Int)))]) (fun ⟨i, us⟩ => [((0 + 3 + (0 + 1 + 1 + 1)), { cells := ((us).map zq).flatten, sz := 6, elem := (35), st := 0 }), ((0 + 1), { cells := resc r, sz := 6, elem := (50), st := 0 }), (0, { cells := pbc p, sz := 3, elem := (29), st := 0 })]) (fun ⟨i, us⟩ n => i ≤ p.2.2.2.length ∧ us.length = p.2.2.2.length ∧ (∀ j, j < i → us.getD j default = some 0) ∧ 6 < n) (fun ⟨i, us⟩ => p.2.2.2.length - i) (0, List.replicate p.2.2.2.length none) ⟨J, J, J, J, J, trivial⟩ ⟨g0.trans (by rw [List.map_replicate]; rfl), gG, gG, trivial⟩ ⟨Nat.zero_le _, by simp, fun j hj => absurd hj om, om⟩ ?_
 rintro ⟨i, us⟩ n hF
 change WC _ _ _ _ _ (_ :: _) (_ :: _) n _
 obtain ⟨hi, hul, hz, hn⟩ := hF
 refine Rg 1 J <| aA (bZ J J) J <| bB (fun h17 => ?_) (fun h17 => ?_)
 ·refine Wn <| aT J <| aH <| aL <| Rg 2 J <| Um J J <| Ua J J <| Wn <| aI (z := 5) J <| Um J J <| Um J J <| aA (aV (b := lvQ 0) (aK J (nK 0 (by decide)) dD) J) J <| aA (cH (j := i) J J J J om om J) J <| bH (fG (f := zq) (us := us) (some 0) J J J gG zq_len J J om J) ?_
  refine Wn <| aF <| aI (z := 2) J <| aA (cI (((i + 1 : Nat) : Int)) (aO J J om) om) J <| Um J J <| Wn <| aG <| ⟨⟨i + 1, us.set i (some 0)⟩, ⟨J, J, J, J, J, trivial⟩, ⟨gG, gG, gG, trivial⟩, ⟨om, by rw [List.length_set]; exact hul, fun j hj => ?_, om⟩, by show p.2.2.2.length - (i + 1) < p.2.2.2.length - i; omega⟩
  rw [fV om]
  by_cases e : i = j
  ·rw [if_pos e]
  ·rw [if_neg e]; exact hz j om
 refine Wn <| aX J <| bA <| aS <| aR J <| aB ?_
 have hin : i = p.2.2.2.length := by omega
 have hus : us.map zq = (zeroL p.2.2.2.length).map qc := by
  rw [show us = List.replicate p.2.2.2.length (some (0 : Rat)) from mA (by rw [List.length_replicate]; exact hul) fun j hj => by rw [hz j om]; simp [List.getD_eq_getElem?_getD, show j < p.2.2.2.length by omega], zeroL, List.map_replicate, List.map_replicate]; rfl
 refine iW [((0 + 3 + (0 + 1 + 1 + 1)), { cells := ((zeroL p.2.2.2.length).map qc).flatten, sz := 6, elem := (35), st := 0 }), ((0 + 1), { cells := resc r, sz := 6, elem := (50), st := 0 }), (0, { cells := pbc p, sz := 3, elem := (29), st := 0 })] ⟨by rw [← hus]; exact gG, gG, gG, trivial⟩ ?_
 refine Rg 2 J <| aA (aU J J J J J) J <| aA (aM J J gG J J) J ?_
 refine Wn <| aL <| Rg 2 J <| aA (dV J J) J <| bB (fun h27 => ?_) (fun h27 => ?_)
 ·refine Ua J J <| Wn <| bY J <| Rg 33 J <| aA (aU J J J J J) J <| aA (aM (l := lvM r.2.1) J J gG J J) J ?_
  refine aA (gS (cs := mc (0, 0)) J J J J J) J <| aA (aV (b := .v (.bool (decide (r.2.1 = ((0, 0) : NM))))) (oEqS J J J J (lB _ _)) (congrArg (fun z => LV.v (.bool z)) (nm_eq _ _))) J <| dT (fun h31 => ?_) (fun h31 => ?_)
  rotate_left
  ·refine Um J J <| K1 J J <| K1 J J <| K1 J J <| K1 J J <| aA (bK J J) J <| Um J J <| K1 J J <| K1 J J <| K1 J J <| K1 J J <| aA (bK J J) J <| Um J J <| K1 J J <| K1 J J <| K1 J J <| K1 J J <| K1 J J <| aA (bK J J) J <| Um J J <| K1 J J <| K1 J J <| K1 J J <| K1 J J ?_
   refine K1 J J <| K1 J J <| K1 J J <| aA (bK J J) J <| Ua J J <| Nk [4] J <| aN <| aP <| post (n := 0) (.inr J) J ?_ dD
   refine congrArg (fun z => LV.v (.bool z)) ?_
   first | exact bX h27 (cS h31) | exact bX h27 (iC h36) | exact bX h27 (iD h42) | exact bX h27 (iE h49) | exact bX h27 (iF h31 h36 h42 h49) | exact bT h27 h61 (cU h65) | exact bT h27 h61 (iG h70) | exact bT h27 h61 (cV h76) | exact bT h27 h61 (cW h85) | exact bT h27 h61 (cX (iM (i := i) om h100)) | exact bT h27 h61 (iH h65 h70 h76 h85 (fun a ha => hok a om)) | exact bU h27 h61 h110 (cY h113) | exact bU h27 h61 h110 (iI h119) | exact bU h27 h61 h110 (cZ h125) | exact bU h27 h61 h110 (iJ h135) | exact bU h27 h61 h110 (iK h148) | exact bU h27 h61 h110 (iL h113 h119 h125 h135 h148) | exact iB h27 h61 h110
  refine Um J J <| aE J (aU J J J J J) J <| aE J (aM (l := .sl r.2.2.1.1 (r.2.2.1.2.map mc)) J J gG J J) J ?_
  refine aE J (aW J J) J <| aE J (dV J J) J <| bB (fun h36 => ?_) (fun h36 => ?_)
  rotate_left
  ·refine aA (bM J J) J <| Um J J <| K1 J J <| K1 J J <| K1 J J <| K1 J J <| aA (bK J J) J <| Um J J <| K1 J J <| K1 J J <| K1 J J <| K1 J J <| K1 J J <| aA (bK J J) J <| Um J J <| K1 J J <| K1 J J <| K1 J J <| K1 J J <| K1 J J <| K1 J J <| K1 J J <| aA (bK J J) J <| Ua J J ?_
   refine Nk [4] J <| aN <| aP <| post (n := 0) (.inr J) J ?_ dD
   refine congrArg (fun z => LV.v (.bool z)) ?_
   first | exact bX h27 (cS h31) | exact bX h27 (iC h36) | exact bX h27 (iD h42) | exact bX h27 (iE h49) | exact bX h27 (iF h31 h36 h42 h49) | exact bT h27 h61 (cU h65) | exact bT h27 h61 (iG h70) | exact bT h27 h61 (cV h76) | exact bT h27 h61 (cW h85) | exact bT h27 h61 (cX (iM (i := i) om h100)) | exact bT h27 h61 (iH h65 h70 h76 h85 (fun a ha => hok a om)) | exact bU h27 h61 h110 (cY h113) | exact bU h27 h61 h110 (iI h119) | exact bU h27 h61 h110 (cZ h125) | exact bU h27 h61 h110 (iJ h135) | exact bU h27 h61 h110 (iK h148) | exact bU h27 h61 h110 (iL h113 h119 h125 h135 h148) | exact iB h27 h61 h110
  refine aA (bM J J) J <| Um J J <| aE J (aU J J J J J) J <| aE J (aM (l := .sl r.2.2.2.2.1 (r.2.2.2.2.2.map mc)) J J gG J J) J ?_
  refine aE J (aW J J) J <| aE J (dV J J) J <| bB (fun h42 => ?_) (fun h42 => ?_)
  rotate_left
  ·refine aA (bM J J) J <| Um J J <| K1 J J <| K1 J J <| K1 J J <| K1 J J <| K1 J J <| aA (bK J J) J <| Um J J <| K1 J J <| K1 J J <| K1 J J <| K1 J J <| K1 J J <| K1 J J <| K1 J J <| aA (bK J J) J <| Ua J J <| Nk [4] J <| aN <| aP <| post (n := 0) (.inr J) J ?_ dD
   refine congrArg (fun z => LV.v (.bool z)) ?_
   first | exact bX h27 (cS h31) | exact bX h27 (iC h36) | exact bX h27 (iD h42) | exact bX h27 (iE h49) | exact bX h27 (iF h31 h36 h42 h49) | exact bT h27 h61 (cU h65) | exact bT h27 h61 (iG h70) | exact bT h27 h61 (cV h76) | exact bT h27 h61 (cW h85) | exact bT h27 h61 (cX (iM (i := i) om h100)) | exact bT h27 h61 (iH h65 h70 h76 h85 (fun a ha => hok a om)) | exact bU h27 h61 h110 (cY h113) | exact bU h27 h61 h110 (iI h119) | exact bU h27 h61 h110 (cZ h125) | exact bU h27 h61 h110 (iJ h135) | exact bU h27 h61 h110 (iK h148) | exact bU h27 h61 h110 (iL h113 h119 h125 h135 h148) | exact iB h27 h61 h110
  refine aA (bM J J) J <| Um J J <| aE J (aM (l := lvPb p) J J gG J J) J ?_
  refine aE J (aU J J J J J) J <| aE J (aM (l := .sl r.2.2.2.1.1 (r.2.2.2.1.2.map mc)) J J gG J J) J ?_
  refine aE J (dK J) J <| aE J (oCallB [(0 + 3 + (0 + 1 + 1 + 1))] [lvPb p, .sl r.2.2.2.1.1 (r.2.2.2.1.2.map mc), .sl 1 ((zeroL p.2.2.2.length).map qc)] J (qcov_run r.2.2.2.1.1 1 p r.2.2.2.1.2 (zeroL p.2.2.2.length) hV hI hR.y hR.ly (by simp [zeroL]) (by intro x hx; rw [(List.mem_replicate.1 hx).2]; exact Bd_0.mono om)) (.data gZ (.data (.sl _ _ (aY eS)) (.own ((zeroL p.2.2.2.length).map qc) (by rw [List.length_map]; simp [zeroL]) gG (by show (0 : Nat) ≠ 2; decide) J (by decide) (by simp) J (fE (f := qc) (n := 6) fun _ => rfl) (aY qH) .nil))) (.cons gG (by show (0 : Nat) ≠ 2; decide) lent0)) J ?_
  refine dT (fun h49 => ?_) (fun h49 => ?_)
  rotate_left
  ·refine aA (bM J J) J <| Um J J <| K1 J J <| K1 J J <| K1 J J <| K1 J J <| K1 J J <| K1 J J <| K1 J J <| aA (bK J J) J <| Ua J J <| Nk [4] J <| aN <| aP <| post (n := 0) (.inr J) J ?_ dD
   refine congrArg (fun z => LV.v (.bool z)) ?_
   first | exact bX h27 (cS h31) | exact bX h27 (iC h36) | exact bX h27 (iD h42) | exact bX h27 (iE h49) | exact bX h27 (iF h31 h36 h42 h49) | exact bT h27 h61 (cU h65) | exact bT h27 h61 (iG h70) | exact bT h27 h61 (cV h76) | exact bT h27 h61 (cW h85) | exact bT h27 h61 (cX (iM (i := i) om h100)) | exact bT h27 h61 (iH h65 h70 h76 h85 (fun a ha => hok a om)) | exact bU h27 h61 h110 (cY h113) | exact bU h27 h61 h110 (iI h119) | exact bU h27 h61 h110 (cZ h125) | exact bU h27 h61 h110 (iJ h135) | exact bU h27 h61 h110 (iK h148) | exact bU h27 h61 h110 (iL h113 h119 h125 h135 h148) | exact iB h27 h61 h110
  obtain ⟨hyl, hyv⟩ := hN (mL h49).1
  refine aA (bM J J) J <| Um J J <| aE J (aU J J J J J) J <| aE J (aM (l := .sl p.2.1.1 (p.2.1.2.map mc)) J J gG J J) J ?_
  refine aE J (aU J J J J J) J <| aE J (aM (l := .sl r.2.2.2.1.1 (r.2.2.2.1.2.map mc)) J J gG J J) J ?_
  refine aE J (aK J (mR p.2.1.1 r.2.2.2.1.1 p.2.1.2 r.2.2.2.1.2 hI.r hR.y hrv (fun a ha => (hyv a ha).1) om om om) (aJ (by intro c hc; simp only [List.mem_cons, List.not_mem_nil, or_false] at hc; rcases hc with rfl | rfl; exact (.sl _ _ (aY eS)); exact (.sl _ _ (aY eS))))) J <| aE J (aK J (iP (dtN p.2.1.2 r.2.2.2.1.2)) (aJ (by intro c hc; simp only [List.mem_cons, List.not_mem_nil, or_false] at hc; rcases hc with rfl; exact (.agg _ (qH _))))) J <| aE J (bZ J J) J <| aA (bM J J) J <| Ua J J <| Nk [4] J <| aN <| aP <| post (n := 0) (.inr J) J ?_ dD
  refine congrArg (fun z => LV.v (.bool z)) ?_
  first | exact bX h27 (cS h31) | exact bX h27 (iC h36) | exact bX h27 (iD h42) | exact bX h27 (iE h49) | exact bX h27 (iF h31 h36 h42 h49) | exact bT h27 h61 (cU h65) | exact bT h27 h61 (iG h70) | exact bT h27 h61 (cV h76) | exact bT h27 h61 (cW h85) | exact bT h27 h61 (cX (iM (i := i) om h100)) | exact bT h27 h61 (iH h65 h70 h76 h85 (fun a ha => hok a om)) | exact bU h27 h61 h110 (cY h113) | exact bU h27 h61 h110 (iI h119) | exact bU h27 h61 h110 (cZ h125) | exact bU h27 h61 h110 (iJ h135) | exact bU h27 h61 h110 (iK h148) | exact bU h27 h61 h110 (iL h113 h119 h125 h135 h148) | exact iB h27 h61 h110
 refine Ua J J <| Wn <| bV J <| Rg 2 J <| aA (dV J J) J <| bB (fun h61 => ?_) (fun h61 => ?_)
 ·refine Ua J J <| Wn <| bY J <| aB <| Rg 26 J <| aA (aU J J J J J) J <| aA (aM (l := lvM r.2.1) J J gG J J) J ?_
  refine aA (gS (cs := mc (0, 0)) J J J J J) J <| aA (aV (b := .v (.bool (!decide (r.2.1 = ((0, 0) : NM))))) (oNeS J J J J (lB _ _)) (congrArg (fun z => LV.v (.bool (!z))) (nm_eq _ _))) J <| dT (fun h65 => ?_) (fun h65 => ?_)
  ·refine Um J J <| K1 J J <| K1 J J <| K1 J J <| K1 J J <| aA (bM J J) J <| Um J J <| K1 J J <| K1 J J <| K1 J J <| K1 J J <| K1 J J <| aA (bM J J) J <| Um J J <| K1 J J <| K1 J J <| K1 J J <| K1 J J <| K1 J J <| K1 J J <| K1 J J <| aA (bM J J) J <| Nk [2,3,87] J ?_
   refine aT J <| aB <| Rg 1 J <| Ua J J <| Wn <| bI <| aP <| post (n := 0) (.inr J) J ?_ dD
   refine congrArg (fun z => LV.v (.bool z)) ?_
   first | exact bX h27 (cS h31) | exact bX h27 (iC h36) | exact bX h27 (iD h42) | exact bX h27 (iE h49) | exact bX h27 (iF h31 h36 h42 h49) | exact bT h27 h61 (cU h65) | exact bT h27 h61 (iG h70) | exact bT h27 h61 (cV h76) | exact bT h27 h61 (cW h85) | exact bT h27 h61 (cX (iM (i := i) om h100)) | exact bT h27 h61 (iH h65 h70 h76 h85 (fun a ha => hok a om)) | exact bU h27 h61 h110 (cY h113) | exact bU h27 h61 h110 (iI h119) | exact bU h27 h61 h110 (cZ h125) | exact bU h27 h61 h110 (iJ h135) | exact bU h27 h61 h110 (iK h148) | exact bU h27 h61 h110 (iL h113 h119 h125 h135 h148) | exact iB h27 h61 h110
  refine Um J J <| aE J (aU J J J J J) J <| aE J (aM (l := .sl r.2.2.2.1.1 (r.2.2.2.1.2.map mc)) J J gG J J) J ?_
  refine aE J (aW J J) J <| aE J (gJ J J) J <| bB (fun h70 => ?_) (fun h70 => ?_)
  ·refine aA (bK J J) J <| Um J J <| K1 J J <| K1 J J <| K1 J J <| K1 J J <| K1 J J <| aA (bM J J) J <| Um J J <| K1 J J <| K1 J J <| K1 J J <| K1 J J <| K1 J J <| K1 J J <| K1 J J <| aA (bM J J) J <| Nk [2,3,87] J <| aT J <| aB <| Rg 1 J <| Ua J J <| cJ ?_
   refine bI <| aP <| post (n := 0) (.inr J) J ?_ dD
   refine congrArg (fun z => LV.v (.bool z)) ?_
   first | exact bX h27 (cS h31) | exact bX h27 (iC h36) | exact bX h27 (iD h42) | exact bX h27 (iE h49) | exact bX h27 (iF h31 h36 h42 h49) | exact bT h27 h61 (cU h65) | exact bT h27 h61 (iG h70) | exact bT h27 h61 (cV h76) | exact bT h27 h61 (cW h85) | exact bT h27 h61 (cX (iM (i := i) om h100)) | exact bT h27 h61 (iH h65 h70 h76 h85 (fun a ha => hok a om)) | exact bU h27 h61 h110 (cY h113) | exact bU h27 h61 h110 (iI h119) | exact bU h27 h61 h110 (cZ h125) | exact bU h27 h61 h110 (iJ h135) | exact bU h27 h61 h110 (iK h148) | exact bU h27 h61 h110 (iL h113 h119 h125 h135 h148) | exact iB h27 h61 h110
  refine aA (bK J J) J <| Um J J <| aE J (aM (l := lvPb p) J J gG J J) J ?_
  refine aE J (aU J J J J J) J <| aE J (aM (l := .sl r.2.2.1.1 (r.2.2.1.2.map mc)) J J gG J J) J ?_
  refine aE J (aK J (pG r.2.2.1.1 p r.2.2.1.2 hV hI hR.x hR.lx) (aJ (by intro c hc; simp only [List.mem_cons, List.not_mem_nil, or_false] at hc; rcases hc with rfl | rfl; exact gZ; exact (.sl _ _ (aY eS))))) J <| dT (fun h76 => ?_) (fun h76 => ?_)
  rotate_left
  ·refine aE J (dE J) J <| aA (bK J J) J <| Um J J <| K1 J J <| K1 J J <| K1 J J <| K1 J J <| K1 J J <| K1 J J <| K1 J J <| aA (bM J J) J <| Nk [2,3,87] J <| aT J <| aB <| Rg 1 J <| Ua J J <| Wn <| bI <| aP <| post (n := 0) (.inr J) J ?_ dD
   refine congrArg (fun z => LV.v (.bool z)) ?_
   first | exact bX h27 (cS h31) | exact bX h27 (iC h36) | exact bX h27 (iD h42) | exact bX h27 (iE h49) | exact bX h27 (iF h31 h36 h42 h49) | exact bT h27 h61 (cU h65) | exact bT h27 h61 (iG h70) | exact bT h27 h61 (cV h76) | exact bT h27 h61 (cW h85) | exact bT h27 h61 (cX (iM (i := i) om h100)) | exact bT h27 h61 (iH h65 h70 h76 h85 (fun a ha => hok a om)) | exact bU h27 h61 h110 (cY h113) | exact bU h27 h61 h110 (iI h119) | exact bU h27 h61 h110 (cZ h125) | exact bU h27 h61 h110 (iJ h135) | exact bU h27 h61 h110 (iK h148) | exact bU h27 h61 h110 (iL h113 h119 h125 h135 h148) | exact iB h27 h61 h110
  refine aE J (dE J) J <| aA (bK J J) J <| Um J J <| aE J (aU J J J J J) J <| aE J (aM (l := .sl r.2.2.2.2.1 (r.2.2.2.2.2.map mc)) J J gG J J) J ?_
  refine aE J (aU J J J J J) J <| aE J (aM (l := .sl p.2.2.1 (p.2.2.2.map mc)) J J gG J J) J ?_
  refine aE J (aW J J) J <| aE J (aK J (qpos_run r.2.2.2.2.1 r.2.2.2.2.2 p.2.2.2.length hR.ray hR.lr) (aJ (by intro c hc; simp only [List.mem_cons, List.not_mem_nil, or_false] at hc; rcases hc with rfl | rfl; exact (.sl _ _ (aY eS)); exact (.v _)))) J <| dT (fun h85 => ?_) (fun h85 => ?_)
  rotate_left
  ·refine aE J (dE J) J <| aA (bK J J) J <| Nk [2,3,87] J <| aT J <| aB <| Rg 1 J <| Ua J J <| Wn <| bI <| aP <| post (n := 0) (.inr J) J ?_ dD
   refine congrArg (fun z => LV.v (.bool z)) ?_
   first | exact bX h27 (cS h31) | exact bX h27 (iC h36) | exact bX h27 (iD h42) | exact bX h27 (iE h49) | exact bX h27 (iF h31 h36 h42 h49) | exact bT h27 h61 (cU h65) | exact bT h27 h61 (iG h70) | exact bT h27 h61 (cV h76) | exact bT h27 h61 (cW h85) | exact bT h27 h61 (cX (iM (i := i) om h100)) | exact bT h27 h61 (iH h65 h70 h76 h85 (fun a ha => hok a om)) | exact bU h27 h61 h110 (cY h113) | exact bU h27 h61 h110 (iI h119) | exact bU h27 h61 h110 (cZ h125) | exact bU h27 h61 h110 (iJ h135) | exact bU h27 h61 h110 (iK h148) | exact bU h27 h61 h110 (iL h113 h119 h125 h135 h148) | exact iB h27 h61 h110
  refine aE J (dE J) J <| aA (bK J J) J <| Nk [2,3,87] J <| aX J <| aH <| aB ?_
  obtain ⟨hyl, hyv⟩ := hN h85
  refine Rg 4 J <| aA (aU J J J J J) J <| aA (aM (l := .sl p.1.1 (p.1.2.map fM)) J J gG J J) J ?_
  refine aA (aW J J) J <| Um J J <| Wn <| aL <| bF (α := Nat) (fun i => [(2, .ptr 0 0), (3, .ptr (0 + 1) 0), (89, .sl p.1.1 (p.1.2.map fM)), (90, .v (.int .i64 (p.1.2.length : Int))), (91, .v (.int .i64 (i : Int)))]) (fun i => [((0 + 1), { cells := resc r, sz := 6, elem := (50), st := 0 }), (0, { cells := pbc p, sz := 3, elem := (29), st := 0 })]) (fun i n => i ≤ p.1.2.length ∧ (∀ a, a < i → ¬ 0 < (dtN (p.1.2.getD a default).2 r.2.2.2.2.2).num.sign)) (fun i => p.1.2.length - i) (0) ⟨J, J, J, J, J, trivial⟩ ⟨gG, gG, trivial⟩ ⟨Nat.zero_le _, fun a ha => absurd ha om⟩ ?_
  rintro i n hF
  change WC _ _ _ _ _ (_ :: _) (_ :: _) n _
  obtain ⟨hi3, hok⟩ := hF
  refine Rg 1 J <| aA (bZ J J) J <| bB (fun h92 => ?_) (fun h92 => ?_)
  rotate_left
  ·refine Wn <| aX J <| bA <| aS <| aR J <| Rg 8 J <| aA (aU J J J J J) J <| aA (aM (l := .sl p.2.2.1 (p.2.2.2.map mc)) J J gG J J) J ?_
   refine aA (aU J J J J J) J <| aA (aM (l := .sl r.2.2.2.2.1 (r.2.2.2.2.2.map mc)) J J gG J J) J ?_
   refine aA (aK J (mR p.2.2.1 r.2.2.2.2.1 p.2.2.2 r.2.2.2.2.2 hI.g hR.ray hgv (fun a ha => (hyv a ha).1) om om om) (aJ (by intro c hc; simp only [List.mem_cons, List.not_mem_nil, or_false] at hc; rcases hc with rfl | rfl; exact (.sl _ _ (aY eS)); exact (.sl _ _ (aY eS))))) J <| aA (aK J (iP (dtN p.2.2.2 r.2.2.2.2.2)) (aJ (by intro c hc; simp only [List.mem_cons, List.not_mem_nil, or_false] at hc; rcases hc with rfl; exact (.agg _ (qH _))))) J <| aA (eB J J) J <| Ua J J <| Wn <| aN <| aP <| post (n := 0) (.inr J) J ?_ dD
   refine congrArg (fun z => LV.v (.bool z)) ?_
   first | exact bX h27 (cS h31) | exact bX h27 (iC h36) | exact bX h27 (iD h42) | exact bX h27 (iE h49) | exact bX h27 (iF h31 h36 h42 h49) | exact bT h27 h61 (cU h65) | exact bT h27 h61 (iG h70) | exact bT h27 h61 (cV h76) | exact bT h27 h61 (cW h85) | exact bT h27 h61 (cX (iM (i := i) om h100)) | exact bT h27 h61 (iH h65 h70 h76 h85 (fun a ha => hok a om)) | exact bU h27 h61 h110 (cY h113) | exact bU h27 h61 h110 (iI h119) | exact bU h27 h61 h110 (cZ h125) | exact bU h27 h61 h110 (iJ h135) | exact bU h27 h61 h110 (iK h148) | exact bU h27 h61 h110 (iL h113 h119 h125 h135 h148) | exact iB h27 h61 h110
  refine Wn <| aT J <| aH <| aL ?_
  obtain ⟨hwl, hwv⟩ := hV.rowlen (i := i) om
  have hIr := hI.m _ (bS (us := p.1.2) (i := i) om)
  refine Rg 3 J <| aA (cG J J J J J om J) J <| aA (dY (l := .sl (p.1.2.getD i default).1 ((p.1.2.getD i default).2.map mc)) J J J) J <| Ua J J <| Wn <| Rg 6 J <| Um J J <| aA (aU J J J J J) J <| aA (aM (l := .sl r.2.2.2.2.1 (r.2.2.2.2.2.map mc)) J J gG J J) J ?_
  refine aA (aK J (mR (p.1.2.getD i default).1 r.2.2.2.2.1 (p.1.2.getD i default).2 r.2.2.2.2.2 hIr hR.ray hwv (fun a ha => (hyv a ha).1) om om om) (aJ (by intro c hc; simp only [List.mem_cons, List.not_mem_nil, or_false] at hc; rcases hc with rfl | rfl; exact (.sl _ _ (aY eS)); exact (.sl _ _ (aY eS))))) J <| aA (aK J (iP (dtN (p.1.2.getD i default).2 r.2.2.2.2.2)) (aJ (by intro c hc; simp only [List.mem_cons, List.not_mem_nil, or_false] at hc; rcases hc with rfl; exact (.agg _ (qH _))))) J <| aA (eB J J) J <| bB (fun h100 => ?_) (fun h100 => ?_)
  ·refine Nk [2,3,89,90,91,100] J <| bY J <| Rg 1 J <| Ua J J <| Wn <| aN <| aP <| cR <| aP <| aP <| post (n := 0) (.inr J) J ?_ dD
   refine congrArg (fun z => LV.v (.bool z)) ?_
   first | exact bX h27 (cS h31) | exact bX h27 (iC h36) | exact bX h27 (iD h42) | exact bX h27 (iE h49) | exact bX h27 (iF h31 h36 h42 h49) | exact bT h27 h61 (cU h65) | exact bT h27 h61 (iG h70) | exact bT h27 h61 (cV h76) | exact bT h27 h61 (cW h85) | exact bT h27 h61 (cX (iM (i := i) om h100)) | exact bT h27 h61 (iH h65 h70 h76 h85 (fun a ha => hok a om)) | exact bU h27 h61 h110 (cY h113) | exact bU h27 h61 h110 (iI h119) | exact bU h27 h61 h110 (cZ h125) | exact bU h27 h61 h110 (iJ h135) | exact bU h27 h61 h110 (iK h148) | exact bU h27 h61 h110 (iL h113 h119 h125 h135 h148) | exact iB h27 h61 h110
  refine Nk [2,3,89,90,91,100] J <| bV J <| cA <| aF <| aI (z := 2) J <| aA (cI (((i + 1 : Nat) : Int)) (aO J J om) om) J <| Um J J <| Wn <| aG <| ⟨i + 1, ⟨J, J, J, J, J, trivial⟩, ⟨gG, gG, trivial⟩, ⟨om, fun a ha => ?_⟩, by show p.1.2.length - (i + 1) < p.1.2.length - i; omega⟩
  by_cases e : a = i
  ·rw [e]; exact h100
  ·exact hok a om
 refine Ua J J <| Wn <| bV J <| Rg 2 J <| aA (dV J J) J <| bB (fun h110 => ?_) (fun h110 => ?_)
 rotate_left
 ·refine Ua J J <| Wn <| bV J <| cA <| aF <| Rg 1 J <| Ua J J <| Nk [4] J <| aN <| post (n := 0) (.inr J) J ?_ dD
  refine congrArg (fun z => LV.v (.bool z)) ?_
  first | exact bX h27 (cS h31) | exact bX h27 (iC h36) | exact bX h27 (iD h42) | exact bX h27 (iE h49) | exact bX h27 (iF h31 h36 h42 h49) | exact bT h27 h61 (cU h65) | exact bT h27 h61 (iG h70) | exact bT h27 h61 (cV h76) | exact bT h27 h61 (cW h85) | exact bT h27 h61 (cX (iM (i := i) om h100)) | exact bT h27 h61 (iH h65 h70 h76 h85 (fun a ha => hok a om)) | exact bU h27 h61 h110 (cY h113) | exact bU h27 h61 h110 (iI h119) | exact bU h27 h61 h110 (cZ h125) | exact bU h27 h61 h110 (iJ h135) | exact bU h27 h61 h110 (iK h148) | exact bU h27 h61 h110 (iL h113 h119 h125 h135 h148) | exact iB h27 h61 h110
 refine Ua J J <| Wn <| bY J <| aB <| bR (z := 27) J kR <| aC (aU J J J J J) J <| aC (aM (l := lvM r.2.1) J J gG J J) J ?_
 refine aC (aV (b := .v (.bool (vn r.2.1))) (aK J (pW r.2.1 hR.v.1 hR.v.2) (aJ (by intro c hc; simp only [List.mem_cons, List.not_mem_nil, or_false] at hc; rcases hc with rfl; exact (.agg _ (eS _))))) J) J <| WD.B (fun h113 => ?_) (fun h113 => ?_)
 rotate_left
 ·refine aC (dE J) J <| Dm J J <| bE J J <| bE J J <| bE J J <| bE J J <| aC (bM J J) J <| Dm J J <| bE J J <| bE J J <| bE J J <| bE J J <| bE J J <| aC (bM J J) J <| Dm J J <| bE J J <| bE J J <| bE J J <| bE J J <| bE J J <| bE J J <| bE J J <| bE J J <| aC (bM J J) J ?_
  refine bG (aQ kR) J <| Ck [2,3,137] J <| aT J <| aB <| Rg 1 J <| Ua J J <| Wn <| bI <| aP <| post (n := 0) (.inr J) J ?_ dD
  refine congrArg (fun z => LV.v (.bool z)) ?_
  first | exact bX h27 (cS h31) | exact bX h27 (iC h36) | exact bX h27 (iD h42) | exact bX h27 (iE h49) | exact bX h27 (iF h31 h36 h42 h49) | exact bT h27 h61 (cU h65) | exact bT h27 h61 (iG h70) | exact bT h27 h61 (cV h76) | exact bT h27 h61 (cW h85) | exact bT h27 h61 (cX (iM (i := i) om h100)) | exact bT h27 h61 (iH h65 h70 h76 h85 (fun a ha => hok a om)) | exact bU h27 h61 h110 (cY h113) | exact bU h27 h61 h110 (iI h119) | exact bU h27 h61 h110 (cZ h125) | exact bU h27 h61 h110 (iJ h135) | exact bU h27 h61 h110 (iK h148) | exact bU h27 h61 h110 (iL h113 h119 h125 h135 h148) | exact iB h27 h61 h110
 refine aC (dE J) J <| Dm J J <| bC J (aU J J J J J) J <| bC J (aM (l := .sl r.2.2.2.2.1 (r.2.2.2.2.2.map mc)) J J gG J J) J ?_
 refine bC J (aW J J) J <| bC J (gJ J J) J <| jD (fun h119 => ?_) (fun h119 => ?_)
 ·refine aC (bK J J) J <| Dm J J <| bE J J <| bE J J <| bE J J <| bE J J <| bE J J <| aC (bM J J) J <| Dm J J <| bE J J <| bE J J <| bE J J <| bE J J <| bE J J <| bE J J <| bE J J <| bE J J <| aC (bM J J) J <| bG (aQ kR) J <| Ck [2,3,137] J <| aT J <| aB <| Rg 1 J <| Ua J J ?_
  refine Wn <| bI <| aP <| post (n := 0) (.inr J) J ?_ dD
  refine congrArg (fun z => LV.v (.bool z)) ?_
  first | exact bX h27 (cS h31) | exact bX h27 (iC h36) | exact bX h27 (iD h42) | exact bX h27 (iE h49) | exact bX h27 (iF h31 h36 h42 h49) | exact bT h27 h61 (cU h65) | exact bT h27 h61 (iG h70) | exact bT h27 h61 (cV h76) | exact bT h27 h61 (cW h85) | exact bT h27 h61 (cX (iM (i := i) om h100)) | exact bT h27 h61 (iH h65 h70 h76 h85 (fun a ha => hok a om)) | exact bU h27 h61 h110 (cY h113) | exact bU h27 h61 h110 (iI h119) | exact bU h27 h61 h110 (cZ h125) | exact bU h27 h61 h110 (iJ h135) | exact bU h27 h61 h110 (iK h148) | exact bU h27 h61 h110 (iL h113 h119 h125 h135 h148) | exact iB h27 h61 h110
 refine aC (bK J J) J <| Dm J J <| bC J (aM (l := lvPb p) J J gG J J) J ?_
 refine bC J (aU J J J J J) J <| bC J (aM (l := .sl r.2.2.1.1 (r.2.2.1.2.map mc)) J J gG J J) J ?_
 refine bC J (aK J (pG r.2.2.1.1 p r.2.2.1.2 hV hI hR.x hR.lx) (aJ (by intro c hc; simp only [List.mem_cons, List.not_mem_nil, or_false] at hc; rcases hc with rfl | rfl; exact gZ; exact (.sl _ _ (aY eS))))) J <| WD.B (fun h125 => ?_) (fun h125 => ?_)
 rotate_left
 ·refine bC J (dE J) J <| aC (bK J J) J <| Dm J J <| bE J J <| bE J J <| bE J J <| bE J J <| bE J J <| bE J J <| bE J J <| bE J J <| aC (bM J J) J <| bG (aQ kR) J <| Ck [2,3,137] J <| aT J <| aB <| Rg 1 J <| Ua J J <| Wn <| bI <| aP <| post (n := 0) (.inr J) J ?_ dD
  refine congrArg (fun z => LV.v (.bool z)) ?_
  first | exact bX h27 (cS h31) | exact bX h27 (iC h36) | exact bX h27 (iD h42) | exact bX h27 (iE h49) | exact bX h27 (iF h31 h36 h42 h49) | exact bT h27 h61 (cU h65) | exact bT h27 h61 (iG h70) | exact bT h27 h61 (cV h76) | exact bT h27 h61 (cW h85) | exact bT h27 h61 (cX (iM (i := i) om h100)) | exact bT h27 h61 (iH h65 h70 h76 h85 (fun a ha => hok a om)) | exact bU h27 h61 h110 (cY h113) | exact bU h27 h61 h110 (iI h119) | exact bU h27 h61 h110 (cZ h125) | exact bU h27 h61 h110 (iJ h135) | exact bU h27 h61 h110 (iK h148) | exact bU h27 h61 h110 (iL h113 h119 h125 h135 h148) | exact iB h27 h61 h110
 refine bC J (dE J) J <| aC (bK J J) J <| Dm J J <| bC J (aM (l := lvPb p) J J gG J J) J ?_
 refine bC J (aU J J J J J) J <| bC J (aM (l := .sl r.2.2.2.1.1 (r.2.2.2.1.2.map mc)) J J gG J J) J ?_
 refine bC J (aU J J J J J) J <| bC J (aM (l := .sl p.2.2.1 (p.2.2.2.map mc)) J J gG J J) J ?_
 refine bC J (aK J (pH p.2.2.1 p.2.2.2 om hI.g hgv) (aJ (by intro c hc; simp only [List.mem_cons, List.not_mem_nil, or_false] at hc; rcases hc with rfl; exact (.sl _ _ (aY eS))))) J <| bC J (aK J (qcov_run r.2.2.2.1.1 _ p r.2.2.2.1.2 (p.2.2.2.map nq) hV hI hR.y hR.ly (by simp) (fun x hx => (nq_bd hgv x hx).mono om)) (aJ (by intro c hc; simp only [List.mem_cons, List.not_mem_nil, or_false] at hc; rcases hc with rfl | rfl | rfl; exact gZ; exact (.sl _ _ (aY eS)); exact (.sl _ _ (aY qH))))) J <| WD.B (fun h135 => ?_) (fun h135 => ?_)
 rotate_left
 ·refine bC J (dE J) J <| aC (bK J J) J <| bG (aQ kR) J <| Ck [2,3,137] J <| aT J <| aB <| Rg 1 J <| Ua J J <| Wn <| bI <| aP <| post (n := 0) (.inr J) J ?_ dD
  refine congrArg (fun z => LV.v (.bool z)) ?_
  first | exact bX h27 (cS h31) | exact bX h27 (iC h36) | exact bX h27 (iD h42) | exact bX h27 (iE h49) | exact bX h27 (iF h31 h36 h42 h49) | exact bT h27 h61 (cU h65) | exact bT h27 h61 (iG h70) | exact bT h27 h61 (cV h76) | exact bT h27 h61 (cW h85) | exact bT h27 h61 (cX (iM (i := i) om h100)) | exact bT h27 h61 (iH h65 h70 h76 h85 (fun a ha => hok a om)) | exact bU h27 h61 h110 (cY h113) | exact bU h27 h61 h110 (iI h119) | exact bU h27 h61 h110 (cZ h125) | exact bU h27 h61 h110 (iJ h135) | exact bU h27 h61 h110 (iK h148) | exact bU h27 h61 h110 (iL h113 h119 h125 h135 h148) | exact iB h27 h61 h110
 refine bC J (dE J) J <| aC (bK J J) J <| bG (aQ kR) J <| Ck [2,3,137] J <| aX J <| aH ?_
 obtain ⟨hyl, hyv⟩ := hN (mL h135).1
 obtain ⟨hxl, hxv⟩ := hN (feaS_pos h125)
 have hvv : VN r.2.1 := of_decide_eq_true h113
 have hb1 := dtN_bd2 hgv (fun a ha => (hxv a ha).1) om om
 have hb2 := dtN_bd2 hrv (fun a ha => (hyv a ha).1) om om
 refine Rg 5 J <| aA (aU J J J J J) J <| aA (aM (l := lvM r.2.1) J J gG J J) J ?_
 refine aA (aV (b := lvQ (nq r.2.1)) (aK J (oG r.2.1 hR.v.1 hR.v.2 hvv) (aJ (by intro c hc; simp only [List.mem_cons, List.not_mem_nil, or_false] at hc; rcases hc with rfl; exact (.agg _ (eS _))))) J) J <| bJ (fD J) J <| bH (cP (cs' := qc (nq r.2.1)) J J J g0 J J J J) <| Wn <| bR (z := 19) J kR <| aC (aU J J J J J) J <| aC (aM (l := .sl p.2.2.1 (p.2.2.2.map mc)) J J gG J J) J ?_
 refine aC (aU J J J J J) J <| aC (aM (l := .sl r.2.2.1.1 (r.2.2.1.2.map mc)) J J gG J J) J ?_
 refine aC (aK J (mR p.2.2.1 r.2.2.1.1 p.2.2.2 r.2.2.1.2 hI.g hR.x hgv (fun a ha => (hxv a ha).1) om om om) (aJ (by intro c hc; simp only [List.mem_cons, List.not_mem_nil, or_false] at hc; rcases hc with rfl | rfl; exact (.sl _ _ (aY eS)); exact (.sl _ _ (aY eS))))) J <| aC (aM (l := lvQ (nq r.2.1)) J J gG J J) J ?_
 refine aC (aK J (mQ (dtN p.2.2.2 r.2.2.1.2) (nq r.2.1) (hb1.mono om) (hvv.bd.mono om)) (aJ (by intro c hc; simp only [List.mem_cons, List.not_mem_nil, or_false] at hc; rcases hc with rfl | rfl; exact (.agg _ (qH _)); exact (.agg _ (qH _))))) J <| aC (dV J J) J <| jD (fun h148 => ?_) (fun h148 => ?_)
 ·refine Dm J J <| bC J (aU J J J J J) J <| bC J (aM (l := .sl p.2.1.1 (p.2.1.2.map mc)) J J gG J J) J ?_
  refine bC J (aU J J J J J) J <| bC J (aM (l := .sl r.2.2.2.1.1 (r.2.2.2.1.2.map mc)) J J gG J J) J ?_
  refine bC J (aK J (mR p.2.1.1 r.2.2.2.1.1 p.2.1.2 r.2.2.2.1.2 hI.r hR.y hrv (fun a ha => (hyv a ha).1) om om om) (aJ (by intro c hc; simp only [List.mem_cons, List.not_mem_nil, or_false] at hc; rcases hc with rfl | rfl; exact (.sl _ _ (aY eS)); exact (.sl _ _ (aY eS))))) J <| bC J (aM (l := lvQ (nq r.2.1)) J J gG J J) J ?_
  refine bC J (aK J (mQ (dtN p.2.1.2 r.2.2.2.1.2) (nq r.2.1) (hb2.mono om) (hvv.bd.mono om)) (aJ (by intro c hc; simp only [List.mem_cons, List.not_mem_nil, or_false] at hc; rcases hc with rfl | rfl; exact (.agg _ (qH _)); exact (.agg _ (qH _))))) J <| bC J (dV J J) J <| aC (bM J J) J <| aC (gX J) J <| bG (aQ kR) J <| Ck [4] J <| aN <| aP <| post (n := 0) (.inr J) J ?_ dD
  refine congrArg (fun z => LV.v (.bool z)) ?_
  first | exact bX h27 (cS h31) | exact bX h27 (iC h36) | exact bX h27 (iD h42) | exact bX h27 (iE h49) | exact bX h27 (iF h31 h36 h42 h49) | exact bT h27 h61 (cU h65) | exact bT h27 h61 (iG h70) | exact bT h27 h61 (cV h76) | exact bT h27 h61 (cW h85) | exact bT h27 h61 (cX (iM (i := i) om h100)) | exact bT h27 h61 (iH h65 h70 h76 h85 (fun a ha => hok a om)) | exact bU h27 h61 h110 (cY h113) | exact bU h27 h61 h110 (iI h119) | exact bU h27 h61 h110 (cZ h125) | exact bU h27 h61 h110 (iJ h135) | exact bU h27 h61 h110 (iK h148) | exact bU h27 h61 h110 (iL h113 h119 h125 h135 h148) | exact iB h27 h61 h110
 refine Dm J J <| bE J J <| bE J J <| bE J J <| bE J J <| bE J J <| bE J J <| bE J J <| bE J J <| aC (bK J J) J <| aC (gX J) J <| bG (aQ kR) J <| Ck [4] J <| aN <| aP <| post (n := 0) (.inr J) J ?_ dD
 refine congrArg (fun z => LV.v (.bool z)) ?_
 first | exact bX h27 (cS h31) | exact bX h27 (iC h36) | exact bX h27 (iD h42) | exact bX h27 (iE h49) | exact bX h27 (iF h31 h36 h42 h49) | exact bT h27 h61 (cU h65) | exact bT h27 h61 (iG h70) | exact bT h27 h61 (cV h76) | exact bT h27 h61 (cW h85) | exact bT h27 h61 (cX (iM (i := i) om h100)) | exact bT h27 h61 (iH h65 h70 h76 h85 (fun a ha => hok a om)) | exact bU h27 h61 h110 (cY h113) | exact bU h27 h61 h110 (iI h119) | exact bU h27 h61 h110 (cZ h125) | exact bU h27 h61 h110 (iJ h135) | exact bU h27 h61 h110 (iK h148) | exact bU h27 h61 h110 (iL h113 h119 h125 h135 h148) | exact iB h27 h61 h110
end Go.Proofs.YtohfklpfeilcpaaGreat
namespace Go.Proofs.YtohfklpfeilcpaaGreat
open Go.Ab Go.RowKit
theorem lpCheck_law (kx : Nat) (p : PB) (r : RS) (x : List NM) (hAw : Run Tryz.prog T E0 (.call 8 [] (.v (.bool true)))) (hIM : IM p.1.2) (hIr : IV p.2.1.2) (hIg : IV p.2.2.2) (hRv : I64 r.2.1.1 ∧ I64 r.2.1.2) (hRx : IV r.2.2.1.2) (hRy : IV r.2.2.2.1.2) (hRr : IV r.2.2.2.2.2) (hx : IV x) : Run Tryz.prog T E0 (.call 4 [lvPb p, lvRs r, .sl kx (x.map mc)] (.v (.bool true))) := by
 refine bL Tryz.func4 J J (dH J) <| Rg 3 J <| bJ (eO J J) J <| bJ (eO J J) J <| Ua J J <| Wn <| aB <| Rg 26 J <| aA (aM (l := lvPb p) J J gG J J) J ?_
 refine aA (aK J (fewL_run p) (aJ (by intro c hc; simp only [List.mem_cons, List.not_mem_nil, or_false] at hc; rcases hc with rfl; exact gZ))) J <| dT (fun h14 => ?_) (fun h14 => ?_)
 rotate_left
 ·refine aA (dE J) J <| Um J J <| K1 J J <| K1 J J <| K1 J J <| aA (bM J J) J <| Um J J <| K1 J J <| K1 J J <| K1 J J <| K1 J J <| aA (bM J J) J <| Um J J <| K1 J J <| K1 J J <| K1 J J <| K1 J J <| aA (bM J J) J <| Um J J <| K1 J J <| K1 J J <| K1 J J <| K1 J J <| aA (bM J J) J ?_
  refine Nk [2,3,4,38] J <| aT J <| aB <| Rg 2 J <| aA (aK J hAw (aJ (by intro c hc; cases hc))) J <| Ua J J <| Wn <| bI ?_
  exact post (n := 0) (.inr J) J J (by simp)
 refine aA (dE J) J <| Um J J <| aE J (dK J) J <| aE J (aW J J) J <| aE J (eB J J) J <| bB (fun h19 => ?_) (fun h19 => ?_)
 ·refine aA (bK J J) J <| Um J J <| K1 J J <| K1 J J <| K1 J J <| K1 J J <| aA (bM J J) J <| Um J J <| K1 J J <| K1 J J <| K1 J J <| K1 J J <| aA (bM J J) J <| Um J J <| K1 J J <| K1 J J <| K1 J J <| K1 J J <| aA (bM J J) J <| Nk [2,3,4,38] J <| aT J <| aB <| Rg 2 J ?_
  refine aA (aK J hAw (aJ (by intro c hc; cases hc))) J <| Ua J J <| Wn <| bI <| post (n := 0) (.inr J) J ?_ dD
  rfl
 refine aA (bK J J) J <| Um J J <| aE J (aU J J J J J) J <| aE J (aM (l := .sl r.2.2.1.1 (r.2.2.1.2.map mc)) J J gG J J) J ?_
 refine aE J (aW J J) J <| aE J (eB J J) J <| bB (fun h25 => ?_) (fun h25 => ?_)
 ·refine aA (bK J J) J <| Um J J <| K1 J J <| K1 J J <| K1 J J <| K1 J J <| aA (bM J J) J <| Um J J <| K1 J J <| K1 J J <| K1 J J <| K1 J J <| aA (bM J J) J <| Nk [2,3,4,38] J <| aT J <| aB <| Rg 2 J <| aA (aK J hAw (aJ (by intro c hc; cases hc))) J <| Ua J J <| Wn <| bI ?_
  exact post (n := 0) (.inr J) J J (by simp)
 refine aA (bK J J) J <| Um J J <| aE J (aU J J J J J) J <| aE J (aM (l := .sl r.2.2.2.1.1 (r.2.2.2.1.2.map mc)) J J gG J J) J ?_
 refine aE J (aW J J) J <| aE J (eB J J) J <| bB (fun h31 => ?_) (fun h31 => ?_)
 ·refine aA (bK J J) J <| Um J J <| K1 J J <| K1 J J <| K1 J J <| K1 J J <| aA (bM J J) J <| Nk [2,3,4,38] J <| aT J <| aB <| Rg 2 J <| aA (aK J hAw (aJ (by intro c hc; cases hc))) J <| Ua J J <| Wn <| bI ?_
  exact post (n := 0) (.inr J) J J (by simp)
 refine aA (bK J J) J <| Um J J <| aE J (aU J J J J J) J <| aE J (aM (l := .sl r.2.2.2.2.1 (r.2.2.2.2.2.map mc)) J J gG J J) J ?_
 refine aE J (aW J J) J <| aE J (eB J J) J <| bB (fun h37 => ?_) (fun h37 => ?_)
 ·refine aA (bK J J) J <| Nk [2,3,4,38] J <| aT J <| aB <| Rg 2 J <| aA (aK J hAw (aJ (by intro c hc; cases hc))) J <| Ua J J <| Wn <| bI ?_
  exact post (n := 0) (.inr J) J J (by simp)
 refine aA (bK J J) J <| Nk [2,3,4,38] J <| aX J <| aH ?_
 have hI := fewL_ip h14 hIM hIr hIg
 have hR : IR r := ⟨hRv, hRx, hRy, hRr, om, om, om⟩
 have lx : x.length < 1000000 := by omega
 refine Rg 4 J <| aA (aM (l := lvPb p) J J gG J J) J ?_
 refine aA (aK J (oZ p) (aJ (by intro c hc; simp only [List.mem_cons, List.not_mem_nil, or_false] at hc; rcases hc with rfl; exact gZ))) J <| aA (aK J (qlvalid_run p hI) (aJ (by intro c hc; simp only [List.mem_cons, List.not_mem_nil, or_false] at hc; rcases hc with rfl; exact gZ))) J <| dT (fun h42 => ?_) (fun h42 => ?_)
 rotate_left
 ·refine Ua J J <| Wn <| bR (z := 8) J kR <| Dm J J <| Dm J J <| bE J J <| bE J J <| bE J J <| bE J J <| aC (bK J J) J <| aC (gX J) J <| bG (aQ kR) J <| Ck [2,3,4,7,8] J <| Rg 8 J <| aA (aM (l := lvPb p) J J gG J J) J ?_
  refine aA (aM (l := lvRs r) J J gG J J) J ?_
  refine aA (aV (b := .tup [.v (.bool false), .v (.int .i64 1)]) (aK J (lCheck_run p r hI hR) (aJ (by intro c hc; simp only [List.mem_cons, List.not_mem_nil, or_false] at hc; rcases hc with rfl | rfl; exact gZ; exact gZ))) (lckO_F h42)) J <| Um J J <| aA (fB J J) J <| aA (fB J J) J <| Ua J J <| Ua J J <| Wn <| Rg 8 J <| aA (aM (l := lvPb p) J J gG J J) J ?_
  refine Um J J <| aA (aV (b := .tup [.v (.bool (feaB p x)), .v (.int .i64 (feaE p x))]) (aK J (lFeas_run kx p x hI hx lx) (aJ (by intro c hc; simp only [List.mem_cons, List.not_mem_nil, or_false] at hc; rcases hc with rfl | rfl; exact gZ; exact (.sl _ _ (aY eS))))) (feaO_eq p x)) J <| Um J J <| aA (fB J J) J <| aA (fB J J) J <| Ua J J <| Ua J J <| Nk [2,3,7,8,9,10,11,12] J <| aL <| Rg 3 J <| Um J J <| aA (dE J) J <| Ua J J <| Wn <| bY J <| Rg 18 J <| Um J J <| aA (aV (b := .v (.bool true)) (dV J J) (by simp)) J <| Um J J <| aE J (dK J) J <| aE J (aV (b := .v (.bool true)) (dE J) J) J <| aA (bM J J) J <| Um J J ?_
  refine aE J (dK J) J <| aE J (aV (b := .v (.bool true)) (dV J J) (by rw [(feaX_0 h42).2]; simp)) J <| aA (bM J J) J <| Um J J <| aE J (dK J) J <| aE J (aV (b := .v (.bool true)) (dE J) (by rw [(feaX_0 h42).1]; rfl)) J <| aA (bM J J) J <| Um J J <| aE J (aK J hAw (aJ (by intro c hc; cases hc))) J <| aA (bM J J) J <| Ua J J <| Nk [6] J <| aN <| aP ?_
  exact post (n := 0) (.inr J) J J (by simp)
 refine Ua J J <| Wn <| bR (z := 8) J kR <| Dm J J <| Dm J J <| bC J (aM (l := lvPb p) J J gG J J) J ?_
 refine bC J (aK J (oZ p) (aJ (by intro c hc; simp only [List.mem_cons, List.not_mem_nil, or_false] at hc; rcases hc with rfl; exact gZ))) J <| bC J (aM (l := lvRs r) J J gG J J) J ?_
 refine bC J (aK J (qcor_run p r (lS.1 h42) hI hR) (aJ (by intro c hc; simp only [List.mem_cons, List.not_mem_nil, or_false] at hc; rcases hc with rfl | rfl; exact gZ; exact gZ))) J <| aC (bM J J) J <| aC (gX J) J <| bG (aQ kR) J <| Ck [2,3,4,7,8] J <| Rg 8 J <| aA (aM (l := lvPb p) J J gG J J) J ?_
 refine aA (aM (l := lvRs r) J J gG J J) J ?_
 refine aA (aV (b := .tup [.v (.bool (chkS p r)), .v (.int .i64 0)]) (aK J (lCheck_run p r hI hR) (aJ (by intro c hc; simp only [List.mem_cons, List.not_mem_nil, or_false] at hc; rcases hc with rfl | rfl; exact gZ; exact gZ))) (lckO_T h42)) J <| Um J J <| aA (fB J J) J <| aA (fB J J) J <| Ua J J <| Ua J J <| Wn <| Rg 8 J <| aA (aM (l := lvPb p) J J gG J J) J ?_
 refine Um J J <| aA (aV (b := .tup [.v (.bool (feaB p x)), .v (.int .i64 (feaE p x))]) (aK J (lFeas_run kx p x hI hx lx) (aJ (by intro c hc; simp only [List.mem_cons, List.not_mem_nil, or_false] at hc; rcases hc with rfl | rfl; exact gZ; exact (.sl _ _ (aY eS))))) (feaO_eq p x)) J <| Um J J <| aA (fB J J) J <| aA (fB J J) J <| Ua J J <| Ua J J <| Nk [2,3,7,8,9,10,11,12] J <| aL <| Rg 3 J <| Um J J <| aA (dE J) J <| Ua J J <| Wn <| bV J <| Rg 8 J <| Um J J <| aA (aV (b := .v (.bool false)) (gJ J J) (by simp)) J <| Um J J <| aE J (dK J) J <| aE J (dK J) J <| aE J (aV (b := .v (.bool false)) (oNeB J J J) (by simp)) J <| aA (bK J J) J ?_
 refine Ua J J <| Nk [2,3,11,12,82] J <| bV J <| Rg 4 J <| Um J J <| aA (aK J (kF kx x hx om) (aJ (by intro c hc; simp only [List.mem_cons, List.not_mem_nil, or_false] at hc; rcases hc with rfl; exact (.sl _ _ (aY eS))))) J <| dT (fun h92 => ?_) (fun h92 => ?_)
 rotate_left
 ·refine aA (dE J) J <| Ua J J <| Wn <| bY J <| Rg 6 J <| Um J J <| aA (aV (b := .v (.bool true)) (dV J J) (by rw [feaX_1 h92]; simp)) J <| Um J J <| aE J (aK J hAw (aJ (by intro c hc; cases hc))) J <| aA (bM J J) J <| Ua J J <| Nk [6] J <| aN <| aP ?_
  exact post (n := 0) (.inr J) J J (by simp)
 refine aA (dE J) J <| Ua J J <| Wn <| bV J <| Rg 7 J <| Um J J <| aA (aW J J) J <| aA (aU J J J J J) J <| aA (aM (l := .sl p.2.2.1 (p.2.2.2.map mc)) J J gG J J) J ?_
 refine aA (aW J J) J <| aA (gJ J J) J <| bB (fun h105 => ?_) (fun h105 => ?_)
 ·refine Ua J J <| Nk [2,3,11,12,99] J <| bY J <| Rg 6 J <| Um J J <| aA (aV (b := .v (.bool true)) (dV J J) (by rw [feaX_2 h42 h92 h105]; simp)) J <| Um J J <| aE J (aK J hAw (aJ (by intro c hc; cases hc))) J <| aA (bM J J) J <| Ua J J <| Wn <| aN <| aP ?_
  exact post (n := 0) (.inr J) J J (by simp)
 refine Ua J J <| Nk [2,3,11,12,99] J <| bV J <| cA <| aF <| Rg 14 J <| Um J J <| aA (aV (b := .v (.bool true)) (dV J J) (by rw [(feaX_3 h42 h92 h105).1]; simp)) J <| Um J J <| aE J (dK J) J <| aE J (aM (l := lvPb p) J J gG J J) J ?_
 refine aE J (aK J (oZ p) (aJ (by intro c hc; simp only [List.mem_cons, List.not_mem_nil, or_false] at hc; rcases hc with rfl; exact gZ))) J <| aE J (dK J) J <| aE J (aK J (pG kx p x (lS.1 h42) hI hx lx) (aJ (by intro c hc; simp only [List.mem_cons, List.not_mem_nil, or_false] at hc; rcases hc with rfl | rfl; exact gZ; exact (.sl _ _ (aY eS))))) J <| aE J (aV (b := .v (.bool true)) (oEqB J J J) (by rw [(feaX_3 h42 h92 h105).2]; simp)) J <| aA (bM J J) J <| Um J J <| aE J (aK J hAw (aJ (by intro c hc; cases hc))) J <| aA (bM J J) J <| Ua J J <| Nk [6] J <| aN ?_
 exact post (n := 0) (.inr J) J J (by simp)
end Go.Proofs.YtohfklpfeilcpaaGreat
namespace Go.Proofs.YtohfklpfeilcpaaGreat
open Go.Ab Go.RowKit
theorem rpl_G (n0 q ql qf : Nat) (H : Hp) (l f : List X) (k β : Nat) (hl : getH H ql = some (obX (88) l)) (hf : getH H qf = some (obX (88) f)) (hne : ql ≠ qf) (hql : ql < n0) (hqf : qf < n0) (hfl : f.length = l.length) (hk : k + 1 < l.length) (hll : l.length ≤ 200000) (h1 : 1 ≤ β) (hβ : β ≤ 1000000000) (hbl : ∀ x, x ∈ l → Bd β x.1) (hbf : ∀ x, x ∈ f → Bd β x.1) : WC Tryz.prog T E0 Tryz.f152.ntmps (codeOf Tryz.f152) (argsEnv 0 [.ptr q 0, .ref ql 4 0 l.length, .ref qf 4 0 f.length, .v (.int .i64 (k : Int))]) (nrm H) n0 (fun x e' h' n' => (x = .normal ∨ x = .ret) ∧ ∃ ls', resE e' T h' Tryz.f152.results.toList = some ls' ∧ (∃ l' : List X, r1 l' = rplR (r1 l) (r1 f) k ∧ l'.length = l.length ∧ n0 ≤ n' ∧ getH h' ql = some (obX (88) l') ∧ ∀ r o, r < n0 → r ≠ ql → getH H r = some o → getH h' r = some o)) := by
 change WC _ _ _ _ _ [(0, .ptr q 0), (1, .ref ql 4 0 l.length), (2, .ref qf 4 0 f.length), (3, .v (.int .i64 (k : Int)))] _ _ _
 have hgl : getH (nrm H) ql = some { cells := (l.map xc).flatten, sz := 4, elem := (88), st := 0 } := nrm_get.trans hl
 have hgf : getH (nrm H) qf = some { cells := (f.map xc).flatten, sz := 4, elem := (88), st := 0 } := nrm_get.trans hf
 refine Ck [1,2,3] J <| Rg 7 J <| Um J J <| Um J J <| aA (cI (((k + 1 : Nat) : Int)) (aO J J om) om) J <| aA (cH (j := k + 1) J J J J om om J) J <| aA (aV (b := lvX (l.getD (k + 1) default)) (eC (f := xc) (us := l) (j := k + 1) J J hgl (fun _ => rfl) J (by decide) hk J) J) J <| bJ (fD J) J <| bH (cP (cs' := xc (l.getD (k + 1) default)) J J J g0 J J J J) <| Nk [1,2,3,8] J <| aB <| Rg 3 J <| aA (aM (l := lvX (l.getD (k + 1) default)) J J g0 J J) J <| aA (aK J (fH (l.getD (k + 1) default)) dD) J <| aA (dV J J) J <| bB (fun h18 => ?_) (fun h18 => ?_)
 ·refine Nk [1,2,3,8,18] J <| aT J <| bI <| ⟨.inr J, _, rfl, l, ?_, rfl, om, (by repeat (first | exact g0 | exact nrm_get.trans hl | refine g1 om ?_)), fun r o hr hq h => (by repeat (first | exact g0 | exact nrm_get.trans h | refine g1 om ?_))⟩
  rw [rplR_zero]
  rw [iQ]; exact gR.1 om
 refine Nk [1,2,3,8,18] J <| aX J <| aH <| Rg 6 J <| Um J J <| Um J J <| aA (cI (((k + 1 : Nat) : Int)) (aO J J om) om) J <| aA (aV (b := lvX x0) (gS (cs := [_, _, _, _]) J J J J J) J) J <| aA (cH (j := k + 1) J J J J om om J) J <| bH (fG (f := xc) (us := l) x0 J J J (by repeat (first | exact g0 | exact nrm_get.trans hl | refine g1 om ?_)) (fun _ => rfl) J J hk J) ?_
 refine Nk [1,2,8] J <| Rg 3 J <| Um J J <| aA (gY J J) J <| Um J J <| Nk [1,8,24,25,26] J <| dL <| bF (α := Nat × (List X) × Hp) (fun ⟨i, cur, hh⟩ => [(1, .ref ql 4 0 l.length), (8, .ptr (n0 + 5) 0), (24, .ref qf 4 0 f.length), (25, .v (.int .i64 (f.length : Int))), (26, .v (.int .i64 (i : Int)))]) (fun ⟨i, cur, hh⟩ => nrm hh) (fun ⟨i, cur, hh⟩ n => i ≤ f.length ∧ cur.length = l.length ∧ getH hh ql = some { cells := (cur.map xc).flatten, sz := 4, elem := (88), st := 0 } ∧ getH hh qf = some { cells := (f.map xc).flatten, sz := 4, elem := (88), st := 0 } ∧ getH hh (n0 + 5) = some { cells := xc ((l.getD (k + 1) default)), sz := 4, elem := (88), st := 0 } ∧ (∀ t, i ≤ t → cur.getD t default = (l.set (k + 1) x0).getD t default) ∧ (∀ t, t < i → (cur.getD t default).1 = ((l.set (k + 1) x0).getD t default).1 + (l.getD (k + 1) default).1 * (f.getD t default).1) ∧ (∀ r o, r < n0 → r ≠ ql → getH H r = some o → getH hh r = some o) ∧ n0 + 7 ≤ n) (fun ⟨i, cur, hh⟩ => f.length - i) (0, l.set (k + 1) x0, _) ⟨J, J, J, J, J, trivial⟩ (bN fun _ _ h => h) ⟨Nat.zero_le _, List.length_set, (by repeat (first | exact g0 | exact nrm_get.trans hl | refine g1 om ?_)), (by repeat (first | exact g0 | exact nrm_get.trans hf | refine g1 om ?_)), (by repeat (first | exact g0 | exact nrm_get.trans hl | refine g1 om ?_)), fun _ _ => rfl, fun t ht => absurd ht om, fun r o hr hq h => (by repeat (first | exact g0 | exact nrm_get.trans h | refine g1 om ?_)), om⟩ ?_
 rintro ⟨i, cur, hh⟩ n hF
 change WC _ _ _ _ _ [(1, .ref ql 4 0 l.length), (8, .ptr (n0 + 5) 0), (24, .ref qf 4 0 f.length), (25, .v (.int .i64 (f.length : Int))), (26, .v (.int .i64 (i : Int)))] (nrm hh) n _
 obtain ⟨hi, hcl, hg1, hg2, hg3, hct, hcd, hke, hn⟩ := hF
 refine Rg 1 J <| aA (bZ J J) J <| bB (fun h27 => ?_) (fun h27 => ?_)
 rotate_left
 ·refine Nk [1,8,24,25,26,27] J <| aX J <| bA <| aS <| kA J <| ⟨.inl J, _, rfl, cur, ?_, hcl, om, nrm_get.trans hg1, fun r o hr hq h => nrm_get.trans (hke r o hr hq h)⟩
  refine list_eq (by rw [mH, gA, gA, hcl]) fun c hc => ?_
  rw [gA] at hc
  rw [rplR_get (by rw [gA]; omega), iQ, iQ, iQ, iQ, hcd c om, fV om]
  by_cases e : c = k + 1
  ·rw [if_pos e.symm, if_pos e]; rfl
  ·rw [if_neg (fun h => e h.symm), if_neg e]
 have hil : i < l.length := by omega
 have hbi := hbf _ (bS (us := f) (i := i) om)
 have hbk := hbl _ (bS (us := l) (i := k + 1) hk)
 have hbc : Bd β (cur.getD i default).1 := by
  rw [hct i (Nat.le_refl _), fV hil]
  split
  ·exact Bd0 h1
  ·exact hbl _ (bS hil)
 refine Nk [1,8,24,25,26,27] J <| aT J <| aH <| aL <| Rg 6 J <| Um J J <| aA (cH (j := i) J J J J om om J) J <| aA (aV (b := lvX (f.getD i default)) (eC (f := xc) (us := f) (j := i) J J (by repeat (first | exact g0 | exact nrm_get.trans hg2 | refine g1 om ?_)) (fun _ => rfl) J (by decide) om J) J) J ?_
 refine bJ (fD J) J <| Ua J J <| bH (cP (cs' := xc (f.getD i default)) J J J g0 J J J J) <| Nk [1,8,9,10,24,25,26] J <| Rg 3 J <| aA (aM (l := lvX (f.getD i default)) J J g0 J J) J <| aA (aK J (fH (f.getD i default)) dD) J <| aA (gJ J J) J <| bB (fun h33 => ?_) (fun h33 => ?_)
 rotate_left
 ·refine Nk [1,8,9,10,24,25,26,33] J <| bV J <| cA <| aF <| Ck [1,8,24,25,26] J <| aI (z := 2) J <| aA (cI (((i + 1 : Nat) : Int)) (aO J J om) om) J <| Um J J <| Wn <| aG <| ⟨⟨i + 1, cur, _⟩, ⟨J, J, J, J, J, trivial⟩, bN fun _ _ h => h, ⟨om, hcl, (by repeat (first | exact g0 | exact nrm_get.trans hg1 | refine g1 om ?_)), (by repeat (first | exact g0 | exact nrm_get.trans hg2 | refine g1 om ?_)), (by repeat (first | exact g0 | exact nrm_get.trans hg3 | refine g1 om ?_)), fun t ht => ?_, fun t ht => ?_, fun r o hr hq h => (by repeat (first | exact g0 | exact nrm_get.trans (hke r o hr hq h) | refine g1 om ?_)), om⟩, by show f.length - (i + 1) < f.length - i; omega⟩
  ·exact hct t om
  ·by_cases e : i = t
   ·subst e; rw [hct i (Nat.le_refl _), gR.1 (show (f.getD i default).1.num.sign = 0 by omega), Rat.mul_zero, Rat.add_zero]
   ·exact hcd t om
 refine Nk [1,8,9,10,24,25,26,33] J <| bY J <| dN (z := 12) J kR <| Dm J J <| Dm J J <| Dm J J <| Dm J J <| aC (cH (j := i) J J J J om om J) J <| aC (aV (b := lvX (cur.getD i default)) (eC (f := xc) (us := cur) (j := i) J J (by repeat (first | exact g0 | exact nrm_get.trans hg1 | refine g1 om ?_)) (fun _ => rfl) J (by decide) om J) J) J ?_
 refine aC (aM (l := lvX (l.getD (k + 1) default)) J J (by repeat (first | exact g0 | exact nrm_get.trans hg3 | refine g1 om ?_)) J J) J ?_
 refine aC (aM (l := lvX (f.getD i default)) J J g0 J J) J <| aC (aK J (mG (l.getD (k + 1) default) (f.getD i default) (hbk.mono om) (hbi.mono om)) dD) J <| aC (aK J (oJ (cur.getD i default) (xmul (l.getD (k + 1) default) (f.getD i default)) (hbc.mono om) ((hbk.mul hbi).mono om)) dD) J <| aC (cH (j := i) J J J J om om J) J <| cO (fG (f := xc) (us := cur) (xadd (cur.getD i default) (xmul (l.getD (k + 1) default) (f.getD i default))) J J J (by repeat (first | exact g0 | exact nrm_get.trans hg1 | refine g1 om ?_)) (fun _ => rfl) J J om J) ?_
 refine bG (aQ kR) J <| aF <| Ck [1,8,24,25,26] J <| aI (z := 2) J <| aA (cI (((i + 1 : Nat) : Int)) (aO J J om) om) J <| Um J J <| Wn <| aG <| ⟨⟨i + 1, cur.set i (xadd (cur.getD i default) (xmul (l.getD (k + 1) default) (f.getD i default))), _⟩, ⟨J, J, J, J, J, trivial⟩, bN fun _ _ h => h, ⟨om, by rw [List.length_set]; exact hcl, (by repeat (first | exact g0 | exact nrm_get.trans hg1 | refine g1 om ?_)), (by repeat (first | exact g0 | exact nrm_get.trans hg2 | refine g1 om ?_)), (by repeat (first | exact g0 | exact nrm_get.trans hg3 | refine g1 om ?_)), fun t ht => ?_, fun t ht => ?_, fun r o hr hq h => (by repeat (first | exact g0 | exact nrm_get.trans (hke r o hr hq h) | refine g1 om ?_)), om⟩, by show f.length - (i + 1) < f.length - i; omega⟩
 ·rw [getDs_ne om]; exact hct t om
 ·rw [fV om]
  by_cases e : i = t
  ·subst e; rw [if_pos rfl, ← hct i (Nat.le_refl _)]; rfl
  ·rw [if_neg e]; exact hcd t om
end Go.Proofs.YtohfklpfeilcpaaGreat
namespace Go.Proofs.YtohfklpfeilcpaaGreat
open Go.Ab Go.RowKit
theorem eqn_G (n0 q : Nat) (H : Hp) (nn kr : Nat) (rws : List RW) (c2 c3 c4 c5 : LV) (v : Int) (hq : getH H q = some { cells := [.v (.int .i64 (nn : Int)), .sl kr (rws.map rwc), c2, c3, c4, c5], sz := 6, elem := (138), st := 0 }) (hn1 : nn ≤ 100000) (hr1 : rws.length ≤ 100000) (hv : -1 ≤ v ∧ v ≤ 1000000) : WC Tryz.prog T E0 Tryz.f119.ntmps (codeOf Tryz.f119) (argsEnv 0 [.ptr q 0, .v (.int .i64 v)]) (nrm H) n0 (fun x e' h' n' => (x = .normal ∨ x = .ret) ∧ ∃ ls', resE e' T h' Tryz.f119.results.toList = some ls' ∧ (resultLV ls' = .v (.bool (decide ((nn : Int) ≤ v) && decide (v < (nn : Int) + (rws.length : Int)) && (rws.getD (v - nn).toNat default).2.2)) ∧ n0 ≤ n' ∧ h' = nrm H)) := by
 change WC _ _ _ _ _ [(0, .ptr q 0), (1, .v (.int .i64 v))] _ _ _
 have hgq : getH (nrm H) q = some { cells := [.v (.int .i64 (nn : Int)), .sl kr (rws.map rwc), c2, c3, c4, c5], sz := 6, elem := (138), st := 0 } := nrm_get.trans hq
 refine Rg 1 J <| Ua J J <| Wn <| bR (z := 36) J kR <| Dm J J <| Dm J J <| aC (eK J) J <| aC (aU J J J J J) J <| aC (aM (l := .v (.int .i64 (nn : Int))) J J hgq J J) J <| aC (hH J J) J <| jD (fun h10 => ?_) (fun h10 => ?_)
 rotate_left
 ·refine Dm J J <| bE J J <| bE J J <| bE J J <| bE J J <| bE J J <| bE J J <| bE J J <| bE J J <| bE J J <| bE J J <| bE J J <| bE J J <| aC (bK J J) J <| Dm J J <| bE J J <| bE J J <| bE J J <| bE J J <| bE J J <| bE J J <| bE J J <| bE J J <| bE J J ?_
  refine bE J J <| bE J J <| bE J J <| bE J J <| aC (bK J J) J <| aC (gX J) J <| bG (aQ kR) J <| Ck [4] J <| aN <| ⟨.inr J, _, rfl, congrArg (fun z => LV.v (.bool z)) (by rw [decide_eq_false h10, Bool.false_and, Bool.false_and]), om, rfl⟩
 refine Dm J J <| bC J (dK J) J <| bC J (dK J) J <| bC J (eK J) J <| bC J (aU J J J J J) J <| bC J (aM (l := .v (.int .i64 (nn : Int))) J J hgq J J) J <| bC J (dK J) J <| bC J (eK J) J <| bC J (aU J J J J J) J <| bC J (aM (l := .sl kr (rws.map rwc)) J J hgq J J) J <| bC J (aW J J) J <| bC J (cI (((nn + rws.length : Nat) : Int)) (aO J J om) om) J <| bC J (bZ J J) J <| jD (fun h23 => ?_) (fun h23 => ?_)
 ·refine aC (bM J J) J <| Dm J J <| bC J (dK J) J <| bC J (eK J) J <| bC J (aU J J J J J) J <| bC J (aM (l := .sl kr (rws.map rwc)) J J hgq J J) J <| bC J (dK J) J <| bC J (dK J) J <| bC J (eK J) J <| bC J (aU J J J J J) J <| bC J (aM (l := .v (.int .i64 (nn : Int))) J J hgq J J) J <| bC J (cI ((((v - nn).toNat : Nat) : Int)) (cE J J om) om) J <| bC J (cG (us := rws) (f := rwc) (j := (v - nn).toNat) J J J J J om J) J <| bC J (oFa J J J J J) J <| bC J (dY (l := .v (.bool (rws.getD (v - nn).toNat default).2.2)) J J J) J <| aC (bM J J) J <| aC (gX J) J <| bG (aQ kR) J <| Ck [4] J <| aN <| ⟨.inr J, _, rfl, congrArg (fun z => LV.v (.bool z)) (by simp only [decide_eq_true h10, decide_eq_true (show v < (nn : Int) + (rws.length : Int) by omega), Bool.true_and]), om, rfl⟩
 refine aC (bM J J) J <| Dm J J <| bE J J <| bE J J <| bE J J <| bE J J <| bE J J <| bE J J <| bE J J <| bE J J <| bE J J <| bE J J <| bE J J <| bE J J <| bE J J <| aC (bK J J) J <| aC (gX J) J <| bG (aQ kR) J <| Ck [4] J <| aN <| ⟨.inr J, _, rfl, congrArg (fun z => LV.v (.bool z)) (by rw [decide_eq_false (show ¬ v < (nn : Int) + (rws.length : Int) by omega), Bool.and_false, Bool.false_and]), om, rfl⟩
theorem sid_G (n0 q : Nat) (H : Hp) (nn kr : Nat) (rws : List RW) (c2 c3 c4 c5 : LV) (v : Int) (hq : getH H q = some { cells := [.v (.int .i64 (nn : Int)), .sl kr (rws.map rwc), c2, c3, c4, c5], sz := 6, elem := (138), st := 0 }) (hn1 : nn ≤ 100000) (hr1 : rws.length ≤ 100000) (hv : -1 ≤ v ∧ v ≤ 1000000) : WC Tryz.prog T E0 Tryz.f127.ntmps (codeOf Tryz.f127) (argsEnv 0 [.ptr q 0, .v (.int .i64 v)]) (nrm H) n0 (fun x e' h' n' => (x = .normal ∨ x = .ret) ∧ ∃ ls', resE e' T h' Tryz.f127.results.toList = some ls' ∧ (resultLV ls' = .v (.bool (decide ((nn : Int) ≤ v) && !(decide ((nn : Int) ≤ v) && decide (v < (nn : Int) + (rws.length : Int)) && (rws.getD (v - nn).toNat default).2.2))) ∧ n0 ≤ n' ∧ h' = nrm H)) := by
 change WC _ _ _ _ _ [(0, .ptr q 0), (1, .v (.int .i64 v))] _ _ _
 have hgq : getH (nrm H) q = some { cells := [.v (.int .i64 (nn : Int)), .sl kr (rws.map rwc), c2, c3, c4, c5], sz := 6, elem := (138), st := 0 } := nrm_get.trans hq
 refine Rg 1 J <| Ua J J <| Wn <| gL (z := 13) J <| dS (dK J) J <| dS (dK J) J <| dS (eK J) J <| dS (aU J J J J J) J <| dS (aM (l := .v (.int .i64 (nn : Int))) J J hgq J J) J <| dS (hH J J) J <| WN.D (fun h10 => ?_) (fun h10 => ?_)
 rotate_left
 ·refine dS (dK J) J <| WN.K J J <| WN.K J J <| WN.K J J <| WN.K J J <| dS (bK J J) J <| dS (gX J) J <| WN.nil <| Ck [4] J <| aN <| ⟨.inr J, _, rfl, congrArg (fun z => LV.v (.bool z)) (by rw [decide_eq_false h10, Bool.false_and]), om, rfl⟩
 refine dS (dK J) J <| WN.Ug J (dK J) J <| WN.Ug J (dK J) J <| WN.Gg (ls := [.ptr q 0, .v (.int .i64 v)]) (Φ := fun r h' n' => r = .v (.bool (decide ((nn : Int) ≤ v) && decide (v < (nn : Int) + (rws.length : Int)) && (rws.getD (v - nn).toNat default).2.2)) ∧ n0 ≤ n' ∧ h' = nrm H) J J Tryz.func119 J J (dH J) J ((eqn_G _ q H nn kr rws c2 c3 c4 c5 v hq hn1 hr1 hv).mono (by rintro x e h m ⟨hx, ls, hr, h1, h2, h3⟩; exact ⟨hx, ls, hr, h1, om, h3⟩)) ?_
 rintro r h' n1 ⟨rfl, hn1', rfl⟩
 refine oP <| aE J (dE J) J <| aA (bM J J) J <| Ua J J <| Nk [4] J <| aN <| ⟨.inr J, _, rfl, congrArg (fun z => LV.v (.bool z)) (by rw [decide_eq_true h10, Bool.true_and, Bool.true_and]), om, rfl⟩
end Go.Proofs.YtohfklpfeilcpaaGreat
namespace Go.Proofs.YtohfklpfeilcpaaGreat
open Go.Ab Go.RowKit
theorem rat_zdiv {a : Rat} : (0 : Rat) = -(0 / a) := by rw [Rat.div_def, Rat.zero_mul, Rat.neg_zero]
theorem repl_x0 {m j : Nat} : ((List.replicate m x0).getD j default).1 = 0 := by
 simp only [List.getD_eq_getElem?_getD, List.getElem?_replicate]
 split <;> rfl
theorem piv_G (n0 : Nat) (H : Hp) (L : Lay) (rl : LV) (t : TX) (i k β : Nat) (row : List X) (hM : TM ⟨(138), (3), (83), (88)⟩ H n0 L rl t) (hOk : t.tb.Ok) (hB : t.tb.Bds β) (hi : i < t.cells.length) (hk : k < t.out.length) (hrow : t.cells.getD i [] = row) (hp : (row.getD (k + 1) default).1 ≠ 0) (h1 : 1 ≤ β) (hβ : β ≤ 400000000) : WC Tryz.prog T E0 Tryz.f123.ntmps (codeOf Tryz.f123) (argsEnv 0 [.ptr L.q 0, .v (.int .i64 (i : Int)), .v (.int .i64 (k : Int))]) (nrm H) n0 (fun x e' h' n' => (x = .normal ∨ x = .ret) ∧ ∃ ls', resE e' T h' Tryz.f123.results.toList = some ls' ∧ (∃ (L' : Lay) (t' : TX), TM ⟨(138), (3), (83), (88)⟩ h' n' L' rl t' ∧ t'.tb = t.tb.piv i k ∧ t'.n = t.n ∧ t'.eqs = t.eqs ∧ t'.cells.length = t.cells.length ∧ Mvd n0 n' t.cells.length L L' H h')) := by
 change WC _ _ _ _ _ [(0, .ptr L.q 0), (1, .v (.int .i64 (i : Int))), (2, .v (.int .i64 (k : Int)))] _ _ _
 have hm := hOk.xm
 have hol : t.out.length ≤ 100000 := hOk.ol
 have hgw := hOk.xg
 have hbl := hOk.xb
 have hrl : row.length = t.out.length + 1 := by rw [← hrow]; exact hOk.xl hi
 have hbr : ∀ x, x ∈ row → Bd β x.1 := by rw [← hrow]; exact hB.xr hi
 have hcne : t.cells ≠ [] := dA hi
 have hLq : L.q < n0 := hM.lt 0 om
 have hLb : L.b < n0 := hM.lt 1 om
 have hLo : L.o < n0 := hM.lt 2 om
 have hLc : L.c < n0 := hM.lt 3 om
 have hLg : L.g < n0 := hM.lt 4 om
 have hLa : ∀ j, j < t.cells.length → L.a j < n0 := fun j hj => hM.lt (j + 5) om
 have hcq : L.c ≠ L.q := hM.ne (i := 3) (j := 0) om om om
 have hbo : L.b ≠ L.o := hM.ne (i := 1) (j := 2) om om om
 have hac : L.a i ≠ L.c := hM.ne (i := i + 5) (j := 3) om om om
 have hra : getH H (L.a i) = some { cells := (row.map xc).flatten, sz := 4, elem := (88), st := 0 } := by rw [← hrow]; exact hM.rw i hi
 have hgt : getH (nrm H) L.q = some { cells := tbC L rl t, sz := 6, elem := (138), st := 0 } := nrm_get.trans hM.tb
 have hgc : getH (nrm H) L.c = some { cells := ((rwsT L t.cells).map rfc).flatten, sz := 1, elem := (83), st := 0 } := nrm_get.trans (hM.cl hcne)
 have hgr : getH (nrm H) (L.a i) = some { cells := (row.map xc).flatten, sz := 4, elem := (88), st := 0 } := nrm_get.trans hra
 refine Ck [0,1,2] J <| Rg 8 J <| Um J J <| aA (eK J) J <| aA (aU J J J J J) J <| aA (aM (l := .ref L.c 1 0 t.cells.length) J J hgt J (congrArg some (jJ hcne))) J <| Um J J <| aA (cH (j := i) J J J J om om J) J <| aA (aV (b := .ref (L.a i) 4 0 row.length) (eC (f := rfc) (us := rwsT L t.cells) (j := i) J J hgc (fun _ => rfl) J (by decide) (by rw [fT]; exact hi) J) (by rw [jX hi, hrow])) J <| Ua J J <| Nk [0,1,2,6] J <| Rg 7 J <| Um J J <| Um J J <| aA (cI (((k + 1 : Nat) : Int)) (aO J J om) om) J <| aA (cH (j := k + 1) J J J J om om J) J <| aA (aV (b := lvX (row.getD (k + 1) default)) (eC (f := xc) (us := row) (j := k + 1) J J hgr (fun _ => rfl) J (by decide) om J) J) J <| bJ (fD J) J <| bH (cP (cs' := xc (row.getD (k + 1) default)) J J J g0 J J J J) <| Nk [0,1,2,6,7] J <| Rg 4 J <| Um J J ?_
 refine aA (gY J J) J <| bJ (oMk (a := row.length) (b := row.length) J J J J om om (by decide) om (by show 64 * row.length ≤ _; omega) om) J <| Ua J J <| Nk [0,1,2,6,7,8] J <| aB <| Rg 3 J <| Um J J <| aA (gY J J) J <| Um J J <| Nk [0,1,2,6,7,8,27,28] J <| aL <| bF (α := Nat × (List X) × Hp) (fun ⟨c, us, hh⟩ => [(0, .ptr L.q 0), (1, .v (.int .i64 (i : Int))), (2, .v (.int .i64 (k : Int))), (6, .ref (L.a i) 4 0 row.length), (7, .ptr (n0 + 8 + 5) 0), (8, .ref (n0 + 8 + 7 + 2) 4 0 row.length), (27, .v (.int .i64 (row.length : Int))), (28, .v (.int .i64 (c : Int)))]) (fun ⟨c, us, hh⟩ => nrm hh) (fun ⟨c, us, hh⟩ n => c ≤ row.length ∧ us.length = row.length ∧ getH hh (n0 + 8 + 7 + 2) = some { cells := (us.map xc).flatten, sz := 4, elem := (88), st := 0 } ∧ getH hh (n0 + 8 + 5) = some { cells := xc ((row.getD (k + 1) default)), sz := 4, elem := (88), st := 0 } ∧ (∀ r o, r < n0 → getH H r = some o → getH hh r = some o) ∧ (∀ j, j < c → (us.getD j default).1 = if j = k + 1 then 0 else -((row.getD j default).1 / (row.getD (k + 1) default).1)) ∧ (∀ j, c ≤ j → (us.getD j default).1 = 0) ∧ n0 + 20 ≤ n) (fun ⟨c, us, hh⟩ => row.length - c) (0, List.replicate row.length x0, _) ⟨J, J, J, J, J, J, J, J, trivial⟩ (bN fun _ _ h => h) ⟨Nat.zero_le _, List.length_replicate, g0.trans (by rw [List.map_replicate]; rfl), (by repeat (first | exact g0 | exact nrm_get.trans J | refine g1 om ?_)), fun r o hr h => (by repeat (first | exact g0 | exact nrm_get.trans h | refine g1 om ?_)), fun j hj => absurd hj om, fun j _ => repl_x0, om⟩ ?_
 rintro ⟨c, us, hh⟩ n hF
 change WC _ _ _ _ _ [(0, .ptr L.q 0), (1, .v (.int .i64 (i : Int))), (2, .v (.int .i64 (k : Int))), (6, .ref (L.a i) 4 0 row.length), (7, .ptr (n0 + 8 + 5) 0), (8, .ref (n0 + 8 + 7 + 2) 4 0 row.length), (27, .v (.int .i64 (row.length : Int))), (28, .v (.int .i64 (c : Int)))] (nrm hh) n _
 obtain ⟨hc, hul, hg1, hg2, hke, hud, huz, hn⟩ := hF
 refine Rg 1 J <| aA (bZ J J) J <| bB (fun h29 => ?_) (fun h29 => ?_)
 ·have hbc := hbr _ (bS (us := row) (i := c) om)
  have hbp := hbr _ (bS (us := row) (i := k + 1) om)
  refine Nk [0,1,2,6,7,8,27,28,29] J <| aT J <| aH <| aL <| Rg 2 J <| Um J J <| Ua J J <| Nk [0,1,2,6,7,8,9,27,28] J <| Rg 12 J <| Um J J <| Um J J <| aA (cI (((k + 1 : Nat) : Int)) (aO J J om) om) J <| aA (gJ J J) J <| bB (fun h34 => ?_) (fun h34 => ?_)
  rotate_left
  ·refine Um J J <| K1 J J <| K1 J J <| K1 J J <| K1 J J <| K1 J J <| K1 J J <| aA (bK J J) J <| Nk [0,1,2,6,7,8,9,27,28,36,37,38,39,40,41,42] J <| bV J <| cA <| aF <| Ck [0,1,2,6,7,8,27,28,36,37,38,39,40,41] J <| aI (z := 2) J <| aA (cI (((c + 1 : Nat) : Int)) (aO J J om) om) J <| Um J J <| Wn <| aG <| ⟨⟨c + 1, us, _⟩, ⟨J, J, J, J, J, J, J, J, trivial⟩, bN fun _ _ h => h, ⟨om, hul, (by repeat (first | exact g0 | exact nrm_get.trans hg1 | refine g1 om ?_)), (by repeat (first | exact g0 | exact nrm_get.trans hg2 | refine g1 om ?_)), fun r o hr h => (by repeat (first | exact g0 | exact nrm_get.trans (hke r o hr h) | refine g1 om ?_)), fun j hj => ?_, fun j hj => ?_, om⟩, by show row.length - (c + 1) < row.length - c; omega⟩
   ·by_cases e : c = j
    ·subst e; rw [huz c (Nat.le_refl _), if_pos om]
    ·exact hud j om
   ·exact huz j om
  have hck : ¬ c = k + 1 := by omega
  refine Um J J <| aE J (dK J) J <| aE J (dK J) J <| aE J (cH (j := c) J J J J om om J) J <| aE J (aV (b := lvX (row.getD c default)) (eC (f := xc) (us := row) (j := c) J J (by repeat (first | exact g0 | exact nrm_get.trans (hke _ _ (hLa i hi) hra) | refine g1 om ?_)) (fun _ => rfl) J (by decide) om J) J) J ?_
  refine aE J (aK J (fH (row.getD c default)) dD) J <| aE J (gJ J J) J <| bB (fun h41 => ?_) (fun h41 => ?_)
  rotate_left
  ·refine aA (bM J J) J <| Nk [0,1,2,6,7,8,9,27,28,36,37,38,39,40,41,42] J <| bV J <| cA <| aF <| Ck [0,1,2,6,7,8,27,28,36,37,38,39,40,41] J <| aI (z := 2) J <| aA (cI (((c + 1 : Nat) : Int)) (aO J J om) om) J <| Um J J <| Wn <| aG <| ⟨⟨c + 1, us, _⟩, ⟨J, J, J, J, J, J, J, J, trivial⟩, bN fun _ _ h => h, ⟨om, hul, (by repeat (first | exact g0 | exact nrm_get.trans hg1 | refine g1 om ?_)), (by repeat (first | exact g0 | exact nrm_get.trans hg2 | refine g1 om ?_)), fun r o hr h => (by repeat (first | exact g0 | exact nrm_get.trans (hke r o hr h) | refine g1 om ?_)), fun j hj => ?_, fun j hj => ?_, om⟩, by show row.length - (c + 1) < row.length - c; omega⟩
   ·by_cases e : c = j
    ·subst e; rw [huz c (Nat.le_refl _), if_neg hck, gR.1 (show (row.getD c default).1.num.sign = 0 by omega)]; exact rat_zdiv
    ·exact hud j om
   ·exact huz j om
  refine aA (bM J J) J <| Nk [0,1,2,6,7,8,9,27,28,36,37,38,39,40,41,42] J <| bY J <| dN (z := 11) J kR <| Dm J J <| Dm J J <| Dm J J <| Dm J J <| aC (cH (j := c) J J J J om om J) J <| aC (aV (b := lvX (row.getD c default)) (eC (f := xc) (us := row) (j := c) J J (by repeat (first | exact g0 | exact nrm_get.trans (hke _ _ (hLa i hi) hra) | refine g1 om ?_)) (fun _ => rfl) J (by decide) om J) J) J ?_
  refine aC (aM (l := lvX (row.getD (k + 1) default)) J J (by repeat (first | exact g0 | exact nrm_get.trans hg2 | refine g1 om ?_)) J J) J ?_
  refine aC (aK J (rdiv_run (row.getD c default) (row.getD (k + 1) default) hp (hbc.mono om) (hbp.mono om)) dD) J <| aC (aK J (oM (xdiv (row.getD c default) (row.getD (k + 1) default))) dD) J <| aC (cH (j := c) J J J J om om J) J <| cO (fG (f := xc) (us := us) (xneg (xdiv (row.getD c default) (row.getD (k + 1) default))) J J J (by repeat (first | exact g0 | exact nrm_get.trans hg1 | refine g1 om ?_)) (fun _ => rfl) J J om J) ?_
  refine bG (aQ kR) J <| aF <| Ck [0,1,2,6,7,8,27,28,36,37,38,39,40,41] J <| aI (z := 2) J <| aA (cI (((c + 1 : Nat) : Int)) (aO J J om) om) J <| Um J J <| Wn <| aG <| ⟨⟨c + 1, us.set c (xneg (xdiv (row.getD c default) (row.getD (k + 1) default))), _⟩, ⟨J, J, J, J, J, J, J, J, trivial⟩, bN fun _ _ h => h, ⟨om, by rw [List.length_set]; exact hul, (by repeat (first | exact g0 | exact nrm_get.trans hg1 | refine g1 om ?_)), (by repeat (first | exact g0 | exact nrm_get.trans hg2 | refine g1 om ?_)), fun r o hr h => (by repeat (first | exact g0 | exact nrm_get.trans (hke r o hr h) | refine g1 om ?_)), fun j hj => ?_, fun j hj => ?_, om⟩, by show row.length - (c + 1) < row.length - c; omega⟩
  ·rw [fV om]
   by_cases e : c = j
   ·subst e; rw [if_pos rfl, if_neg hck]; rfl
   ·rw [if_neg e]; exact hud j om
  ·rw [getDs_ne om]; exact huz j om
 refine Nk [0,1,2,6,7,8,27,28,29] J <| aX J <| bA <| aS <| aR J <| Ck [0,1,2,7,8] J ?_
 have hbp := hbr _ (bS (us := row) (i := k + 1) om)
 refine bR (z := 8) J kR <| Dm J J <| Dm J J <| aC (cI (((k + 1 : Nat) : Int)) (aO J J om) om) J <| aC (aK J (pL 1 (by decide)) dD) J <| aC (aM (l := lvX (row.getD (k + 1) default)) J J (by repeat (first | exact g0 | exact nrm_get.trans hg2 | refine g1 om ?_)) J J) J ?_
 refine aC (aK J (rdiv_run (xint 1) (row.getD (k + 1) default) hp (Bd1.mono om) (hbp.mono om)) dD) J <| aC (cH (j := k + 1) J J J J om om J) J <| cO (fG (f := xc) (us := us) (xdiv (xint 1) (row.getD (k + 1) default)) J J J (by repeat (first | exact g0 | exact nrm_get.trans hg1 | refine g1 om ?_)) (fun _ => rfl) J J om J) ?_
 refine bG (aQ kR) J <| Ck [0,1,2,8] J ?_
 have huUS : (us.set (k + 1) (xdiv (xint 1) (row.getD (k + 1) default))).length = row.length := by rw [List.length_set]; exact hul
 have hfr : r1 (us.set (k + 1) (xdiv (xint 1) (row.getD (k + 1) default))) = frsR (r1 row) k := by
  refine list_eq (by rw [lZ, gA, gA, huUS]) fun j hj => ?_
  rw [gA, huUS] at hj
  rw [iQ, frsR_get (by rw [gA]; exact hj), iQ, iQ, fV om]
  by_cases e : k + 1 = j
  ·subst e; rw [if_pos rfl, if_pos rfl]; show (((1 : Int) : Rat)) / _ = _; rfl
  ·rw [if_neg e, if_neg (fun h => e h.symm), hud j om, if_neg (fun h => e h.symm)]
 have hbUS : ∀ x, x ∈ (us.set (k + 1) (xdiv (xint 1) (row.getD (k + 1) default))) → Bd (2 * β) x.1 := fun x hx => frsR_bd (k := k) om hbr hp h1 x.1 (by rw [← hfr]; exact List.mem_map_of_mem hx)
 refine Rg 8 J <| Um J J <| aA (eK J) J <| aA (aU J J J J J) J <| aA (aM (l := .ref L.c 1 0 t.cells.length) J J (show getH _ _ = some { cells := tbC L rl t, sz := 6, elem := (138), st := 0 } from (by repeat (first | exact g0 | exact nrm_get.trans (hke _ _ hLq hM.tb) | refine g1 om ?_))) J (congrArg some (jJ hcne))) J ?_
 refine Um J J <| Um J J <| aA (cH (j := i) J J J J om om J) J <| bH (fG (f := rfc) (us := rwsT L t.cells) ((n0 + 8 + 7 + 2), row.length) J J J (by repeat (first | exact g0 | exact nrm_get.trans (hke _ _ hLc (hM.cl hcne)) | refine g1 om ?_)) (fun _ => rfl) J J (by rw [fT]; exact hi) J) ?_
 refine Nk [0,1,2,8] J <| aB <| Rg 6 J <| Um J J <| aA (eK J) J <| aA (aU J J J J J) J <| aA (aM (l := .ref L.c 1 0 t.cells.length) J J (show getH _ _ = some { cells := tbC L rl t, sz := 6, elem := (138), st := 0 } from (by repeat (first | exact g0 | exact nrm_get.trans (hke _ _ hLq hM.tb) | refine g1 om ?_))) J (congrArg some (jJ hcne))) J ?_
 refine aA (gY J J) J <| Um J J <| Nk [0,1,2,8,72,73] J <| aL <| bF (α := Nat × (List (List X)) × Hp) (fun ⟨r, cs, hh⟩ => [(0, .ptr L.q 0), (1, .v (.int .i64 (i : Int))), (2, .v (.int .i64 (k : Int))), (8, .ref (n0 + 8 + 7 + 2) 4 0 row.length), (72, .v (.int .i64 (t.cells.length : Int))), (73, .v (.int .i64 (r : Int)))]) (fun ⟨r, cs, hh⟩ => nrm hh) (fun ⟨r, cs, hh⟩ n => r ≤ t.cells.length ∧ TM ⟨(138), (3), (83), (88)⟩ hh n ({ L with a := fun j => if j = i then (n0 + 8 + 7 + 2) else L.a j }) rl { t with cells := cs } ∧ cs.length = t.cells.length ∧ cs.getD i [] = (us.set (k + 1) (xdiv (xint 1) (row.getD (k + 1) default))) ∧ (∀ j, j < t.cells.length → j ≠ i → (cs.getD j []).length = t.out.length + 1) ∧ (∀ j, j < r → j ≠ i → r1 (cs.getD j []) = rplR (r1 (t.cells.getD j [])) (r1 (us.set (k + 1) (xdiv (xint 1) (row.getD (k + 1) default)))) k) ∧ (∀ j, r ≤ j → j ≠ i → cs.getD j [] = t.cells.getD j []) ∧ (∀ r o, r < n0 → (∀ j, j < 5 + t.cells.length → L.id j ≠ r) → getH H r = some o → getH hh r = some o) ∧ n0 + 25 ≤ n) (fun ⟨r, cs, hh⟩ => t.cells.length - r) (0, t.cells.set i (us.set (k + 1) (xdiv (xint 1) (row.getD (k + 1) default))), _) ⟨J, J, J, J, J, J, trivial⟩ (bN fun _ _ h => h) ⟨Nat.zero_le _, hM.newR (f := (n0 + 8 + 7 + 2)) hi om om (by repeat (first | exact g0 | exact nrm_get.trans J | refine g1 om ?_)) (by rw [huUS]; exact g0) (fun r o hr hne h => (by repeat (first | exact g0 | exact nrm_get.trans (hke r o hr h) | refine g1 om ?_))), List.length_set, jK hi, fun j hj hji => by rw [jE (fun h => hji h.symm)]; exact hOk.xl hj, fun j hj => absurd hj om, fun j _ hji => jE (fun h => hji h.symm), fun r o hr hq h => (by have := hq 3 om; have : L.c ≠ r := this; repeat (first | exact g0 | exact nrm_get.trans (hke r o hr h) | refine g1 om ?_)), om⟩ ?_
 rintro ⟨r, cs, hh⟩ n hF
 change WC _ _ _ _ _ [(0, .ptr L.q 0), (1, .v (.int .i64 (i : Int))), (2, .v (.int .i64 (k : Int))), (8, .ref (n0 + 8 + 7 + 2) 4 0 row.length), (72, .v (.int .i64 (t.cells.length : Int))), (73, .v (.int .i64 (r : Int)))] (nrm hh) n _
 obtain ⟨hr, hM3, hcl, hci, hcw, hcd, hct, hke3, hn3⟩ := hF
 refine Rg 1 J <| aA (bZ J J) J <| bB (fun h74 => ?_) (fun h74 => ?_)
 rotate_left
 ·refine Nk [0,1,2,8,72,73,74] J <| aX J <| bA <| aS <| aR J <| Ck [0,1,2,8] J ?_
  obtain rfl : r = t.cells.length := by omega
  have hFus : getH hh (n0 + 8 + 7 + 2) = some (obX (88) (us.set (k + 1) (xdiv (xint 1) (row.getD (k + 1) default)))) := by
   have := hM3.rw i (by show i < cs.length; omega)
   simp only [if_pos, hci] at this
   exact this
  have hgt3 := hM3.tb
  have hgg3 : getH hh L.g = some (obX (88) t.goal) := hM3.gl
  have hbg : ∀ x, x ∈ t.goal → Bd (2 * β) x.1 := fun x hx => (hB.xg x hx).mono om
  refine gL (z := 8) J <| dS (dK J) J <| dS (dK J) J <| dS (eK J) J <| dS (aU J J J J J) J <| dS (aM (l := .ref L.g 4 0 t.goal.length) J J (nrm_get.trans hgt3) J J) J <| dS (dK J) J <| dS (dK J) J ?_
  have hrpl := rpl_G (n + 1 + 8) L.q (L.g) (n0 + 8 + 7 + 2) hh t.goal (us.set (k + 1) (xdiv (xint 1) (row.getD (k + 1) default))) k (2 * β) hgg3 hFus om om om (by rw [huUS]; omega) om om om om hbg hbUS
  rw [huUS] at hrpl
  refine qG (ls := [.ptr L.q 0, .ref (L.g) 4 0 (t.goal).length, .ref (n0 + 8 + 7 + 2) 4 0 row.length, .v (.int .i64 (k : Int))]) (Φ := fun _ h' n' => ∃ l' : List X, r1 l' = rplR (r1 t.goal) (r1 (us.set (k + 1) (xdiv (xint 1) (row.getD (k + 1) default)))) k ∧ l'.length = t.goal.length ∧ (n + 1 + 8) ≤ n' ∧ getH h' (L.g) = some (obX (88) l') ∧ ∀ z o, z < (n + 1 + 8) → z ≠ L.g → getH hh z = some o → getH h' z = some o) J Tryz.func152 J J (dH J) J (hrpl.mono (by rintro x e h m ⟨hx, ls, hr, l', h1, h2, h3, h4, h5⟩; exact ⟨hx, ls, hr, l', h1, h2, h3, h4, h5⟩)) ?_
  rintro r_ h' n1 ⟨l', hl1, hl2, hn1, hgl', hkl'⟩
  refine oP <| Nk [0,1,2] J ?_
  have hM4 := hM3.updG (n' := n1) (l := l') (h' := h') hl2 om hgl' (fun r o hr hne h => hkl' r o om hne h)
  have hgt4 := hM4.tb
  have hbne : t.basic ≠ [] := dA (show i < t.basic.length by omega)
  have hone : t.out ≠ [] := dA hk
  have hgb4 : getH h' L.b = some { cells := (t.basic.map ic).flatten, sz := 1, elem := (3), st := 0 } := hM4.bs hbne
  have hgo4 : getH h' L.o = some { cells := (t.out.map ic).flatten, sz := 1, elem := (3), st := 0 } := hM4.ou hone
  refine dN (z := 28) J kR <| Dm J J <| aC (eK J) J <| aC (aU J J J J J) J <| aC (aM (l := .ref L.b 1 0 t.basic.length) J J hgt4 J (congrArg some (gB hbne))) J <| Dm J J <| Dm J J <| aC (eK J) J <| aC (aU J J J J J) J <| aC (aM (l := .ref L.o 1 0 t.out.length) J J hgt4 J (congrArg some (gB hone))) J <| Dm J J <| Dm J J <| aC (eK J) J <| aC (aU J J J J J) J <| aC (aM (l := .ref L.o 1 0 t.out.length) J J hgt4 J (congrArg some (gB hone))) J <| Dm J J <| aC (cH (j := k) J J J J om om J) J <| aC (aV (b := .v (.int .i64 (t.out.getD k default))) (eC (f := ic) (us := t.out) (j := k) J J hgo4 (fun _ => rfl) J (by decide) hk J) J) J <| Dm J J <| aC (eK J) J <| aC (aU J J J J J) J <| aC (aM (l := .ref L.b 1 0 t.basic.length) J J hgt4 J (congrArg some (gB hbne))) J <| Dm J J <| aC (cH (j := i) J J J J om om J) J ?_
  refine aC (aV (b := .v (.int .i64 (t.basic.getD i default))) (eC (f := ic) (us := t.basic) (j := i) J J hgb4 (fun _ => rfl) J (by decide) om J) J) J <| aC (cH (j := i) J J J J om om J) J <| cO (fG (f := ic) (us := t.basic) (t.out.getD k default) J J J hgb4 (fun _ => rfl) J J om J) <| aC (cH (j := k) J J J J om om J) J <| cO (fG (f := ic) (us := t.out) (t.basic.getD i default) J J J (g1 hbo hgo4) (fun _ => rfl) J J hk J) <| bG (aQ kR) J <| ⟨.inl J, _, rfl, _, ⟨t.n, t.eqs, t.basic.set i (t.out.getD k default), t.out.set k (t.basic.getD i default), cs, l'⟩, hM4.swap (bs := t.basic.set i (t.out.getD k default)) (os := t.out.set k (t.basic.getD i default)) List.length_set List.length_set om (fun _ => g1 (fun e => hbo e.symm) g0) (fun _ => g0) (fun r o hr h1 h2 h => g1 (fun e => h2 e.symm) (g1 (fun e => h1 e.symm) h)), piv_tb hi hcl (by rw [hrow]; exact hfr) hci (fun j hj hji => hcd j hj hji) hl1, rfl, rfl, hcl, om, rfl, fun j _ => Lay.id_new om j, fun r o hr hq h => ?_⟩
  exact g1 (hq 2 om) (g1 (hq 1 om) (hkl' r o om (fun e => hq 4 om e.symm) (hke3 r o hr hq h)))
 refine Nk [0,1,2,8,72,73,74] J <| aT J <| aH <| aL <| Rg 2 J <| Um J J <| Ua J J <| Nk [0,1,2,8,10,72,73] J <| Rg 3 J <| Um J J <| Um J J <| aA (gJ J J) J <| bB (fun h78 => ?_) (fun h78 => ?_)
 rotate_left
 ·refine Nk [0,1,2,8,10,72,73,78] J <| bV J <| cA <| aF <| Ck [0,1,2,8,72,73] J <| aI (z := 2) J <| aA (cI (((r + 1 : Nat) : Int)) (aO J J om) om) J <| Um J J <| Wn <| aG <| ⟨⟨r + 1, cs, hh⟩, ⟨J, J, J, J, J, J, trivial⟩, bN fun _ _ h => nrm_get.trans h, ⟨om, hM3.mono om (fun _ _ _ h => h), hcl, hci, hcw, fun j hj hji => hcd j om hji, fun j hj hji => hct j om hji, hke3, om⟩, by show t.cells.length - (r + 1) < t.cells.length - r; omega⟩
 refine Nk [0,1,2,8,10,72,73,78] J <| bY J ?_
 have hri : ¬ r = i := by omega
 have hrm : r < t.cells.length := by omega
 have hra3 : getH hh (L.a r) = some (obX (88) (cs.getD r [])) := by
  have := hM3.rw r (by show r < cs.length; omega)
  simp only [if_neg hri] at this
  exact this
 have hwr : (cs.getD r []).length = t.out.length + 1 := hcw r hrm hri
 have hbcr : ∀ x, x ∈ (cs.getD r []) → Bd (2 * β) x.1 := fun x hx => (hB.xr hrm x (by rw [← hct r (Nat.le_refl _) hri]; exact hx)).mono om
 have hFus : getH hh (n0 + 8 + 7 + 2) = some (obX (88) (us.set (k + 1) (xdiv (xint 1) (row.getD (k + 1) default)))) := by
  have := hM3.rw i (by show i < cs.length; omega)
  simp only [if_pos, hci] at this
  exact this
 have hgt3 := hM3.tb
 have hgc3 := hM3.cl (dA (show r < cs.length by omega))
 have hLar := hLa r hrm
 refine WC.regn1 (z := 11) J <| dS (dK J) J <| dS (dK J) J <| dS (eK J) J <| dS (aU J J J J J) J <| dS (aM (l := .ref L.c 1 0 t.cells.length) J J (nrm_get.trans hgt3) J (congrArg some ((jJ (dA (show r < cs.length by omega))).trans (by rw [hcl])))) J <| dS (dK J) J <| dS (cH (j := r) J J J J om om J) J <| dS (aV (b := .ref (L.a r) 4 0 (cs.getD r []).length) (eC (f := rfc) (us := rwsT ({ L with a := fun j => if j = i then (n0 + 8 + 7 + 2) else L.a j }) cs) (j := r) J J (nrm_get.trans hgc3) (fun _ => rfl) J (by decide) (by rw [fT]; omega) J) (by rw [jX om]; simp only [if_neg hri])) J <| dS (dK J) J <| dS (dK J) J ?_
 have hrpl := rpl_G (n + 1 + 2 + 3 + 11) L.q (L.a r) (n0 + 8 + 7 + 2) hh (cs.getD r []) (us.set (k + 1) (xdiv (xint 1) (row.getD (k + 1) default))) k (2 * β) hra3 hFus om om om (by rw [huUS]; omega) om om om om hbcr hbUS
 rw [huUS] at hrpl
 refine qG (ls := [.ptr L.q 0, .ref (L.a r) 4 0 ((cs.getD r [])).length, .ref (n0 + 8 + 7 + 2) 4 0 row.length, .v (.int .i64 (k : Int))]) (Φ := fun _ h' n' => ∃ l' : List X, r1 l' = rplR (r1 (cs.getD r [])) (r1 (us.set (k + 1) (xdiv (xint 1) (row.getD (k + 1) default)))) k ∧ l'.length = (cs.getD r []).length ∧ (n + 1 + 2 + 3 + 11) ≤ n' ∧ getH h' (L.a r) = some (obX (88) l') ∧ ∀ z o, z < (n + 1 + 2 + 3 + 11) → z ≠ L.a r → getH hh z = some o → getH h' z = some o) J Tryz.func152 J J (dH J) J (hrpl.mono (by rintro x e h m ⟨hx, ls, hr, l', h1, h2, h3, h4, h5⟩; exact ⟨hx, ls, hr, l', h1, h2, h3, h4, h5⟩)) ?_
 rintro r_ h' n1 ⟨l', hl1, hl2, hn1, hgl', hkl'⟩
 refine oP <| Wn <| aF <| Ck [0,1,2,8,72,73] J <| aI (z := 2) J <| aA (cI (((r + 1 : Nat) : Int)) (aO J J om) om) J <| Um J J <| Wn <| aG ?_
 have hcl' : ((cs.getD r [])).length = t.out.length + 1 := hcw r om hri
 refine ⟨⟨r + 1, cs.set r l', h'⟩, ⟨J, J, J, J, J, J, trivial⟩, bN fun _ _ h => h, ⟨om, hM3.updR (i := r) (by show r < cs.length; omega) hl2 om (by show getH h' (if r = i then _ else _) = _; rw [if_neg hri]; exact hgl') (fun q o hq hne h => hkl' q o om (fun e => hne (by show q = if r = i then _ else _; rw [if_neg hri]; exact e)) h), by rw [List.length_set]; exact hcl, by rw [jE (fun h => hri h)]; exact hci, fun j hj hji => ?_, fun j hj hji => ?_, fun j hj hji => ?_, fun q o hq hne h => hkl' q o om (fun e => hne (r + 5) om e.symm) (hke3 q o hq hne h), om⟩, by show t.cells.length - (r + 1) < t.cells.length - r; omega⟩
 ·by_cases e : r = j
  ·subst e; rw [jK om, hl2]; exact hcl'
  ·rw [jE e]; exact hcw j hj hji
 ·by_cases e : r = j
  ·subst e; rw [jK om, hl1, hct r (Nat.le_refl _) hji]
  ·rw [jE e]; exact hcd j om hji
 ·rw [jE om]; exact hct j om hji
end Go.Proofs.YtohfklpfeilcpaaGreat
namespace Go.Proofs.YtohfklpfeilcpaaGreat
open Go.Ab Go.RowKit
theorem open_G (n0 nn kr : Nat) (H : Hp) (rws : List RW) (gl : RW) (h0 : 1 ≤ nn) (hn : nn ≤ 100000) (hm : rws.length ≤ 100000) (hw : ∀ r, r ∈ rws → r.1.2.length = nn) (hg : gl.1.2.length = nn) : WC Tryz.prog T E0 Tryz.f82.ntmps (codeOf Tryz.f82) (argsEnv 0 [.v (.int .i64 (nn : Int)), .sl kr (rws.map rwc), .agg (rwc gl)]) (nrm H) n0 (fun x e' h' n' => (x = .normal ∨ x = .ret) ∧ ∃ ls', resE e' T h' Tryz.f82.results.toList = some ls' ∧ (∃ L : Lay, resultLV ls' = .ptr L.q 0 ∧ TM ⟨(138), (3), (83), (88)⟩ h' n' L (.sl kr (rws.map rwc)) (opX nn rws gl.1.2 gl.2.1) ∧ (∀ j, j < 5 + rws.length → n0 ≤ L.id j) ∧ n0 ≤ n' ∧ ∀ r o, r < n0 → getH H r = some o → getH h' r = some o)) := by
 change WC _ _ _ _ _ [(0, .v (.int .i64 (nn : Int))), (1, .sl kr (rws.map rwc)), (2, .agg (rwc gl))] _ _ _
 have hgne : gl.1.2 ≠ [] := dA (show 0 < gl.1.2.length by omega)
 refine Ck [0,1,2] J <| Rg 2 J <| bJ (eO J J) J <| Ua J J <| Nk [0,1,5] J <| Rg 11 J <| Um J J <| Um J J <| aA (aU J J J J J) J <| aA (aM (l := lvX gl.2.1) J J g0 J J) J <| aA (aV (b := .sl 2 [xc gl.2.1]) (dJ (cs := [_, _, _, _]) (rows := [[_, _, _, _]]) J J (by decide) J J J) J) J <| aA (aU J J J J J) J <| aA (aM (l := .sl gl.1.1 (gl.1.2.map xc)) J J g0 J J) J <| bJ (oApS1 (te := ti88) (f := xc) (u := gl.2.1) (us := gl.1.2) J J J J J (fun _ => rfl) (by decide) hgne (by show (2 * (gl.1.2.length + 1) + 256) * 64 ≤ _; omega) om) J <| aA (gS (cs := [_, _, _, _, _, _]) J J J J J) J <| bJ (eO J J) J <| Ua J J <| Nk [0,1,7] J <| aB <| Rg 2 J <| Um J J <| Um J J ?_
 refine Nk [0,1,7,21,22] J <| aL <| bF (α := Nat × Nat × Hp) (fun ⟨i, qo, hh⟩ => [(0, .v (.int .i64 (nn : Int))), (1, .sl kr (rws.map rwc)), (7, .ptr (n0 + 2 + 9) 0), (21, .v (.int .i64 (nn : Int))), (22, .v (.int .i64 (i : Int)))]) (fun ⟨i, qo, hh⟩ => nrm hh) (fun ⟨i, qo, hh⟩ n => i ≤ nn ∧ qo < n ∧ n0 + 11 < qo ∧ getH hh (n0 + 2 + 9) = some { cells := [.v (.int .i64 (nn : Int)), .sl kr (rws.map rwc), .sl 0 [], outV qo 1 ((tab i fun k => (k : Int)).map ic), .sl 0 [], .ref (n0 + 2 + 7) 4 0 (gl.2.1 :: gl.1.2).length], sz := 6, elem := (138), st := 0 } ∧ ((tab i fun k => (k : Int)) ≠ [] → getH hh qo = some { cells := ((tab i fun k => (k : Int)).map ic).flatten, sz := 1, elem := (3), st := 0 }) ∧ getH hh (n0 + 2 + 7) = some { cells := ((gl.2.1 :: gl.1.2).map xc).flatten, sz := 4, elem := (88), st := 0 } ∧ (∀ r o, r < n0 → getH H r = some o → getH hh r = some o) ∧ n0 + 15 ≤ n) (fun ⟨i, qo, hh⟩ => nn - i) (0, n0 + 12, _) ⟨J, J, J, J, J, trivial⟩ (bN fun _ _ h => h) ⟨Nat.zero_le _, om, om, g0, fun h => absurd J h, (by repeat (first | exact g0 | exact nrm_get.trans J | refine g1 om ?_)), fun r o hr h => (by repeat (first | exact g0 | exact nrm_get.trans h | refine g1 om ?_)), om⟩ ?_
 rintro ⟨i, qo, hh⟩ n hF
 change WC _ _ _ _ _ [(0, .v (.int .i64 (nn : Int))), (1, .sl kr (rws.map rwc)), (7, .ptr (n0 + 2 + 9) 0), (21, .v (.int .i64 (nn : Int))), (22, .v (.int .i64 (i : Int)))] (nrm hh) n _
 obtain ⟨hi, ho1, ho2, hgt, hgo, hgg, hke, hnn⟩ := hF
 refine Rg 1 J <| aA (bZ J J) J <| bB (fun h23 => ?_) (fun h23 => ?_)
 ·refine Nk [0,1,7,21,22,23] J <| aT J <| aH <| aL <| Rg 2 J <| Um J J <| Ua J J <| Nk [0,1,7,8,21,22] J <| aI (z := 11) J <| Um J J <| Um J J <| aA (eK J) J <| aA (aU J J J J J) J <| aA (aM (l := outV qo 1 ((tab i fun k => (k : Int)).map ic)) J J (nrm_get.trans hgt) J J) J <| Um J J <| aA (dJ (cs := [_]) (rows := [[_]]) J J (by decide) J J J) J <| WO.apX (te := ti3) (f := ic) (q := qo) (us := (tab i fun k => (k : Int))) (u := (i : Int)) J J J J J (fun _ => rfl) (by decide) (by show (2 * ((tab i _).length + 1) + 256) * 8 ≤ _; rw [dO]; omega) (by rw [dO]; omega) (fun h => nrm_get.trans (hgo h)) J ?_
  intro hX1 hn1 hk1
  refine aA (eK J) J <| aA (aU J J J J J) J <| bH (cP (cs' := [_, _, _, _, _, _]) J J J (hk1 _ _ om (fun _ => by omega) (nrm_get.trans hgt)) J J J J) <| Wn <| aF <| Ck [0,1,7,21,22] J <| aI (z := 2) J <| aA (cI (((i + 1 : Nat) : Int)) (aO J J om) om) J <| Um J J <| Wn <| aG <| ⟨⟨i + 1, n + 1 + 2 + 7, _⟩, ⟨J, J, J, J, J, trivial⟩, bN fun _ _ h => h, ⟨om, om, om, by rw [jZ, mF]; exact g0, fun _ => by rw [jZ]; exact g1 om hn1, g1 om (hk1 _ _ om (fun _ => by omega) (nrm_get.trans hgg)), fun r o hr h => g1 om (hk1 _ _ om (fun _ => by omega) (nrm_get.trans (hke r o hr h))), om⟩, by show nn - (i + 1) < nn - i; omega⟩
 refine Nk [0,1,7,21,22,23] J <| aX J <| bA <| aS <| aR J <| Ck [0,1,7] J <| aB <| Rg 3 J <| Um J J <| aA (aW J J) J <| Um J J <| Nk [0,7,36,37,38] J <| aL ?_
 obtain ⟨n1, hn1⟩ : ∃ k, k = n := ⟨n, rfl⟩
 obtain rfl : nn = i := by omega
 refine bF (α := Nat × Nat × Nat × (Nat → Nat) × Hp) (fun ⟨i, qb, qc, a, hh⟩ => [(0, .v (.int .i64 (nn : Int))), (7, .ptr (n0 + 2 + 9) 0), (36, .sl kr (rws.map rwc)), (37, .v (.int .i64 (rws.length : Int))), (38, .v (.int .i64 (i : Int)))]) (fun ⟨i, qb, qc, a, hh⟩ => nrm hh) (fun ⟨i, qb, qc, a, hh⟩ n => i ≤ rws.length ∧ n1 ≤ qb ∧ qb < n ∧ n1 ≤ qc ∧ qc < n ∧ qb ≠ qc ∧ (∀ j, j < i → n1 ≤ a j ∧ a j < n ∧ a j ≠ qb ∧ a j ≠ qc) ∧ (∀ j k, j < i → k < i → a j = a k → j = k) ∧ getH hh (n0 + 2 + 9) = some { cells := [.v (.int .i64 (nn : Int)), .sl kr (rws.map rwc), outV qb 1 ((tab i fun k => ((nn + k : Nat) : Int)).map ic), outV qo 1 ((tab nn fun k => (k : Int)).map ic), outV qc 1 ((tab i fun j => (a j, nn + 1)).map rfc), .ref (n0 + 2 + 7) 4 0 (gl.2.1 :: gl.1.2).length], sz := 6, elem := (138), st := 0 } ∧ ((tab i fun k => ((nn + k : Nat) : Int)) ≠ [] → getH hh qb = some { cells := ((tab i fun k => ((nn + k : Nat) : Int)).map ic).flatten, sz := 1, elem := (3), st := 0 }) ∧ ((tab i fun j => (a j, nn + 1)) ≠ [] → getH hh qc = some { cells := ((tab i fun j => (a j, nn + 1)).map rfc).flatten, sz := 1, elem := (83), st := 0 }) ∧ (∀ j, j < i → getH hh (a j) = some { cells := (((rws.getD j default).2.1 :: (rws.getD j default).1.2).map xc).flatten, sz := 4, elem := (88), st := 0 }) ∧ ((tab nn fun k => (k : Int)) ≠ [] → getH hh qo = some { cells := ((tab nn fun k => (k : Int)).map ic).flatten, sz := 1, elem := (3), st := 0 }) ∧ getH hh (n0 + 2 + 7) = some { cells := ((gl.2.1 :: gl.1.2).map xc).flatten, sz := 4, elem := (88), st := 0 } ∧ (∀ r o, r < n0 → getH H r = some o → getH hh r = some o) ∧ n1 + 3 ≤ n) (fun ⟨i, qb, qc, a, hh⟩ => rws.length - i) (0, n, n + 1, (fun _ => 0), _) ⟨J, J, J, J, J, trivial⟩ (bN fun _ _ h => h) ⟨Nat.zero_le _, om, om, om, om, om, fun j hj => absurd hj om, fun j k hj => absurd hj om, nrm_get.trans hgt, fun h => absurd J h, fun h => absurd J h, fun j hj => absurd hj om, fun h => nrm_get.trans (hgo h), nrm_get.trans hgg, fun r o hr h => nrm_get.trans (hke r o hr h), om⟩ ?_
 rintro ⟨i, qb, qc, a, hh⟩ n hF
 change WC _ _ _ _ _ [(0, .v (.int .i64 (nn : Int))), (7, .ptr (n0 + 2 + 9) 0), (36, .sl kr (rws.map rwc)), (37, .v (.int .i64 (rws.length : Int))), (38, .v (.int .i64 (i : Int)))] (nrm hh) n _
 obtain ⟨hi, b1, b2, c1, c2, hbc, ha, hin, hgt, hgb, hgc, hgr, hgo, hgg, hke, hnn⟩ := hF
 refine Rg 1 J <| aA (bZ J J) J <| bB (fun h39 => ?_) (fun h39 => ?_)
 rotate_left
 ·refine Nk [0,7,36,37,38,39] J <| aX J <| bA <| aS <| aR J <| Ck [7] J <| Rg 2 J <| Um J J <| Ua J J <| Nk [6] J <| aN ?_
  obtain rfl : i = rws.length := by omega
  have hcl : rwsT ⟨n0 + 2 + 9, qb, qo, qc, n0 + 2 + 7, a⟩ (opX nn rws gl.1.2 gl.2.1).cells = (tab rws.length fun j => (a j, nn + 1)) := by
   unfold rwsT
   show tab (rws.map _).length _ = _
   rw [List.length_map]
   refine tab_eq fun j hj => ?_
   show (a j, ((rws.map _).getD j []).length) = _
   rw [gmapN _ hj, List.length_cons, hw _ (bS hj)]
  refine ⟨.inr J, _, rfl, ⟨n0 + 2 + 9, qb, qo, qc, n0 + 2 + 7, a⟩, rfl, ⟨?_, fun hb => nrm_get.trans (hgb hb), fun hb => nrm_get.trans (hgo hb), fun hb => ?_, fun j hj => ?_, nrm_get.trans hgg, ?_, ?_⟩, ?_, om, fun r o hr h => nrm_get.trans (hke r o hr h)⟩
  ·unfold tbC; rw [hcl]; exact nrm_get.trans hgt
  ·rw [hcl]
   exact nrm_get.trans (hgc fun e => hb (by
    have := congrArg List.length e
    rw [dO] at this
    exact List.eq_nil_of_length_eq_zero (by show (rws.map _).length = 0; rw [List.length_map]; exact this)))
  ·have hj' : j < rws.length := by simpa [opX] using hj
   show getH _ (a j) = some (obX _ ((rws.map _).getD j []))
   rw [gmapN _ hj']; exact nrm_get.trans (hgr j hj')
  ·have hm' : (opX nn rws gl.1.2 gl.2.1).cells.length = rws.length := List.length_map ..
   rw [hm']
   exact fun j hj => Nat.lt_of_lt_of_le (Lay.all_of (L := ⟨n0 + 2 + 9, qb, qo, qc, n0 + 2 + 7, a⟩) (m := rws.length) (p := (· < n)) ⟨by show n0 + 2 + 9 < n; omega, by show qb < n; omega, by show qo < n; omega, by show qc < n; omega, by show n0 + 2 + 7 < n; omega⟩ (fun j hj => (ha j hj).2.1) j hj) om
  ·have hm' : (opX nn rws gl.1.2 gl.2.1).cells.length = rws.length := List.length_map ..
   rw [hm']
   exact Lay.inj_of (by dsimp only; omega) (by dsimp only; omega) (by dsimp only; omega) (fun j hj => by have := ha j hj; dsimp only; omega) hin
  ·exact Lay.all_of (p := (n0 ≤ ·)) (by dsimp only; omega) fun j hj => by have := ha j hj; show n0 ≤ a j; omega
 refine Nk [0,7,36,37,38,39] J <| aT J <| aH <| aL ?_
 have hil : i < rws.length := by omega
 have hwi : (rws.getD i default).1.2.length = nn := hw _ (bS (us := rws) (i := i) hil)
 have hine : (rws.getD i default).1.2 ≠ [] := dA (show 0 < (rws.getD i default).1.2.length by omega)
 refine Rg 6 J <| Um J J <| aA (cG (us := rws) (f := rwc) (j := i) J J J J J om J) J <| aA (dY (l := .agg (rwc (rws.getD i default))) J J J) J <| bJ (fD J) J <| Ua J J <| bH (cP (cs' := rwc (rws.getD i default)) J J J g0 J J J J) <| Nk [0,7,9,10,36,37,38] J <| Rg 13 J <| Um J J <| Um J J <| aA (eK J) J <| aA (aU J J J J J) J <| aA (aM (l := outV qb 1 ((tab i fun k => ((nn + k : Nat) : Int)).map ic)) J J (by repeat (first | exact g0 | exact nrm_get.trans hgt | refine g1 om ?_)) J J) J ?_
 refine Um J J <| Um J J <| aA (cI (((nn + i : Nat) : Int)) (aO J J om) om) J <| aA (dJ (cs := [_]) (rows := [[_]]) J J (by decide) J J J) J <| WO.apX (te := ti3) (f := ic) (q := qb) (us := (tab i fun k => ((nn + k : Nat) : Int))) (u := ((nn + i : Nat) : Int)) J J J J J (fun _ => rfl) (by decide) (by show (2 * ((tab i _).length + 1) + 256) * 8 ≤ _; rw [dO]; omega) (by rw [dO]; omega) (fun h => (by repeat (first | exact g0 | exact nrm_get.trans (hgb h) | refine g1 om ?_))) J ?_
 intro hX1 hn1 hk1
 refine aA (eK J) J <| aA (aU J J J J J) J <| bH (cP (cs' := [_, _, _, _, _, _]) J J J (hk1 _ _ om (fun _ => by omega) (by repeat (first | exact g0 | exact nrm_get.trans hgt | refine g1 om ?_))) J J J J) ?_
 refine Nk [0,7,10,36,37,38] J <| dN (z := 16) J kR <| Dm J J <| Dm J J <| aC (eK J) J <| aC (aU J J J J J) J <| aC (aM (l := outV qc 1 ((tab i fun j => (a j, nn + 1)).map rfc)) J J g0 J J) J <| aC (aU J J J J J) J <| aC (aM (l := lvX (rws.getD i default).2.1) J J (g1 om (hk1 _ _ om (fun _ => by omega) g0)) J J) J <| aC (aV (b := .sl 2 [xc (rws.getD i default).2.1]) (dJ (cs := [_, _, _, _]) (rows := [[_, _, _, _]]) J J (by decide) J J J) J) J <| aC (aU J J J J J) J <| aC (aM (l := .sl (rws.getD i default).1.1 ((rws.getD i default).1.2.map xc)) J J (g1 om (hk1 _ _ om (fun _ => by omega) g0)) J J) J <| WD.S (aV (b := .ref (n + 1 + 6 + 13 + 10) 4 0 (nn + 1)) (oApS1 (te := ti88) (f := xc) (u := (rws.getD i default).2.1) (us := (rws.getD i default).1.2) J J J J J (fun _ => rfl) (by decide) hine (by show (2 * ((rws.getD i default).1.2.length + 1) + 256) * 64 ≤ _; omega) om) (by rw [List.length_cons, hwi]; rfl)) J <| aC (dJ (cs := [_]) (rows := [[_]]) J J (by decide) J J J) J <| WD.apX (te := ti83) (f := rfc) (q := qc) (us := (tab i fun j => (a j, nn + 1))) (u := ((n + 1 + 6 + 13 + 10), nn + 1)) J J J J J (fun _ => rfl) (by decide) (by show (2 * ((tab i _).length + 1) + 256) * 24 ≤ _; rw [dO]; omega) (by rw [dO]; omega) (fun h => g1 om (g1 om (hk1 _ _ om (fun _ => by omega) (by repeat (first | exact g0 | exact nrm_get.trans (hgc h) | refine g1 om ?_))))) J ?_
 intro hX2 hn2 hk2
 refine aC (eK J) J <| aC (aU J J J J J) J <| cO (cP (cs' := [_, _, _, _, _, _]) J J J (hk2 _ _ om (fun _ => by omega) (g1 om g0)) J J J J) <| bG (dX (rn n) (by simp only [List.reverse_cons, List.reverse_nil, List.nil_append, List.cons_append, List.map_cons, List.map_nil, ren, keys, Nat.add_assoc, iR, kG (show n0 + (2 + 9) < n by omega), kG (show qc < n by omega)]; kernel_rfl)) J <| aF <| Ck [0,7,36,37,38] J <| aI (z := 2) J <| aA (cI (((i + 1 : Nat) : Int)) (aO J J om) om) J <| Um J J <| Wn <| aG ?_
 have ea : (tab (i + 1) fun j => ((fun j => if j = i then (n + 1 + 6 + 13 + 10) else a j) j, nn + 1)) = (tab i fun j => (a j, nn + 1)) ++ [((n + 1 + 6 + 13 + 10), nn + 1)] := by
  rw [jZ]
  refine congr (congrArg _ (tab_eq fun j hj => ?_)) (congrArg (fun z => [(z, nn + 1)]) (if_pos J))
  show ((if j = i then _ else a j), nn + 1) = _
  rw [if_neg om]
 refine ⟨⟨i + 1, n + 1 + 6 + 9, (n + 1 + 6 + 13 + 12), (fun j => if j = i then (n + 1 + 6 + 13 + 10) else a j), _⟩, ⟨J, J, J, J, J, trivial⟩, bN fun _ _ h => h, ⟨om, om, om, om, om, om, fun j hj => ?_, fun j k hj hk => ?_, by rw [ea, jZ, mF, mF]; exact g0, fun _ => ?_, fun _ => ?_, fun j hj => ?_, fun h => ?_, ?_, fun r o hr h => ?_, om⟩, by show rws.length - (i + 1) < rws.length - i; omega⟩
 ·show n1 ≤ (if j = i then _ else a j) ∧ (if j = i then _ else a j) < _ ∧ (if j = i then _ else a j) ≠ _ ∧ (if j = i then _ else a j) ≠ _
  by_cases e : j = i
  ·rw [if_pos e]; omega
  ·rw [if_neg e]; have := ha j om; omega
 ·change (if j = i then _ else a j) = (if k = i then _ else a k) → j = k
  by_cases e1 : j = i <;> by_cases e2 : k = i
  ·omega
  ·rw [if_pos e1, if_neg e2]; have := ha k om; omega
  ·rw [if_neg e1, if_pos e2]; have := ha j om; omega
  ·rw [if_neg e1, if_neg e2]; exact hin j k om om
 ·rw [jZ]; exact g1 om (hk2 _ _ om (fun _ => by omega) (g1 om (g1 om hn1)))
 ·rw [ea]; exact g1 om hn2
 ·show getH _ (if j = i then _ else a j) = _
  by_cases e : j = i
  ·subst e; rw [if_pos rfl]; exact g1 om (hk2 _ _ om (fun _ => by omega) g0)
  ·rw [if_neg e]; have := ha j om; exact (g1 om (hk2 _ _ om (fun _ => by omega) (g1 om (g1 om (hk1 _ _ om (fun _ => by omega) (by repeat (first | exact g0 | exact nrm_get.trans (hgr j om) | refine g1 om ?_)))))))
 ·exact (g1 om (hk2 _ _ om (fun _ => by omega) (g1 om (g1 om (hk1 _ _ om (fun _ => by omega) (by repeat (first | exact g0 | exact nrm_get.trans (hgo h) | refine g1 om ?_)))))))
 ·exact (g1 om (hk2 _ _ om (fun _ => by omega) (g1 om (g1 om (hk1 _ _ om (fun _ => by omega) (by repeat (first | exact g0 | exact nrm_get.trans hgg | refine g1 om ?_)))))))
 ·exact (g1 om (hk2 _ _ om (fun _ => by omega) (g1 om (g1 om (hk1 _ _ om (fun _ => by omega) (by repeat (first | exact g0 | exact nrm_get.trans (hke r o hr h) | refine g1 om ?_)))))))
end Go.Proofs.YtohfklpfeilcpaaGreat
namespace Go.Proofs.YtohfklpfeilcpaaGreat
open Go.Ab Go.RowKit
theorem sidT_G (n0 : Nat) (H : Hp) (n : Nat) (L : Lay) (kr : Nat) (rws : List RW) (t : TX) (v : Int) (q : Nat) (hq : L.q = q) (hM : TM ⟨(138), (3), (83), (88)⟩ H n L (.sl kr (rws.map rwc)) t) (he : t.eqs = rws.map (·.2.2)) (hOk : t.tb.Ok) (hv : -1 ≤ v ∧ v ≤ 1000000) : WC Tryz.prog T E0 Tryz.f127.ntmps (codeOf Tryz.f127) (argsEnv 0 [.ptr q 0, .v (.int .i64 v)]) (nrm H) n0 (fun x e' h' n' => (x = .normal ∨ x = .ret) ∧ ∃ ls', resE e' T h' Tryz.f127.results.toList = some ls' ∧ (resultLV ls' = .v (.bool (t.tb.sd v)) ∧ n0 ≤ n' ∧ h' = nrm H)) := by
 subst hq
 have hr1 : rws.length ≤ 100000 := by have := hOk.el; rw [show t.tb.eqs = t.eqs from rfl, he, List.length_map] at this; exact this
 exact (sid_G n0 L.q H t.n kr rws _ _ _ _ v hM.tb hOk.nl hr1 hv).mono (by rintro x e h m ⟨hx, ls, hr, h1, h2, h3⟩; exact ⟨hx, ls, hr, h1.trans (congrArg (fun z => LV.v (.bool z)) (sd_eq he v)), h2, h3⟩)
theorem fre_G (n0 : Nat) (H : Hp) (L : Lay) (kr : Nat) (rws : List RW) (t : TX) (β : Nat) (hM : TM ⟨(138), (3), (83), (88)⟩ H n0 L (.sl kr (rws.map rwc)) t) (hev : t.eqs = rws.map (·.2.2)) (hOk : t.tb.Ok) (hB : ∀ k, k ≤ t.out.length → (t.tb.frs k).Bds β) (hm1 : 1 ≤ t.cells.length) (ho1 : 1 ≤ t.out.length) (h1 : 1 ≤ β) (hβ : β ≤ 400000000) : WC Tryz.prog T E0 Tryz.f84.ntmps (codeOf Tryz.f84) (argsEnv 0 [.ptr L.q 0]) (nrm H) n0 (fun x e' h' n' => (x = .normal ∨ x = .ret) ∧ ∃ ls', resE e' T h' Tryz.f84.results.toList = some ls' ∧ (∃ (L' : Lay) (t' : TX), TM ⟨(138), (3), (83), (88)⟩ h' n' L' (.sl kr (rws.map rwc)) t' ∧ t'.tb = t.tb.frs t.out.length ∧ t'.n = t.n ∧ t'.eqs = t.eqs ∧ t'.cells.length = t.cells.length ∧ t'.out.length = t.out.length ∧ t'.tb.Ok ∧ Mvd n0 n' t.cells.length L L' H h')) := by
 change WC _ _ _ _ _ [(0, .ptr L.q 0)] _ _ _
 have hol : t.out.length ≤ 100000 := hOk.ol
 have hgt0 : getH (nrm H) L.q = some { cells := tbC L (.sl kr (rws.map rwc)) t, sz := 6, elem := (138), st := 0 } := nrm_get.trans hM.tb
 have hone : t.out ≠ [] := dA (show 0 < t.out.length by omega)
 refine Ck [0] J <| Rg 6 J <| Um J J <| aA (eK J) J <| aA (aU J J J J J) J <| aA (aM (l := .ref L.o 1 0 t.out.length) J J hgt0 J (congrArg some (gB hone))) J <| aA (gY J J) J <| Um J J <| Nk [0,9,10] J <| dL <| bF (α := Nat × Lay × TX × Hp) (fun ⟨k, L', t', hh⟩ => [(0, .ptr L.q 0), (9, .v (.int .i64 (t.out.length : Int))), (10, .v (.int .i64 (k : Int)))]) (fun ⟨k, L', t', hh⟩ => nrm hh) (fun ⟨k, L', t', hh⟩ n => k ≤ t.out.length ∧ TM ⟨(138), (3), (83), (88)⟩ hh n L' (.sl kr (rws.map rwc)) t' ∧ t'.tb = t.tb.frs k ∧ t'.tb.Ok ∧ t'.n = t.n ∧ t'.eqs = t.eqs ∧ t'.cells.length = t.cells.length ∧ t'.out.length = t.out.length ∧ Mvd n0 n t.cells.length L L' H hh) (fun ⟨k, L', t', hh⟩ => t.out.length - k) (0, L, t, _) ⟨J, J, J, trivial⟩ (bN fun _ _ h => nrm_get.trans h) ⟨Nat.zero_le _, hM.mono om (fun _ _ _ h => h), rfl, hOk, rfl, rfl, rfl, rfl, Mvd.refl.le' om⟩ ?_
 rintro ⟨k, L', t', hh⟩ n hF
 change WC _ _ _ _ _ [(0, .ptr L.q 0), (9, .v (.int .i64 (t.out.length : Int))), (10, .v (.int .i64 (k : Int)))] (nrm hh) n _
 obtain ⟨hk, hM', htb, hOk', hn', he', hc', ho', hmv⟩ := hF
 have hqe : L'.q = L.q := hmv.qe
 have hgt : getH hh L.q = some { cells := tbC L' (.sl kr (rws.map rwc)) t', sz := 6, elem := (138), st := 0 } := by rw [← hqe]; exact hM'.tb
 have hbl : t'.basic.length = t'.cells.length := hOk'.xb
 have hml := hOk'.xm
 refine Rg 1 J <| aA (bZ J J) J <| bB (fun h11 => ?_) (fun h11 => ?_)
 rotate_left
 ·refine Nk [0,9,10,11] J <| aX J <| bA <| aS <| kA J ?_
  obtain rfl : k = t.out.length := by omega
  exact ⟨.inl J, _, rfl, L', t', hM'.mono om (fun _ _ _ h => nrm_get.trans h), htb, hn', he', hc', ho', hOk', hmv.nrm om⟩
 refine Nk [0,9,10,11] J <| aT J <| aH <| aL <| Rg 2 J <| Um J J <| Ua J J <| Nk [0,2,9,10] J <| aB ?_
 have hkl : k < t'.out.length := by omega
 have hgo : getH hh L'.o = some { cells := (t'.out.map ic).flatten, sz := 1, elem := (3), st := 0 } := hM'.ou (dA hkl)
 refine bR (z := 12) J kR <| Dm J J <| aC (eK J) J <| aC (aU J J J J J) J <| aC (aM (l := .ref L'.o 1 0 t'.out.length) J J (nrm_get.trans hgt) J (congrArg some (gB (dA hkl)))) J <| Dm J J <| aC (cH (j := k) J J J J om om J) J <| aC (aV (b := .v (.int .i64 (t'.out.getD k default))) (eC (f := ic) (us := t'.out) (j := k) J J (nrm_get.trans hgo) (fun _ => rfl) J (by decide) om J) J) J <| Dm J J <| aC (eK J) J <| aC (aU J J J J J) J <| aC (aV (b := .v (.int .i64 (t.n : Int))) (aM (l := .v (.int .i64 (t'.n : Int))) J J (nrm_get.trans hgt) J J) (by rw [hn'])) J <| aC (hH J J) J <| jD (fun h24 => ?_) (fun h24 => ?_)
 ·refine bG (aQ kR) J <| Ck [0,2,9,10,24] J <| aT J <| bA <| aR J <| Ck [0,9,10] J <| aI (z := 2) J <| aA (cI (((k + 1 : Nat) : Int)) (aO J J om) om) J <| Um J J <| Wn <| aG <| ⟨⟨k + 1, L', t', _⟩, ⟨J, J, J, trivial⟩, bN fun _ _ h => nrm_get.trans h, ⟨om, hM'.mono om (fun _ _ _ h => h), htb.trans (Tb.frs_skip (by rw [← htb]; show (t.n : Int) ≤ (t'.out.getD k default); omega)).symm, hOk', hn', he', hc', ho', hmv.le' om⟩, by show t.out.length - (k + 1) < t.out.length - k; omega⟩
 refine bG (aQ kR) J <| Ck [0,2,9,10,24] J <| aX J <| aH ?_
 have hbne : t'.basic ≠ [] := dA (show 0 < t'.basic.length by omega)
 have hgb : getH hh L'.b = some { cells := (t'.basic.map ic).flatten, sz := 1, elem := (3), st := 0 } := hM'.bs hbne
 have hgc := hM'.cl (dA (show 0 < t'.cells.length by omega))
 refine Rg 6 J <| Um J J <| aA (eK J) J <| aA (aU J J J J J) J <| aA (aM (l := .ref L'.b 1 0 t'.basic.length) J J (nrm_get.trans hgt) J (congrArg some (gB hbne))) J <| aA (gY J J) J <| Um J J <| Nk [0,2,9,10,28,29,30] J <| dL ?_
 obtain ⟨no, hno⟩ : ∃ z, z = n := ⟨n, rfl⟩
 refine bF (α := Nat) (fun i => [(0, .ptr L.q 0), (2, .v (.int .i64 (k : Int))), (9, .v (.int .i64 (t.out.length : Int))), (10, .v (.int .i64 (k : Int))), (28, .ref L'.b 1 0 t'.basic.length), (29, .v (.int .i64 (t'.basic.length : Int))), (30, .v (.int .i64 (i : Int)))]) (fun i => nrm hh) (fun i n => i ≤ t'.basic.length ∧ no ≤ n ∧ t'.tb.fr1 k t'.basic.length 0 = t'.tb.fr1 k (t'.basic.length - i) i) (fun i => t'.basic.length - i) (0) ⟨J, J, J, J, J, J, J, trivial⟩ (bN fun _ _ h => nrm_get.trans h) ⟨Nat.zero_le _, om, rfl⟩ ?_
 rintro i n hF
 change WC _ _ _ _ _ [(0, .ptr L.q 0), (2, .v (.int .i64 (k : Int))), (9, .v (.int .i64 (t.out.length : Int))), (10, .v (.int .i64 (k : Int))), (28, .ref L'.b 1 0 t'.basic.length), (29, .v (.int .i64 (t'.basic.length : Int))), (30, .v (.int .i64 (i : Int)))] (nrm hh) n _
 obtain ⟨hi, hnno, hfr⟩ := hF
 refine Rg 1 J <| aA (bZ J J) J <| bB (fun h31 => ?_) (fun h31 => ?_)
 rotate_left
 ·refine Nk [0,2,9,10,28,29,30,31] J <| aX J <| bA <| aS <| kA J <| aF <| Ck [0,9,10] J <| aI (z := 2) J <| aA (cI (((k + 1 : Nat) : Int)) (aO J J om) om) J <| Um J J <| Wn <| aG <| ⟨⟨k + 1, L', t', _⟩, ⟨J, J, J, trivial⟩, bN fun _ _ h => nrm_get.trans h, ⟨om, hM'.mono om (fun _ _ _ h => h), ?_, hOk', hn', he', hc', ho', hmv.le' om⟩, by show t.out.length - (k + 1) < t.out.length - k; omega⟩
  rw [Tb.frs_do (by rw [← htb]; show ¬ (t.n : Int) ≤ (t'.out.getD k default); omega), ← htb]
  show _ = t'.tb.fr1 k t'.basic.length 0
  rw [hfr, show t'.basic.length - i = 0 by omega]; rfl
 refine Nk [0,2,9,10,28,29,30,31] J <| aT J <| aH <| aL ?_
 have hil : i < t'.cells.length := by omega
 have hrl : (t'.cells.getD i []).length = t'.out.length + 1 := hOk'.xl hil
 have hgr := hM'.rw i hil
 refine Rg 5 J <| Um J J <| aA (cH (j := i) J J J J om om J) J <| aA (aV (b := .v (.int .i64 (t'.basic.getD i default))) (eC (f := ic) (us := t'.basic) (j := i) J J (nrm_get.trans hgb) (fun _ => rfl) J (by decide) om J) J) J <| Ua J J <| Ua J J <| Nk [0,2,3,4,9,10,28,29,30] J <| gL (z := 18) J <| dS (dK J) J <| dS (dK J) J <| qG (ls := [.ptr L.q 0, .v (.int .i64 (t'.basic.getD i default))]) (Φ := fun r h' n' => r = .v (.bool (t'.tb.sd (t'.basic.getD i default))) ∧ n ≤ n' ∧ h' = nrm hh) J Tryz.func127 J J (dH J) J ((sidT_G _ hh _ L' kr rws t' (t'.basic.getD i default) L.q hqe hM' (he'.trans hev) hOk' (hOk'.br _ (bS (us := t'.basic) (i := i) om))).mono (by rintro x e h m ⟨hx, ls, hr, h1, h2, h3⟩; exact ⟨hx, ls, hr, h1, om, h3⟩)) ?_
 rintro r_ h' n1 ⟨rfl, hn1, rfl⟩
 refine oP <| dT (fun h37 => ?_) (fun h37 => ?_)
 rotate_left
 ·refine Um J J <| K1 J J <| K1 J J <| K1 J J <| K1 J J <| K1 J J <| K1 J J <| K1 J J <| K1 J J <| K1 J J <| K1 J J <| K1 J J <| K1 J J <| K1 J J <| aA (bK J J) J <| Nk [0,2,3,9,10,28,29,30,39,40,41,42,43,44,45,46,47,48,49,50,51,52] J <| bV J <| cA <| aF <| Ck [0,2,9,10,28,29,30,39,40,41,42,43,44,45,46,47,48,49,50,51] J <| aI (z := 2) J <| aA (cI (((i + 1 : Nat) : Int)) (aO J J om) om) J <| Um J J ?_
  refine Wn <| aG <| ⟨i + 1, ⟨J, J, J, J, J, J, J, trivial⟩, bN fun _ _ h => nrm_get.trans h, ⟨om, om, ?_⟩, by show t'.basic.length - (i + 1) < t'.basic.length - i; omega⟩
  rw [hfr, show t'.basic.length - i = (t'.basic.length - (i + 1)) + 1 by omega]
  refine Tb.fr1_miss fun ⟨e1, e2⟩ => ?_
  rw [cellX] at e2
  first | exact e2 (gR.1 om) | (change t'.tb.sd (t'.basic.getD i default) = true at e1; rw [h37] at e1; cases e1)
 refine Um J J <| aE J (dK J) J <| aE J (eK J) J <| aE J (aU J J J J J) J <| aE J (aM (l := .ref L'.c 1 0 t'.cells.length) J J (nrm_get.trans hgt) J (congrArg some (jJ (dA hil)))) J <| aE J (dK J) J <| aE J (cH (j := i) J J J J om om J) J <| aE J (aV (b := .ref (L'.a i) 4 0 (t'.cells.getD i []).length) (eC (f := rfc) (us := rwsT L' t'.cells) (j := i) J J (nrm_get.trans hgc) (fun _ => rfl) J (by decide) (by rw [fT]; omega) J) (by rw [jX hil])) J <| aE J (dK J) J <| aE J (cI (((k + 1 : Nat) : Int)) (aO J J om) om) J <| aE J (cH (j := k + 1) J J J J om om J) J <| aE J (aV (b := lvX ((t'.cells.getD i []).getD (k + 1) default)) (eC (f := xc) (us := (t'.cells.getD i [])) (j := k + 1) J J (nrm_get.trans hgr) (fun _ => rfl) J (by decide) om J) J) J <| aE J (aK J (fH ((t'.cells.getD i []).getD (k + 1) default)) dD) J <| aE J (gJ J J) J <| bB (fun h51 => ?_) (fun h51 => ?_)
 rotate_left
 ·refine aA (bM J J) J <| Nk [0,2,3,9,10,28,29,30,39,40,41,42,43,44,45,46,47,48,49,50,51,52] J <| bV J <| cA <| aF <| Ck [0,2,9,10,28,29,30,39,40,41,42,43,44,45,46,47,48,49,50,51] J <| aI (z := 2) J <| aA (cI (((i + 1 : Nat) : Int)) (aO J J om) om) J <| Um J J <| Wn <| aG <| ⟨i + 1, ⟨J, J, J, J, J, J, J, trivial⟩, bN fun _ _ h => nrm_get.trans h, ⟨om, om, ?_⟩, by show t'.basic.length - (i + 1) < t'.basic.length - i; omega⟩
  rw [hfr, show t'.basic.length - i = (t'.basic.length - (i + 1)) + 1 by omega]
  refine Tb.fr1_miss fun ⟨e1, e2⟩ => ?_
  rw [cellX] at e2
  first | exact e2 (gR.1 om) | (change t'.tb.sd (t'.basic.getD i default) = true at e1; rw [h37] at e1; cases e1)
 refine aA (bM J J) J <| Nk [0,2,3,9,10,28,29,30,39,40,41,42,43,44,45,46,47,48,49,50,51,52] J <| bY J ?_
 have hne0 : ((t'.cells.getD i []).getD (k + 1) default).1 ≠ 0 := fun e => h51 (gR.2 e)
 refine gL (z := 4) J <| dS (dK J) J <| dS (dK J) J <| dS (dK J) J ?_
 have hpiv := piv_G (n1 + 4) hh L' (.sl kr (rws.map rwc)) t' i k β _ (hM'.mono om (fun _ _ _ h => h)) hOk' (by rw [htb]; exact hB k om) om om rfl hne0 h1 hβ
 rw [hqe] at hpiv
 refine qG (ls := [.ptr L.q 0, .v (.int .i64 (i : Int)), .v (.int .i64 (k : Int))]) (Φ := fun _ h' n' => (∃ (L2 : Lay) (t2 : TX), TM ⟨(138), (3), (83), (88)⟩ h' n' L2 (.sl kr (rws.map rwc)) t2 ∧ t2.tb = t'.tb.piv i k ∧ t2.n = t'.n ∧ t2.eqs = t'.eqs ∧ t2.cells.length = t'.cells.length ∧ Mvd (n1 + 4) n' t'.cells.length L' L2 hh h')) J Tryz.func123 J J (dH J) J (hpiv.mono (by rintro x e h m ⟨hx, ls, hr, hP⟩; exact ⟨hx, ls, hr, hP⟩)) ?_
 rintro r_ h' n2 ⟨L2, t2, hM2, htb2, hn2, he2, hc2, hmv2⟩
 refine oP <| Nk [0,9,10,39,40,41,42,43,44,45,46,47,48,49,50,51] J <| qK <| after_exitF J <| aS <| kA J <| aF <| Ck [0,9,10,39,40,41,42,43,44,45,46,47,48,49,50,51] J <| aI (z := 2) J <| aA (cI (((k + 1 : Nat) : Int)) (aO J J om) om) J <| Um J J <| Wn <| aG <| ⟨⟨k + 1, L2, t2, h'⟩, ⟨J, J, J, trivial⟩, bN fun _ _ h => h, ⟨om, hM2.mono om (fun _ _ _ h => h), ?_, ?_, hn2.trans hn', he2.trans he', hc2.trans hc', ?_, (hmv.trans (by rw [← hc']; exact hmv2.le0 om)).le' om⟩, by show t.out.length - (k + 1) < t.out.length - k; omega⟩
 ·rw [htb2, Tb.frs_do (by rw [← htb]; show ¬ (t.n : Int) ≤ (t'.out.getD k default); omega), ← htb]
  show _ = t'.tb.fr1 k t'.basic.length 0
  rw [hfr, show t'.basic.length - i = (t'.basic.length - i - 1) + 1 by omega]
  exact (Tb.fr1_hit (by exact h37) (by rw [cellX]; exact hne0)).symm
 ·rw [htb2]; exact hOk'.piv (by rw [mJ]; omega) (show k < t'.out.length by omega)
 ·show t2.tb.out.length = _
  rw [htb2]; show (t'.out.set k _).length = _; rw [List.length_set]; exact ho'
end Go.Proofs.YtohfklpfeilcpaaGreat
namespace Go.Proofs.YtohfklpfeilcpaaGreat
open Go.Ab Go.RowKit
theorem feaQ_G (n0 : Nat) (H : Hp) (L : Lay) (kr : Nat) (rws : List RW) (t : TX) (hM : TM ⟨(138), (3), (83), (88)⟩ H n0 L (.sl kr (rws.map rwc)) t) (hev : t.eqs = rws.map (·.2.2)) (hOk : t.tb.Ok) (hm1 : 1 ≤ t.cells.length) (hfe : ∀ i, i < t.cells.length → t.tb.sd (t.basic.getD i default) = true → 0 ≤ ((t.cells.getD i []).getD 0 default).1.num.sign) : WC Tryz.prog T E0 Tryz.f85.ntmps (codeOf Tryz.f85) (argsEnv 0 [.ptr L.q 0]) (nrm H) n0 (fun x e' h' n' => (x = .normal ∨ x = .ret) ∧ ∃ ls', resE e' T h' Tryz.f85.results.toList = some ls' ∧ (resultLV ls' = .tup [.sl 0 [], .v (.bool true)] ∧ n0 ≤ n' ∧ ∀ r o, r < n0 → getH H r = some o → getH h' r = some o)) := by
 change WC _ _ _ _ _ [(0, .ptr L.q 0)] _ _ _
 have hgt : getH H L.q = some { cells := tbC L (.sl kr (rws.map rwc)) t, sz := 6, elem := (138), st := 0 } := hM.tb
 have hbl : t.basic.length = t.cells.length := hOk.xb
 have hml := hOk.xm
 have hLq : L.q < n0 := hM.lt 0 om
 have hbne : t.basic ≠ [] := dA (show 0 < t.basic.length by omega)
 have hLb : L.b < n0 := hM.lt 1 om
 have hLc : L.c < n0 := hM.lt 3 om
 have hgb : getH H L.b = some { cells := (t.basic.map ic).flatten, sz := 1, elem := (3), st := 0 } := hM.bs hbne
 have hgc := hM.cl (dA (show 0 < t.cells.length by omega))
 refine Ck [0] J <| Rg 3 J <| bJ (eO J J) J <| Ua J J <| Ua J J <| Nk [1] J <| Rg 1 J <| Ua J J <| Nk [1,4] J <| aB <| Rg 6 J <| aA (aM (l := .ptr L.q 0) J J g0 J J) J <| aA (eK J) J <| aA (aU J J J J J) J <| aA (aM (l := .ref L.b 1 0 t.basic.length) J J (show getH _ _ = some { cells := tbC L (.sl kr (rws.map rwc)) t, sz := 6, elem := (138), st := 0 } from (by repeat (first | exact g0 | exact nrm_get.trans hgt | refine g1 om ?_))) J (congrArg some (gB hbne))) J ?_
 refine aA (gY J J) J <| Um J J <| Nk [1,4,23,24,25] J <| aL <| bF (α := Nat × Hp) (fun ⟨i, hh⟩ => [(1, .ptr n0 0), (4, .v (.int .i64 (-1))), (23, .ref L.b 1 0 t.basic.length), (24, .v (.int .i64 (t.basic.length : Int))), (25, .v (.int .i64 (i : Int)))]) (fun ⟨i, hh⟩ => nrm hh) (fun ⟨i, hh⟩ n => i ≤ t.basic.length ∧ getH hh n0 = some { cells := [.ptr L.q 0], sz := 1, elem := (132), st := 0 } ∧ (∀ r o, r < n0 → getH H r = some o → getH hh r = some o) ∧ n0 + 4 ≤ n) (fun ⟨i, hh⟩ => t.basic.length - i) (0, _) ⟨J, J, J, J, J, trivial⟩ (bN fun _ _ h => h) ⟨Nat.zero_le _, g0, fun r o hr h => (by repeat (first | exact g0 | exact nrm_get.trans h | refine g1 om ?_)), om⟩ ?_
 rintro ⟨i, hh⟩ n hF
 change WC _ _ _ _ _ [(1, .ptr n0 0), (4, .v (.int .i64 (-1))), (23, .ref L.b 1 0 t.basic.length), (24, .v (.int .i64 (t.basic.length : Int))), (25, .v (.int .i64 (i : Int)))] (nrm hh) n _
 obtain ⟨hi, hgx, hke, hnn⟩ := hF
 have hM' := hM.mono (n' := n) om (fun j o hj h => hke _ o (hM.lt j hj) h)
 refine Rg 1 J <| aA (bZ J J) J <| bB (fun h26 => ?_) (fun h26 => ?_)
 rotate_left
 ·refine Nk [1,4,23,24,25,26] J <| aX J <| bA <| aS <| aR J <| Ck [1,4] J <| aB <| Rg 2 J <| Um J J <| aA (bZ J J) J <| bB (fun h75 => ?_) (fun h75 => ?_)
  rotate_left
  ·exact absurd (show (-1 : Int) < 0 by decide) h75
  refine Nk [1,4,75] J <| aT J <| aB <| Rg 2 J <| Ua J J <| Ua J J <| Nk [2,3] J <| bI ?_
  exact ⟨.inr J, _, rfl, rfl, om, fun r o hr h => (by repeat (first | exact g0 | exact nrm_get.trans (hke r o hr h) | refine g1 om ?_))⟩
 refine Nk [1,4,23,24,25,26] J <| aT J <| aH <| aL ?_
 have hil : i < t.cells.length := by omega
 have hrl : (t.cells.getD i []).length = t.out.length + 1 := hOk.xl hil
 have hgr := hM.rw i hil
 have hLa : L.a i < n0 := hM.lt (i + 5) om
 refine Rg 5 J <| Um J J <| aA (cH (j := i) J J J J om om J) J <| aA (aV (b := .v (.int .i64 (t.basic.getD i default))) (eC (f := ic) (us := t.basic) (j := i) J J (nrm_get.trans (hke _ _ hLb hgb)) (fun _ => rfl) J (by decide) om J) J) J <| Ua J J <| Ua J J <| Nk [1,4,5,6,23,24,25] J <| nU (z := 42) J kR <| WX.U ((aM (l := .ptr L.q 0) J J (nrm_get.trans hgx) J J)) J <| WX.U (dK J) J <| WX.G (ls := [.ptr L.q 0, .v (.int .i64 (t.basic.getD i default))]) (Φ := fun r h' n' => r = .v (.bool (t.tb.sd (t.basic.getD i default))) ∧ n ≤ n' ∧ h' = nrm hh) [] J J Tryz.func127 J J (dH J) J ((sidT_G _ hh _ L kr rws t (t.basic.getD i default) L.q J hM' hev hOk (hOk.br _ (bS (us := t.basic) (i := i) om))).mono (by rintro x e h m ⟨hx, ls, hr, h1, h2, h3⟩; exact ⟨hx, ls, hr, h1, om, h3⟩)) ?_
 rintro r_ h' n1 ⟨rfl, hn1, rfl⟩
 refine ⟨fun _ h => (by cases h), ?_⟩
 refine WX.B (fun h32 => ?_) (fun h32 => ?_)
 rotate_left
 ·refine WX.U (dK J) J <| WX.K J J <| WX.K J J <| WX.K J J <| WX.K J J <| WX.K J J <| WX.K J J <| WX.K J J <| WX.K J J <| WX.K J J <| WX.K J J <| WX.K J J <| WX.U (bK J J) J <| WX.U (dK J) J <| WX.K J J <| WX.K J J <| WX.K J J <| WX.K J J <| WX.K J J <| WX.K J J <| WX.K J J <| WX.K J J <| WX.K J J <| WX.K J J ?_
  refine WX.K J J <| WX.K J J <| WX.K J J <| WX.K J J <| WX.K J J <| WX.K J J <| WX.K J J <| WX.K J J <| WX.K J J <| WX.K J J <| WX.K J J <| WX.K J J <| WX.K J J <| WX.K J J <| WX.U (bK J J) J <| WX.nil (mN kR) <| Ck [1,4,5,23,24,25,34,35,36,37,38,39,40,41,42,43,44,47,48,49,50,51,52,53,54,55,56,57,58,59,60,61,62,63,64,65,66,67,68,69,70,71] J <| bV J <| cA <| aF <| Ck [1,4,23,24,25,34,35,36,37,38,39,40,41,42,43,44,47,48,49,50,51,52,53,54,55,56,57,58,59,60,61,62,63,64,65,66,67,68,69,70] J <| aI (z := 2) J <| aA (cI (((i + 1 : Nat) : Int)) (aO J J om) om) J <| Um J J ?_
  refine Wn <| aG <| ⟨⟨i + 1, _⟩, ⟨J, J, J, J, J, trivial⟩, bN fun _ _ h => nrm_get.trans h, ⟨om, hgx, hke, om⟩, by show t.basic.length - (i + 1) < t.basic.length - i; omega⟩
 refine WX.U (dK J) J <| WX.Ug J ((aM (l := .ptr L.q 0) J J (nrm_get.trans hgx) J J)) J <| WX.Ug J (eK J) J <| WX.Ug J (aU J J J J J) J <| WX.Ug J (aM (l := .ref L.c 1 0 t.cells.length) J J (nrm_get.trans (hke _ _ hLq hgt)) J (congrArg some (jJ (dA hil)))) J <| WX.Ug J (dK J) J <| WX.Ug J (cH (j := i) J J J J om om J) J <| WX.Ug J (aV (b := .ref (L.a i) 4 0 (t.cells.getD i []).length) (eC (f := rfc) (us := rwsT L t.cells) (j := i) J J (nrm_get.trans (hke _ _ hLc hgc)) (fun _ => rfl) J (by decide) (by rw [fT]; omega) J) (by rw [jX hil])) J <| WX.Ug J (cH (j := 0) J J J J om om J) J <| WX.Ug J (aV (b := lvX ((t.cells.getD i []).getD 0 default)) (eC (f := xc) (us := (t.cells.getD i [])) (j := 0) J J (nrm_get.trans (hke _ _ hLa hgr)) (fun _ => rfl) J (by decide) om J) J) J <| WX.Ug J (aK J (fH ((t.cells.getD i []).getD 0 default)) dD) J <| WX.Ug J (bZ J J) J <| WX.D (fun h44 => ?_) (fun h44 => ?_)
 ·exact absurd h44 (by have := hfe i hil h32; omega)
 refine WX.U (bM J J) J <| WX.U (dK J) J <| WX.K J J <| WX.K J J <| WX.K J J <| WX.K J J <| WX.K J J <| WX.K J J <| WX.K J J <| WX.K J J <| WX.K J J <| WX.K J J <| WX.K J J <| WX.K J J <| WX.K J J <| WX.K J J <| WX.K J J <| WX.K J J <| WX.K J J <| WX.K J J <| WX.K J J <| WX.K J J <| WX.K J J <| WX.K J J ?_
 refine WX.K J J <| WX.K J J <| WX.U (bK J J) J <| WX.nil (mN kR) <| Ck [1,4,5,23,24,25,34,35,36,37,38,39,40,41,42,43,44,47,48,49,50,51,52,53,54,55,56,57,58,59,60,61,62,63,64,65,66,67,68,69,70,71] J <| bV J <| cA <| aF <| Ck [1,4,23,24,25,34,35,36,37,38,39,40,41,42,43,44,47,48,49,50,51,52,53,54,55,56,57,58,59,60,61,62,63,64,65,66,67,68,69,70] J <| aI (z := 2) J <| aA (cI (((i + 1 : Nat) : Int)) (aO J J om) om) J <| Um J J <| Wn <| aG <| ⟨⟨i + 1, _⟩, ⟨J, J, J, J, J, trivial⟩, bN fun _ _ h => nrm_get.trans h, ⟨om, hgx, hke, om⟩, by show t.basic.length - (i + 1) < t.basic.length - i; omega⟩
theorem desQ_G (n0 : Nat) (H : Hp) (L : Lay) (kr : Nat) (rws : List RW) (t : TX) (hM : TM ⟨(138), (3), (83), (88)⟩ H n0 L (.sl kr (rws.map rwc)) t) (hev : t.eqs = rws.map (·.2.2)) (hOk : t.tb.Ok) (ho1 : 1 ≤ t.out.length) (hde : ∀ c, c < t.out.length → t.tb.sd (t.out.getD c default) = true → 0 ≤ (t.goal.getD (c + 1) default).1.num.sign) : WC Tryz.prog T E0 Tryz.f88.ntmps (codeOf Tryz.f88) (argsEnv 0 [.ptr L.q 0]) (nrm H) n0 (fun x e' h' n' => (x = .normal ∨ x = .ret) ∧ ∃ ls', resE e' T h' Tryz.f88.results.toList = some ls' ∧ (resultLV ls' = .v (.int .i64 (-1)) ∧ n0 ≤ n' ∧ h' = nrm H)) := by
 change WC _ _ _ _ _ [(0, .ptr L.q 0)] _ _ _
 have hgt : getH (nrm H) L.q = some { cells := tbC L (.sl kr (rws.map rwc)) t, sz := 6, elem := (138), st := 0 } := nrm_get.trans hM.tb
 have hol : t.out.length ≤ 100000 := hOk.ol
 have hgw := hOk.xg
 have hone : t.out ≠ [] := dA (show 0 < t.out.length by omega)
 have hgo : getH (nrm H) L.o = some { cells := (t.out.map ic).flatten, sz := 1, elem := (3), st := 0 } := nrm_get.trans (hM.ou hone)
 have hgg : getH (nrm H) L.g = some { cells := (t.goal.map xc).flatten, sz := 4, elem := (88), st := 0 } := nrm_get.trans hM.gl
 refine Ck [0] J <| Rg 1 J <| Ua J J <| Nk [0] J <| dL <| iN <| dL <| Rg 1 J <| Ua J J <| Nk [0,3] J <| aB <| Rg 6 J <| Um J J <| aA (eK J) J <| aA (aU J J J J J) J <| aA (aM (l := .ref L.o 1 0 t.out.length) J J hgt J (congrArg some (gB hone))) J <| aA (gY J J) J <| Um J J <| Nk [0,3,15,16,17] J <| aL <| bF (α := Nat) (fun c => [(0, .ptr L.q 0), (3, .v (.int .i64 (-1))), (15, .ref L.o 1 0 t.out.length), (16, .v (.int .i64 (t.out.length : Int))), (17, .v (.int .i64 (c : Int)))]) (fun c => nrm H) (fun c n => c ≤ t.out.length ∧ n0 ≤ n) (fun c => t.out.length - c) (0) ⟨J, J, J, J, J, trivial⟩ (bN fun _ _ h => nrm_get.trans h) ⟨Nat.zero_le _, om⟩ ?_
 rintro c n hF
 change WC _ _ _ _ _ [(0, .ptr L.q 0), (3, .v (.int .i64 (-1))), (15, .ref L.o 1 0 t.out.length), (16, .v (.int .i64 (t.out.length : Int))), (17, .v (.int .i64 (c : Int)))] (nrm H) n _
 obtain ⟨hc, hnn⟩ := hF
 refine Rg 1 J <| aA (bZ J J) J <| bB (fun h18 => ?_) (fun h18 => ?_)
 rotate_left
 ·refine Nk [0,3,15,16,17,18] J <| aX J <| bA <| aS <| aR J <| Ck [0,3] J <| aB <| Rg 2 J <| Um J J <| aA (bZ J J) J <| bB (fun h55 => ?_) (fun h55 => ?_)
  rotate_left
  ·exact absurd (show (-1 : Int) < 0 by decide) h55
  refine Nk [0,3,55] J <| aT J <| aB <| Rg 1 J <| Ua J J <| Nk [2] J <| bI <| qZ <| unr_ret <| qZ ?_
  exact ⟨.inr J, _, rfl, rfl, om, rfl⟩
 refine Nk [0,3,15,16,17,18] J <| aT J <| aH <| aL <| Rg 5 J <| Um J J <| aA (cH (j := c) J J J J om om J) J <| aA (aV (b := .v (.int .i64 (t.out.getD c default))) (eC (f := ic) (us := t.out) (j := c) J J hgo (fun _ => rfl) J (by decide) om J) J) J <| Ua J J <| Ua J J <| Nk [0,3,4,5,15,16,17] J <| gL (z := 30) J <| dS (dK J) J <| dS (dK J) J <| qG (ls := [.ptr L.q 0, .v (.int .i64 (t.out.getD c default))]) (Φ := fun r h' n' => r = .v (.bool (t.tb.sd (t.out.getD c default))) ∧ n ≤ n' ∧ h' = nrm H) J Tryz.func127 J J (dH J) J ((sidT_G _ H _ L kr rws t (t.out.getD c default) L.q J (hM.mono (n' := n) om (fun _ _ _ h => h)) hev hOk (hOk.or _ (bS (us := t.out) (i := c) om))).mono (by rintro x e h m ⟨hx, ls, hr, h1, h2, h3⟩; exact ⟨hx, ls, hr, h1, om, h3⟩)) ?_
 rintro r_ h' n1 ⟨rfl, hn1, rfl⟩
 refine oP <| dT (fun h24 => ?_) (fun h24 => ?_)
 rotate_left
 ·refine Um J J <| K1 J J <| K1 J J <| K1 J J <| K1 J J <| K1 J J <| K1 J J <| K1 J J <| K1 J J <| K1 J J <| K1 J J <| aA (bK J J) J <| Um J J <| K1 J J <| K1 J J <| K1 J J <| K1 J J <| K1 J J <| K1 J J <| K1 J J <| K1 J J <| K1 J J <| K1 J J <| K1 J J ?_
  refine K1 J J <| K1 J J <| aA (bK J J) J <| Nk [0,3,4,15,16,17,26,27,28,29,30,31,32,33,34,35,38,39,40,41,42,43,44,45,46,47,48,49,50,51] J <| bV J <| cA <| aF <| Ck [0,3,15,16,17,26,27,28,29,30,31,32,33,34,35,38,39,40,41,42,43,44,45,46,47,48,49,50] J <| aI (z := 2) J <| aA (cI (((c + 1 : Nat) : Int)) (aO J J om) om) J <| Um J J <| Wn <| aG <| ⟨c + 1, ⟨J, J, J, J, J, trivial⟩, bN fun _ _ h => nrm_get.trans h, ⟨om, om⟩, by show t.out.length - (c + 1) < t.out.length - c; omega⟩
 refine Um J J <| aE J (dK J) J <| aE J (eK J) J <| aE J (aU J J J J J) J <| aE J (aM (l := .ref L.g 4 0 t.goal.length) J J hgt J J) J <| aE J (dK J) J <| aE J (cI (((c + 1 : Nat) : Int)) (aO J J om) om) J <| aE J (cH (j := c + 1) J J J J om om J) J <| aE J (aV (b := lvX (t.goal.getD (c + 1) default)) (eC (f := xc) (us := t.goal) (j := c + 1) J J hgg (fun _ => rfl) J (by decide) om J) J) J <| aE J (aK J (fH (t.goal.getD (c + 1) default)) dD) J <| aE J (bZ J J) J <| bB (fun h35 => ?_) (fun h35 => ?_)
 ·exact absurd h35 (by have := hde c om h24; omega)
 refine aA (bM J J) J <| Um J J <| K1 J J <| K1 J J <| K1 J J <| K1 J J <| K1 J J <| K1 J J <| K1 J J <| K1 J J <| K1 J J <| K1 J J <| K1 J J <| K1 J J <| K1 J J <| aA (bK J J) J <| Nk [0,3,4,15,16,17,26,27,28,29,30,31,32,33,34,35,38,39,40,41,42,43,44,45,46,47,48,49,50,51] J <| bV J <| cA <| aF <| Ck [0,3,15,16,17,26,27,28,29,30,31,32,33,34,35,38,39,40,41,42,43,44,45,46,47,48,49,50] J <| aI (z := 2) J <| aA (cI (((c + 1 : Nat) : Int)) (aO J J om) om) J ?_
 refine Um J J <| Wn <| aG <| ⟨c + 1, ⟨J, J, J, J, J, trivial⟩, bN fun _ _ h => nrm_get.trans h, ⟨om, om⟩, by show t.out.length - (c + 1) < t.out.length - c; omega⟩
end Go.Proofs.YtohfklpfeilcpaaGreat
namespace Go.Proofs.YtohfklpfeilcpaaGreat
open Go.Ab Go.RowKit
theorem pnt_G (n0 : Nat) (H : Hp) (L : Lay) (kr : Nat) (rws : List RW) (t : TX) (hM : TM ⟨(138), (3), (83), (88)⟩ H n0 L (.sl kr (rws.map rwc)) t) (hev : t.eqs = rws.map (·.2.2)) (hOk : t.tb.Ok) (hm1 : 1 ≤ t.cells.length) : WC Tryz.prog T E0 Tryz.f86.ntmps (codeOf Tryz.f86) (argsEnv 0 [.ptr L.q 0]) (nrm H) n0 (fun x e' h' n' => (x = .normal ∨ x = .ret) ∧ ∃ ls', resE e' T h' Tryz.f86.results.toList = some ls' ∧ (∃ (q : Nat) (l : List X), resultLV ls' = .ref q 4 0 l.length ∧ r1 l = t.tb.pnt ∧ l.length = t.n ∧ getH h' q = some (obX (88) l) ∧ n0 ≤ q ∧ q < n' ∧ n0 ≤ n' ∧ ∀ r o, r < n0 → getH H r = some o → getH h' r = some o)) := by
 change WC _ _ _ _ _ [(0, .ptr L.q 0)] _ _ _
 have hgt : getH H L.q = some { cells := tbC L (.sl kr (rws.map rwc)) t, sz := 6, elem := (138), st := 0 } := hM.tb
 have hbl : t.basic.length = t.cells.length := hOk.xb
 have hml := hOk.xm
 have hol : t.out.length ≤ 100000 := hOk.ol
 have hnl : t.n ≤ 100000 := hOk.nl
 have hLq : L.q < n0 := hM.lt 0 om
 have hLb : L.b < n0 := hM.lt 1 om
 have hLo : L.o < n0 := hM.lt 2 om
 have hLc : L.c < n0 := hM.lt 3 om
 have hbne : t.basic ≠ [] := dA (show 0 < t.basic.length by omega)
 have hgb : getH H L.b = some { cells := (t.basic.map ic).flatten, sz := 1, elem := (3), st := 0 } := hM.bs hbne
 have hgc := hM.cl (dA (show 0 < t.cells.length by omega))
 have hke : ∀ r o, r < n0 → getH H r = some o → getH H r = some o := fun _ _ _ h => h
 refine Ck [0] J <| Rg 1 J <| Ua J J <| Nk [0] J <| Rg 6 J <| Um J J <| aA (eK J) J <| aA (aU J J J J J) J <| aA (aM (l := .v (.int .i64 (t.n : Int))) J J (show getH _ _ = some { cells := tbC L (.sl kr (rws.map rwc)) t, sz := 6, elem := (138), st := 0 } from (by repeat (first | exact g0 | exact nrm_get.trans (hke _ _ hLq hgt) | refine g1 om ?_))) J J) J ?_
 refine bJ (oMk (a := t.n) (b := t.n) J J J J om om (by decide) om (by show 64 * t.n ≤ _; omega) om) J <| Ua J J <| Nk [0,3] J <| aB <| Rg 6 J <| Um J J <| aA (eK J) J <| aA (aU J J J J J) J <| aA (aM (l := .ref L.b 1 0 t.basic.length) J J (show getH _ _ = some { cells := tbC L (.sl kr (rws.map rwc)) t, sz := 6, elem := (138), st := 0 } from (by repeat (first | exact g0 | exact nrm_get.trans (hke _ _ hLq hgt) | refine g1 om ?_))) J (congrArg some (gB hbne))) J ?_
 refine aA (gY J J) J <| Um J J <| Nk [0,3,14,15,16] J <| aL <| bF (α := Nat × (List X) × Hp) (fun ⟨i, us, hh⟩ => [(0, .ptr L.q 0), (3, .ref (n0 + 1 + 4) 4 0 t.n), (14, .ref L.b 1 0 t.basic.length), (15, .v (.int .i64 (t.basic.length : Int))), (16, .v (.int .i64 (i : Int)))]) (fun ⟨i, us, hh⟩ => nrm hh) (fun ⟨i, us, hh⟩ n => i ≤ t.basic.length ∧ us.length = t.n ∧ getH hh (n0 + 1 + 4) = some { cells := (us.map xc).flatten, sz := 4, elem := (88), st := 0 } ∧ r1 us = t.tb.pntS i ∧ (∀ r o, r < n0 → getH H r = some o → getH hh r = some o) ∧ n0 + 12 ≤ n) (fun ⟨i, us, hh⟩ => t.basic.length - i) (0, List.replicate t.n x0, _) ⟨J, J, J, J, J, trivial⟩ (bN fun _ _ h => h) ⟨Nat.zero_le _, List.length_replicate, g0.trans (by rw [List.map_replicate]; rfl), r1_rep _, fun r o hr h => (by repeat (first | exact g0 | exact nrm_get.trans h | refine g1 om ?_)), om⟩ ?_
 rintro ⟨i, us, hh⟩ n hF
 change WC _ _ _ _ _ [(0, .ptr L.q 0), (3, .ref (n0 + 1 + 4) 4 0 t.n), (14, .ref L.b 1 0 t.basic.length), (15, .v (.int .i64 (t.basic.length : Int))), (16, .v (.int .i64 (i : Int)))] (nrm hh) n _
 clear hke
 obtain ⟨hi, hul, hg1, hus, hke, hnn⟩ := hF
 refine Rg 1 J <| aA (bZ J J) J <| bB (fun h17 => ?_) (fun h17 => ?_)
 rotate_left
 ·refine Nk [0,3,14,15,16,17] J <| aX J <| bA <| aS <| aR J <| Ck [3] J <| Rg 2 J <| Um J J <| Ua J J <| Nk [2] J <| aN ?_
  obtain rfl : i = t.basic.length := by omega
  exact ⟨.inr J, _, rfl, (n0 + 1 + 4), us, by rw [hul]; rfl, hus, hul, nrm_get.trans hg1, om, om, om, fun r o hr h => nrm_get.trans (hke r o hr h)⟩
 refine Nk [0,3,14,15,16,17] J <| aT J <| aH <| aL ?_
 have hil : i < t.cells.length := by omega
 have hrl : (t.cells.getD i []).length = t.out.length + 1 := hOk.xl hil
 have hLa : L.a i < n0 := hM.lt (i + 5) om
 have hgr := hM.rw i hil
 refine Rg 5 J <| Um J J <| aA (cH (j := i) J J J J om om J) J <| aA (aV (b := .v (.int .i64 (t.basic.getD i default))) (eC (f := ic) (us := t.basic) (j := i) J J (nrm_get.trans (hke _ _ hLb hgb)) (fun _ => rfl) J (by decide) om J) J) J <| Ua J J <| Ua J J <| Nk [0,3,4,5,14,15,16] J <| Rg 10 J <| Um J J <| aA (hH J J) J <| bB (fun h22 => ?_) (fun h22 => ?_)
 rotate_left
 ·refine Um J J <| K1 J J <| K1 J J <| K1 J J <| K1 J J <| K1 J J <| K1 J J <| aA (bK J J) J <| Nk [0,3,4,5,14,15,16,24,25,26,27,28,29,30] J <| bV J <| cA <| aF <| Ck [0,3,14,15,16,24,25,26,27,28,29] J <| aI (z := 2) J <| aA (cI (((i + 1 : Nat) : Int)) (aO J J om) om) J <| Um J J <| Wn <| aG <| ⟨⟨i + 1, us, _⟩, ⟨J, J, J, J, J, trivial⟩, bN fun _ _ h => h, ⟨om, hul, (by repeat (first | exact g0 | exact nrm_get.trans hg1 | refine g1 om ?_)), ?_, fun r o hr h => (by repeat (first | exact g0 | exact nrm_get.trans (hke r o hr h) | refine g1 om ?_)), om⟩, by show t.basic.length - (i + 1) < t.basic.length - i; omega⟩
  rw [hus, Tb.pntS_no (t := t.tb) (i := i) fun e => ?_]
  exact h22 e.1
 refine Um J J <| aE J (dK J) J <| aE J (dK J) J <| aE J (eK J) J <| aE J (aU J J J J J) J <| aE J (aM (l := .v (.int .i64 (t.n : Int))) J J (show getH _ _ = some { cells := tbC L (.sl kr (rws.map rwc)) t, sz := 6, elem := (138), st := 0 } from (by repeat (first | exact g0 | exact nrm_get.trans (hke _ _ hLq hgt) | refine g1 om ?_))) J J) J ?_
 refine aE J (bZ J J) J <| bB (fun h29 => ?_) (fun h29 => ?_)
 rotate_left
 ·refine aA (bM J J) J <| Nk [0,3,4,5,14,15,16,24,25,26,27,28,29,30] J <| bV J <| cA <| aF <| Ck [0,3,14,15,16,24,25,26,27,28,29] J <| aI (z := 2) J <| aA (cI (((i + 1 : Nat) : Int)) (aO J J om) om) J <| Um J J <| Wn <| aG <| ⟨⟨i + 1, us, _⟩, ⟨J, J, J, J, J, trivial⟩, bN fun _ _ h => h, ⟨om, hul, (by repeat (first | exact g0 | exact nrm_get.trans hg1 | refine g1 om ?_)), ?_, fun r o hr h => (by repeat (first | exact g0 | exact nrm_get.trans (hke r o hr h) | refine g1 om ?_)), om⟩, by show t.basic.length - (i + 1) < t.basic.length - i; omega⟩
  rw [hus, Tb.pntS_no (t := t.tb) (i := i) fun e => ?_]
  have e2 : (t.basic.getD i default) < (t.n : Int) := e.2
  omega
 refine aA (bM J J) J <| Nk [0,3,4,5,14,15,16,24,25,26,27,28,29,30] J <| bY J <| aI (z := 13) J <| Um J J <| Um J J <| Um J J <| aA (eK J) J <| aA (aU J J J J J) J <| aA (aM (l := .ref L.c 1 0 t.cells.length) J J (show getH _ _ = some { cells := tbC L (.sl kr (rws.map rwc)) t, sz := 6, elem := (138), st := 0 } from (by repeat (first | exact g0 | exact nrm_get.trans (hke _ _ hLq hgt) | refine g1 om ?_))) J (congrArg some (jJ (dA hil)))) J ?_
 refine Um J J <| aA (cH (j := i) J J J J om om J) J <| aA (aV (b := .ref (L.a i) 4 0 (t.cells.getD i []).length) (eC (f := rfc) (us := rwsT L t.cells) (j := i) J J (nrm_get.trans (hke _ _ hLc hgc)) (fun _ => rfl) J (by decide) (by rw [fT]; omega) J) (by rw [jX hil])) J <| aA (cH (j := 0) J J J J om om J) J <| aA (aV (b := lvX ((t.cells.getD i []).getD 0 default)) (eC (f := xc) (us := (t.cells.getD i [])) (j := 0) J J (nrm_get.trans (hke _ _ hLa hgr)) (fun _ => rfl) J (by decide) om J) J) J <| aA (cH (j := (t.basic.getD i default).toNat) J J J J om om J) J <| bH (fG (f := xc) (us := us) ((t.cells.getD i []).getD 0 default) J J J (nrm_get.trans hg1) (fun _ => rfl) J J om J) <| Wn <| aF <| Ck [0,3,14,15,16,24,25,26,27,28,29] J <| aI (z := 2) J <| aA (cI (((i + 1 : Nat) : Int)) (aO J J om) om) J <| Um J J <| Wn <| aG <| ⟨⟨i + 1, us.set (t.basic.getD i default).toNat ((t.cells.getD i []).getD 0 default), _⟩, ⟨J, J, J, J, J, trivial⟩, bN fun _ _ h => h, ⟨om, by rw [List.length_set]; exact hul, (by repeat (first | exact g0 | exact nrm_get.trans hg1 | refine g1 om ?_)), ?_, fun r o hr h => (by repeat (first | exact g0 | exact nrm_get.trans (hke r o hr h) | refine g1 om ?_)), om⟩, by show t.basic.length - (i + 1) < t.basic.length - i; omega⟩
 rw [r1_set, hus, Tb.pntS_yes (t := t.tb) (i := i) ⟨h22, by show (t.basic.getD i default) < (t.n : Int); omega⟩, cellX]; rfl
theorem mlt_G (n0 : Nat) (H : Hp) (L : Lay) (kr : Nat) (rws : List RW) (t : TX) (hM : TM ⟨(138), (3), (83), (88)⟩ H n0 L (.sl kr (rws.map rwc)) t) (hev : t.eqs = rws.map (·.2.2)) (hOk : t.tb.Ok) (lq : Nat) (ml : List X) (hlq : lq < n0) (hl : getH H lq = some (obX (88) ml)) (hll : ml.length = t.out.length + 1) (ho1 : 1 ≤ t.out.length) : WC Tryz.prog T E0 Tryz.f89.ntmps (codeOf Tryz.f89) (argsEnv 0 [.ptr L.q 0, .ref lq 4 0 ml.length]) (nrm H) n0 (fun x e' h' n' => (x = .normal ∨ x = .ret) ∧ ∃ ls', resE e' T h' Tryz.f89.results.toList = some ls' ∧ (∃ (q : Nat) (l : List X), resultLV ls' = .ref q 4 0 l.length ∧ r1 l = t.tb.mlt (r1 ml) ∧ l.length = t.eqs.length ∧ getH h' q = some (obX (88) l) ∧ n0 ≤ q ∧ q < n' ∧ n0 ≤ n' ∧ ∀ r o, r < n0 → getH H r = some o → getH h' r = some o)) := by
 change WC _ _ _ _ _ [(0, .ptr L.q 0), (1, .ref lq 4 0 ml.length)] _ _ _
 have hgt : getH H L.q = some { cells := tbC L (.sl kr (rws.map rwc)) t, sz := 6, elem := (138), st := 0 } := hM.tb
 have hbl : t.basic.length = t.cells.length := hOk.xb
 have hml := hOk.xm
 have hol : t.out.length ≤ 100000 := hOk.ol
 have hnl : t.n ≤ 100000 := hOk.nl
 have hLq : L.q < n0 := hM.lt 0 om
 have hLb : L.b < n0 := hM.lt 1 om
 have hLo : L.o < n0 := hM.lt 2 om
 have hLc : L.c < n0 := hM.lt 3 om
 have hone : t.out ≠ [] := dA (show 0 < t.out.length by omega)
 have hgo : getH H L.o = some { cells := (t.out.map ic).flatten, sz := 1, elem := (3), st := 0 } := hM.ou hone
 have hre : rws.length = t.eqs.length := by rw [hev, List.length_map]
 have hel : t.eqs.length ≤ 100000 := hOk.el
 have hke : ∀ r o, r < n0 → getH H r = some o → getH H r = some o := fun _ _ _ h => h
 refine Ck [0,1] J <| Rg 1 J <| Ua J J <| Nk [0,1] J <| Rg 7 J <| Um J J <| aA (eK J) J <| aA (aU J J J J J) J <| aA (aM (l := .sl kr (rws.map rwc)) J J (show getH _ _ = some { cells := tbC L (.sl kr (rws.map rwc)) t, sz := 6, elem := (138), st := 0 } from (by repeat (first | exact g0 | exact nrm_get.trans (hke _ _ hLq hgt) | refine g1 om ?_))) J J) J ?_
 refine aA (aV (b := .v (.int .i64 (t.eqs.length : Int))) (aW J J) (by rw [hre])) J <| bJ (oMk (a := t.eqs.length) (b := t.eqs.length) J J J J om om (by decide) om (by show 64 * t.eqs.length ≤ _; omega) om) J <| Ua J J <| Nk [0,1,5] J <| aB <| Rg 6 J <| Um J J <| aA (eK J) J <| aA (aU J J J J J) J <| aA (aM (l := .ref L.o 1 0 t.out.length) J J (show getH _ _ = some { cells := tbC L (.sl kr (rws.map rwc)) t, sz := 6, elem := (138), st := 0 } from (by repeat (first | exact g0 | exact nrm_get.trans (hke _ _ hLq hgt) | refine g1 om ?_))) J (congrArg some (gB hone))) J ?_
 refine aA (gY J J) J <| Um J J <| Nk [0,1,5,17,18,19] J <| aL <| bF (α := Nat × (List X) × Hp) (fun ⟨k, us, hh⟩ => [(0, .ptr L.q 0), (1, .ref lq 4 0 ml.length), (5, .ref (n0 + 1 + 5) 4 0 t.eqs.length), (17, .ref L.o 1 0 t.out.length), (18, .v (.int .i64 (t.out.length : Int))), (19, .v (.int .i64 (k : Int)))]) (fun ⟨k, us, hh⟩ => nrm hh) (fun ⟨k, us, hh⟩ n => k ≤ t.out.length ∧ us.length = t.eqs.length ∧ getH hh (n0 + 1 + 5) = some { cells := (us.map xc).flatten, sz := 4, elem := (88), st := 0 } ∧ r1 us = t.tb.mltS (r1 ml) k ∧ (∀ r o, r < n0 → getH H r = some o → getH hh r = some o) ∧ n0 + 12 ≤ n) (fun ⟨k, us, hh⟩ => t.out.length - k) (0, List.replicate t.eqs.length x0, _) ⟨J, J, J, J, J, J, trivial⟩ (bN fun _ _ h => h) ⟨Nat.zero_le _, List.length_replicate, g0.trans (by rw [List.map_replicate]; rfl), r1_rep _, fun r o hr h => (by repeat (first | exact g0 | exact nrm_get.trans h | refine g1 om ?_)), om⟩ ?_
 rintro ⟨k, us, hh⟩ n hF
 change WC _ _ _ _ _ [(0, .ptr L.q 0), (1, .ref lq 4 0 ml.length), (5, .ref (n0 + 1 + 5) 4 0 t.eqs.length), (17, .ref L.o 1 0 t.out.length), (18, .v (.int .i64 (t.out.length : Int))), (19, .v (.int .i64 (k : Int)))] (nrm hh) n _
 clear hke
 obtain ⟨hk, hul, hg1, hus, hke, hnn⟩ := hF
 refine Rg 1 J <| aA (bZ J J) J <| bB (fun h20 => ?_) (fun h20 => ?_)
 rotate_left
 ·refine Nk [0,1,5,17,18,19,20] J <| aX J <| bA <| aS <| aR J <| Ck [5] J <| Rg 2 J <| Um J J <| Ua J J <| Nk [4] J <| aN ?_
  obtain rfl : k = t.out.length := by omega
  exact ⟨.inr J, _, rfl, (n0 + 1 + 5), us, by rw [hul]; rfl, hus, hul, nrm_get.trans hg1, om, om, om, fun r o hr h => nrm_get.trans (hke r o hr h)⟩
 refine Nk [0,1,5,17,18,19,20] J <| aT J <| aH <| aL ?_
 have hok := hOk.or _ (bS (us := t.out) (i := k) om)
 change -1 ≤ (t.out.getD k default) ∧ (t.out.getD k default) ≤ 1000000 at hok
 refine Rg 5 J <| Um J J <| aA (cH (j := k) J J J J om om J) J <| aA (aV (b := .v (.int .i64 (t.out.getD k default))) (eC (f := ic) (us := t.out) (j := k) J J (nrm_get.trans (hke _ _ hLo hgo)) (fun _ => rfl) J (by decide) om J) J) J <| Ua J J <| Ua J J <| Nk [0,1,5,6,7,17,18,19] J <| bR (z := 20) J kR <| Dm J J <| Dm J J <| aC (eK J) J <| aC (aU J J J J J) J <| aC (aM (l := .v (.int .i64 (t.n : Int))) J J (show getH _ _ = some { cells := tbC L (.sl kr (rws.map rwc)) t, sz := 6, elem := (138), st := 0 } from (by repeat (first | exact g0 | exact nrm_get.trans (hke _ _ hLq hgt) | refine g1 om ?_))) J J) J ?_
 refine aC (hH J J) J <| jD (fun h29 => ?_) (fun h29 => ?_)
 rotate_left
 ·refine Dm J J <| bE J J <| bE J J <| bE J J <| bE J J <| bE J J <| bE J J <| bE J J <| bE J J <| bE J J <| bE J J <| bE J J <| bE J J <| aC (bK J J) J <| bG (aQ kR) J <| Ck [0,1,5,6,7,17,18,19,31,32,33,34,35,36,37,38,39,40,41,42,43] J <| bV J <| cA <| aF <| Ck [0,1,5,17,18,19,31,32,33,34,35,36,37,38,39,40,41,42] J <| aI (z := 2) J <| aA (cI (((k + 1 : Nat) : Int)) (aO J J om) om) J <| Um J J <| cJ ?_
  refine aG <| ⟨⟨k + 1, us, _⟩, ⟨J, J, J, J, J, J, trivial⟩, bN fun _ _ h => h, ⟨om, hul, (by repeat (first | exact g0 | exact nrm_get.trans hg1 | refine g1 om ?_)), ?_, fun r o hr h => (by repeat (first | exact g0 | exact nrm_get.trans (hke r o hr h) | refine g1 om ?_)), om⟩, by show t.out.length - (k + 1) < t.out.length - k; omega⟩
  rw [hus, Tb.mltS_no (t := t.tb) (k := k) fun e => ?_]
  exact h29 e.1
 refine Dm J J <| bC J (dK J) J <| bC J (dK J) J <| bC J (eK J) J <| bC J (aU J J J J J) J <| bC J (aM (l := .v (.int .i64 (t.n : Int))) J J (show getH _ _ = some { cells := tbC L (.sl kr (rws.map rwc)) t, sz := 6, elem := (138), st := 0 } from (by repeat (first | exact g0 | exact nrm_get.trans (hke _ _ hLq hgt) | refine g1 om ?_))) J J) J ?_
 refine bC J (dK J) J <| bC J (eK J) J <| bC J (aU J J J J J) J <| bC J (aM (l := .sl kr (rws.map rwc)) J J (show getH _ _ = some { cells := tbC L (.sl kr (rws.map rwc)) t, sz := 6, elem := (138), st := 0 } from (by repeat (first | exact g0 | exact nrm_get.trans (hke _ _ hLq hgt) | refine g1 om ?_))) J J) J ?_
 refine bC J (aV (b := .v (.int .i64 (t.eqs.length : Int))) (aW J J) (by rw [hre])) J <| bC J (cI (((t.n + t.eqs.length : Nat) : Int)) (aO J J om) om) J <| bC J (bZ J J) J <| jD (fun h42 => ?_) (fun h42 => ?_)
 rotate_left
 ·refine aC (bM J J) J <| bG (aQ kR) J <| Ck [0,1,5,6,7,17,18,19,31,32,33,34,35,36,37,38,39,40,41,42,43] J <| bV J <| cA <| aF <| Ck [0,1,5,17,18,19,31,32,33,34,35,36,37,38,39,40,41,42] J <| aI (z := 2) J <| aA (cI (((k + 1 : Nat) : Int)) (aO J J om) om) J <| Um J J <| Wn <| aG <| ⟨⟨k + 1, us, _⟩, ⟨J, J, J, J, J, J, trivial⟩, bN fun _ _ h => h, ⟨om, hul, (by repeat (first | exact g0 | exact nrm_get.trans hg1 | refine g1 om ?_)), ?_, fun r o hr h => (by repeat (first | exact g0 | exact nrm_get.trans (hke r o hr h) | refine g1 om ?_)), om⟩, by show t.out.length - (k + 1) < t.out.length - k; omega⟩
  rw [hus, Tb.mltS_no (t := t.tb) (k := k) fun e => ?_]
  have e2 : (t.out.getD k default) < (t.n : Int) + (t.eqs.length : Int) := e.2
  omega
 refine aC (bM J J) J <| bG (aQ kR) J <| Ck [0,1,5,6,7,17,18,19,31,32,33,34,35,36,37,38,39,40,41,42,43] J <| bY J <| dN (z := 14) J kR <| Dm J J <| Dm J J <| Dm J J <| aC (eK J) J <| aC (aU J J J J J) J <| aC (aM (l := .v (.int .i64 (t.n : Int))) J J (show getH _ _ = some { cells := tbC L (.sl kr (rws.map rwc)) t, sz := 6, elem := (138), st := 0 } from (by repeat (first | exact g0 | exact nrm_get.trans (hke _ _ hLq hgt) | refine g1 om ?_))) J J) J ?_
 refine aC (cI (((((t.out.getD k default) - t.n).toNat : Nat) : Int)) (cE J J om) om) J <| Dm J J <| Dm J J <| aC (cI (((k + 1 : Nat) : Int)) (aO J J om) om) J <| aC (cH (j := k + 1) J J J J om om J) J <| aC (aV (b := lvX (ml.getD (k + 1) default)) (eC (f := xc) (us := ml) (j := k + 1) J J (nrm_get.trans (hke _ _ hlq hl)) (fun _ => rfl) J (by decide) om J) J) J <| aC (cH (j := ((t.out.getD k default) - t.n).toNat) J J J J om om J) J <| cO (fG (f := xc) (us := us) (ml.getD (k + 1) default) J J J (nrm_get.trans hg1) (fun _ => rfl) J J om J) <| bG (aQ kR) J <| aF <| Ck [0,1,5,17,18,19,31,32,33,34,35,36,37,38,39,40,41,42] J <| aI (z := 2) J <| aA (cI (((k + 1 : Nat) : Int)) (aO J J om) om) J <| Um J J <| Wn <| aG <| ⟨⟨k + 1, us.set ((t.out.getD k default) - t.n).toNat (ml.getD (k + 1) default), _⟩, ⟨J, J, J, J, J, J, trivial⟩, bN fun _ _ h => h, ⟨om, by rw [List.length_set]; exact hul, (by repeat (first | exact g0 | exact nrm_get.trans hg1 | refine g1 om ?_)), ?_, fun r o hr h => (by repeat (first | exact g0 | exact nrm_get.trans (hke r o hr h) | refine g1 om ?_)), om⟩, by show t.out.length - (k + 1) < t.out.length - k; omega⟩
 rw [r1_set, hus, Tb.mltS_yes (t := t.tb) (k := k) ⟨h29, by show (t.out.getD k default) < (t.n : Int) + (t.eqs.length : Int); omega⟩, iQ]; rfl
end Go.Proofs.YtohfklpfeilcpaaGreat
namespace Go.Proofs.YtohfklpfeilcpaaGreat
open Go.Ab Go.RowKit
theorem eqsQ_G (n0 : Nat) (H : Hp) (L : Lay) (kr : Nat) (rws : List RW) (t : TX) (hM : TM ⟨(138), (3), (83), (88)⟩ H n0 L (.sl kr (rws.map rwc)) t) (hev : t.eqs = rws.map (·.2.2)) (hOk : t.tb.Ok) (hm1 : 1 ≤ t.cells.length) (hno : ∀ r, r ∈ rws → r.2.2 = false) : WC Tryz.prog T E0 Tryz.f83.ntmps (codeOf Tryz.f83) (argsEnv 0 [.ptr L.q 0]) (nrm H) n0 (fun x e' h' n' => (x = .normal ∨ x = .ret) ∧ ∃ ls', resE e' T h' Tryz.f83.results.toList = some ls' ∧ (resultLV ls' = .tup [.sl 0 [], .v (.bool true)] ∧ n0 ≤ n' ∧ ∀ r o, r < n0 → getH H r = some o → getH h' r = some o)) := by
 change WC _ _ _ _ _ [(0, .ptr L.q 0)] _ _ _
 have hgt : getH H L.q = some { cells := tbC L (.sl kr (rws.map rwc)) t, sz := 6, elem := (138), st := 0 } := hM.tb
 have hbl : t.basic.length = t.cells.length := hOk.xb
 have hml := hOk.xm
 have hLq : L.q < n0 := hM.lt 0 om
 have hbne : t.basic ≠ [] := dA (show 0 < t.basic.length by omega)
 have hLb : L.b < n0 := hM.lt 1 om
 have hqb : L.q ≠ L.b := hM.ne (i := 0) (j := 1) om om om
 have hgb : getH H L.b = some { cells := (t.basic.map ic).flatten, sz := 1, elem := (3), st := 0 } := hM.bs hbne
 have hre : rws.length ≤ 100000 := by have := hOk.el; rw [show t.tb.eqs = t.eqs from rfl, hev, List.length_map] at this; exact this
 have hq2 : ∀ j, (rws.getD j default).2.2 = false := fun j => by
  by_cases hj : j < rws.length
  ·exact hno _ (bS hj)
  ·rw [List.getD_eq_getElem?_getD, List.getElem?_eq_none om]; rfl
 refine Ck [0] J <| Rg 3 J <| bJ (eO J J) J <| Ua J J <| Ua J J <| Nk [1] J <| aB <| Rg 2 J <| bJ (fD J) J <| bH (cP (cs' := [.v (.int .i64 0)]) J J J g0 J J J J) <| Nk [1,4] J <| aL <| bF (α := Nat × Nat × Hp) (fun ⟨i, p, hh⟩ => [(1, .ptr (n0 + 0) 0), (4, .ptr p 0)]) (fun ⟨i, p, hh⟩ => nrm hh) (fun ⟨i, p, hh⟩ n => i ≤ t.basic.length ∧ n0 + 1 ≤ p ∧ p < n ∧ getH hh (n0 + 0) = some { cells := [.ptr L.q 0], sz := 1, elem := (132), st := 0 } ∧ getH hh p = some { cells := [.v (.int .i64 (i : Int))], sz := 1, elem := (3), st := 0 } ∧ (∀ r o, r < n0 → getH H r = some o → getH hh r = some o) ∧ n0 + 4 ≤ n) (fun ⟨i, p, hh⟩ => t.basic.length - i) (0, n0 + 3, _) ⟨J, J, trivial⟩ (bN fun _ _ h => h) ⟨Nat.zero_le _, om, om, g1 om (g1 om g0), g0, fun r o hr h => (by repeat (first | exact g0 | exact nrm_get.trans h | refine g1 om ?_)), om⟩ ?_
 rintro ⟨i, p, hh⟩ n hF
 change WC _ _ _ _ _ [(1, .ptr (n0 + 0) 0), (4, .ptr p 0)] (nrm hh) n _
 obtain ⟨hi, hp1, hp2, hgx, hgp, hke, hnn⟩ := hF
 refine aB <| bR (z := 7) J kR <| aC (aM (l := .v (.int .i64 (i : Int))) J J (nrm_get.trans hgp) J J) J <| aC (aM (l := .ptr L.q 0) J J (nrm_get.trans hgx) J J) J <| aC (eK J) J <| aC (aU J J J J J) J <| aC (aM (l := .ref L.b 1 0 t.basic.length) J J (nrm_get.trans (hke _ _ hLq hgt)) J (congrArg some (gB hbne))) J <| aC (gY J J) J <| aC (bZ J J) J <| jD (fun h16 => ?_) (fun h16 => ?_)
 rotate_left
 ·refine bG (aQ kR) J <| Ck [1,4,16] J <| aX J <| bA <| aS <| aR J <| Ck [] J <| Rg 2 J <| Ua J J <| Ua J J <| Nk [2,3] J <| aN ?_
  exact ⟨.inr J, _, rfl, rfl, om, fun r o hr h => (by repeat (first | exact g0 | exact nrm_get.trans (hke r o hr h) | refine g1 om ?_))⟩
 refine bG (aQ kR) J <| Ck [1,4,16] J <| aT J <| aH <| aL <| aB <| nU (z := 10) J kR <| WX.U (aM (l := .ptr L.q 0) J J (nrm_get.trans hgx) J J) J <| WX.U (aM (l := .ptr L.q 0) J J (nrm_get.trans hgx) J J) J <| WX.U (eK J) J <| WX.U (aU J J J J J) J <| WX.U (aM (l := .ref L.b 1 0 t.basic.length) J J (nrm_get.trans (hke _ _ hLq hgt)) J (congrArg some (gB hbne))) J <| WX.U (aM (l := .v (.int .i64 (i : Int))) J J (nrm_get.trans hgp) J J) J <| WX.U (cH (j := i) J J J J om om J) J <| WX.U (aV (b := .v (.int .i64 (t.basic.getD i default))) (eC (f := ic) (us := t.basic) (j := i) J J (nrm_get.trans (hke _ _ hLb hgb)) (fun _ => rfl) J (by decide) om J) J) J <| WX.G (ls := [.ptr L.q 0, .v (.int .i64 (t.basic.getD i default))]) (Φ := fun r h' n' => r = .v (.bool false) ∧ n ≤ n' ∧ h' = nrm hh) [n0 + 0] J J Tryz.func119 J J (dH J) J ((eqn_G _ L.q hh t.n kr rws _ _ _ _ (t.basic.getD i default) (hke _ _ hLq hM.tb) hOk.nl hre (hOk.br _ (bS (us := t.basic) (i := i) om))).mono (by rintro x e h m ⟨hx, ls, hr, h1, h2, h3⟩; exact ⟨hx, ls, hr, h1.trans (congrArg (fun z => LV.v (.bool z)) (by rw [hq2, Bool.and_false])), om, h3⟩)) ?_
 rintro r_ h' n1 ⟨rfl, hn1, rfl⟩
 refine ⟨fun k hk => ?_, ?_⟩
 ·rw [List.mem_singleton] at hk; subst hk; exact ⟨_, nrm_get.trans hgx, nrm_get.trans hgx⟩
 refine WX.U (dE J) J <| WX.nil (oR (fun k => ([n0 + 0, L.q, L.b, p]).getD k 0) 4 [⟨0, [], [0], false⟩, ⟨1, [], [0], false⟩, ⟨2, [], [], false⟩, ⟨3, [], [], false⟩, ⟨4, [], [1], false⟩, ⟨5, [], [3], false⟩, ⟨6, [], [], false⟩, ⟨7, [], [2], false⟩, ⟨8, [], [0], true⟩, ⟨9, [], [], false⟩] (by decide) (by intro x y hx hy h; rcases x with _ | _ | _ | _ | x <;> rcases y with _ | _ | _ | _ | y <;> simp at h <;> omega) kR) <| Ck [1,4,28] J <| aT J <| bA <| aR J <| Ck [1,4] J <| aB <| Rg 1 J <| aA (aM (l := .v (.int .i64 (i : Int))) J J (by repeat (first | exact g0 | exact nrm_get.trans hgp | refine g1 om ?_)) J J) J ?_
 refine Nk [1,125] J <| Rg 2 J <| bJ (fD J) J <| bH (cP (cs' := [.v (.int .i64 (i : Int))]) J J J g0 J J J J) <| Nk [1,4] J <| aI (z := 3) J <| aA (aM (l := .v (.int .i64 (i : Int))) J J g0 J J) J <| aA (cI (((i + 1 : Nat) : Int)) (aO J J om) om) J <| bH (cP (cs' := [.v (.int .i64 (i + 1 : Int))]) J J J g0 J J J J) <| Wn <| aG <| ⟨⟨i + 1, n1 + 1, _⟩, ⟨J, J, trivial⟩, bN fun _ _ h => h, ⟨om, om, om, (by repeat (first | exact g0 | exact nrm_get.trans hgx | refine g1 om ?_)), g0, fun r o hr h => (by repeat (first | exact g0 | exact nrm_get.trans (hke r o hr h) | refine g1 om ?_)), om⟩, by show t.basic.length - (i + 1) < t.basic.length - i; omega⟩
end Go.Proofs.YtohfklpfeilcpaaGreat
namespace Go.Proofs.YtohfklpfeilcpaaGreat
open Go.Ab Go.RowKit
theorem min_run (nn kr : Nat) (rws : List RW) (gl : RW) (h0 : 1 ≤ nn) (hn : nn ≤ 100000) (hm : rws.length ≤ 100000) (hm1 : 1 ≤ rws.length) (hw : ∀ r, r ∈ rws → r.1.2.length = nn) (hg : gl.1.2.length = nn) (hno : ∀ r, r ∈ rws → r.2.2 = false) (β : Nat) (h1 : 1 ≤ β) (hβ : β ≤ 400000000) (hB : ∀ k, k ≤ nn → ((opn nn (rws.map fun r => (r1 r.1.2, r.2.1.1, r.2.2)) (r1 gl.1.2) gl.2.1.1).frs k).Bds β) (hF : ∀ i, i < rws.length → ((opn nn (rws.map fun r => (r1 r.1.2, r.2.1.1, r.2.2)) (r1 gl.1.2) gl.2.1.1).frs nn).sd (((opn nn (rws.map fun r => (r1 r.1.2, r.2.1.1, r.2.2)) (r1 gl.1.2) gl.2.1.1).frs nn).basic.getD i default) = true → 0 ≤ (((opn nn (rws.map fun r => (r1 r.1.2, r.2.1.1, r.2.2)) (r1 gl.1.2) gl.2.1.1).frs nn).cells.getD i default).getD 0 default) (hZ : ∀ k, k < nn → ((opn nn (rws.map fun r => (r1 r.1.2, r.2.1.1, r.2.2)) (r1 gl.1.2) gl.2.1.1).frs nn).out.getD k default < nn → ((opn nn (rws.map fun r => (r1 r.1.2, r.2.1.1, r.2.2)) (r1 gl.1.2) gl.2.1.1).frs nn).goal.getD (k + 1) default = 0) (hD : ∀ c, c < nn → ((opn nn (rws.map fun r => (r1 r.1.2, r.2.1.1, r.2.2)) (r1 gl.1.2) gl.2.1.1).frs nn).sd (((opn nn (rws.map fun r => (r1 r.1.2, r.2.1.1, r.2.2)) (r1 gl.1.2) gl.2.1.1).frs nn).out.getD c default) = true → 0 ≤ ((opn nn (rws.map fun r => (r1 r.1.2, r.2.1.1, r.2.2)) (r1 gl.1.2) gl.2.1.1).frs nn).goal.getD (c + 1) default) : ∃ r, Run Tryz.prog T E0 (.call 44 [.v (.int .i64 (nn : Int)), .sl kr (rws.map rwc), .agg (rwc gl)] r) ∧ (∃ (v : X) (l1 l2 : List X), r = .agg (.v (.int .i64 2) :: (xc v ++ [.sl 1 (l1.map xc), .sl 0 [], .sl 1 (l2.map xc)])) ∧ v.1 = ((opn nn (rws.map fun r => (r1 r.1.2, r.2.1.1, r.2.2)) (r1 gl.1.2) gl.2.1.1).frs nn).goal.getD 0 default ∧ r1 l1 = ((opn nn (rws.map fun r => (r1 r.1.2, r.2.1.1, r.2.2)) (r1 gl.1.2) gl.2.1.1).frs nn).pnt ∧ r1 l2 = ((opn nn (rws.map fun r => (r1 r.1.2, r.2.1.1, r.2.2)) (r1 gl.1.2) gl.2.1.1).frs nn).mlt ((opn nn (rws.map fun r => (r1 r.1.2, r.2.1.1, r.2.2)) (r1 gl.1.2) gl.2.1.1).frs nn).goal) := by
 refine iT Tryz.func44 J J (dH J) <| Ck [0,1,2] J <| Rg 2 J <| bJ (eO J J) J <| bJ (fD J) J <| Nk [0,1,5,6] J <| gL (z := 5) J <| dS (dK J) J <| dS (dK J) J <| dS (aM (l := .agg (rwc gl)) J J (g1 om g0) J J) J <| kK _ (bN fun _ _ h => h) <| qG (ls := [.v (.int .i64 (nn : Int)), .sl kr (rws.map rwc), .agg (rwc gl)]) (Φ := fun r h' n' => (∃ L : Lay, r = .ptr L.q 0 ∧ TM ⟨(138), (3), (83), (88)⟩ h' n' L (.sl kr (rws.map rwc)) (opX nn rws gl.1.2 gl.2.1) ∧ (∀ j, j < 5 + rws.length → 6 ≤ L.id j) ∧ 6 ≤ n' ∧ getH h' 1 = some { cells := [.v (.int .i64 0), .v (.int .i64 0), .sl 0 [], .v (.int .i64 0), .sl 0 [], .sl 0 [], .sl 0 [], .sl 0 []], sz := 8, elem := (95), st := 0 })) J Tryz.func82 J J (dH J) J ((open_G _ nn kr _ rws gl h0 hn hm hw hg).mono (by rintro x e h m ⟨hx, ls, hr, hP⟩; exact ⟨hx, ls, hr, (by obtain ⟨L, a1, a2, a3, a4, a5⟩ := hP; exact ⟨L, a1, a2, fun j hj => Nat.le_trans om (a3 j hj), Nat.le_trans om a4, a5 _ _ om g0⟩)⟩)) ?_
 rintro r_ ha na ⟨L, rfl, hMa, hida, hna, hoa⟩
 have hOk0 : (opX nn rws gl.1.2 gl.2.1).tb.Ok := opX_ok hn hm hw hg
 have hev0 : (opX nn rws gl.1.2 gl.2.1).eqs = rws.map (·.2.2) := rfl
 have hml0 : (opX nn rws gl.1.2 gl.2.1).cells.length = rws.length := List.length_map ..
 have hol0 : (opX nn rws gl.1.2 gl.2.1).out.length = nn := dO _ _
 refine oP <| Ua J J <| Nk [6,7] J <| aB <| gL (z := 7) J <| dS (dK J) J <| kK (nrm ha) (bN fun _ _ h => h) <| qG (ls := [.ptr L.q 0]) (Φ := fun r h' n' => (r = .tup [.sl 0 [], .v (.bool true)] ∧ na ≤ n' ∧ TM ⟨(138), (3), (83), (88)⟩ h' n' L (.sl kr (rws.map rwc)) (opX nn rws gl.1.2 gl.2.1) ∧ getH h' 1 = some { cells := [.v (.int .i64 0), .v (.int .i64 0), .sl 0 [], .v (.int .i64 0), .sl 0 [], .sl 0 [], .sl 0 [], .sl 0 []], sz := 8, elem := (95), st := 0 })) J Tryz.func83 J J (dH J) J ((eqsQ_G _ ha L kr rws (opX nn rws gl.1.2 gl.2.1) (hMa.mono om (fun _ _ _ h => h)) hev0 hOk0 (by rw [hml0]; exact hm1) hno).mono (by rintro x e h m ⟨hx, ls, hr, hP⟩; exact ⟨hx, ls, hr, (by obtain ⟨a1, a2, a3⟩ := hP; exact ⟨a1, om, hMa.mono om (fun j o hj h => a3 _ o (by have := hMa.lt j hj; omega) h), a3 _ _ om hoa⟩)⟩)) ?_
 rintro r_ hb nb ⟨rfl, hnb, hMb, hob⟩
 refine oP <| Um J J <| aA (fB J J) J <| aA (fB J J) J <| Ua J J <| Ua J J <| Nk [6,7,8,9] J <| aB <| Rg 2 J <| Um J J <| aA (dE J) J <| Nk [6,7,8,25] J <| aX J <| aH <| gL (z := 2) J <| dS (dK J) J <| kK (nrm hb) (bN fun _ _ h => h) <| qG (ls := [.ptr L.q 0]) (Φ := fun r h' n' => (∃ (L' : Lay) (t : TX), TM ⟨(138), (3), (83), (88)⟩ h' n' L' (.sl kr (rws.map rwc)) t ∧ t.tb = ((opn nn (rws.map fun r => (r1 r.1.2, r.2.1.1, r.2.2)) (r1 gl.1.2) gl.2.1.1).frs nn) ∧ t.n = nn ∧ t.eqs = rws.map (·.2.2) ∧ t.cells.length = rws.length ∧ t.out.length = nn ∧ t.tb.Ok ∧ L'.q = L.q ∧ nb ≤ n' ∧ (∀ j, j < 5 + rws.length → 6 ≤ L'.id j) ∧ getH h' 1 = some { cells := [.v (.int .i64 0), .v (.int .i64 0), .sl 0 [], .v (.int .i64 0), .sl 0 [], .sl 0 [], .sl 0 [], .sl 0 []], sz := 8, elem := (95), st := 0 })) J Tryz.func84 J J (dH J) J ((fre_G _ hb L kr rws (opX nn rws gl.1.2 gl.2.1) β (hMb.mono om (fun _ _ _ h => h)) hev0 hOk0 (fun k hk => by rw [opX_tb]; exact hB k (by rw [hol0] at hk; exact hk)) (by rw [hml0]; exact hm1) (by rw [hol0]; exact h0) h1 hβ).mono (by rintro x e h m ⟨hx, ls, hr, hP⟩; exact ⟨hx, ls, hr, (by obtain ⟨L', t, a1, a2, a3, a4, a5, a6, a7, a8⟩ := hP; refine ⟨L', t, a1, by rw [a2, opX_tb, hol0], a3, a4, a5.trans hml0, a6.trans hol0, a7, a8.qe, by have := a8.le; omega, fun j hj => ?_, a8.keep _ _ om (fun k hk e => by have := hida k om; omega) hob⟩; rcases a8.ids j om with e | e <;> first | (rw [e]; exact hida j hj) | omega)⟩)) ?_
 rintro r_ hc nc ⟨L', t, hMc, htb, hnc', hev, hmc, hoc, hOk, hqe, hnc, hidc, hxc⟩
 have hm1' : 1 ≤ t.cells.length := by omega
 refine oP <| Nk [6,7] J <| aB <| gL (z := 7) J <| dS (dK J) J <| kK (nrm hc) (bN fun _ _ h => h) ?_
 have hfea := feaQ_G (nc + 7) hc L' kr rws t (hMc.mono om (fun _ _ _ h => h)) hev hOk hm1' (fun i hi hs => lT (by rw [← cellX, htb]; exact hF i om (by rw [← htb]; exact hs)))
 rw [hqe] at hfea
 refine qG (ls := [.ptr L.q 0]) (Φ := fun r h' n' => (r = .tup [.sl 0 [], .v (.bool true)] ∧ nc ≤ n' ∧ TM ⟨(138), (3), (83), (88)⟩ h' n' L' (.sl kr (rws.map rwc)) t ∧ getH h' 1 = some { cells := [.v (.int .i64 0), .v (.int .i64 0), .sl 0 [], .v (.int .i64 0), .sl 0 [], .sl 0 [], .sl 0 [], .sl 0 []], sz := 8, elem := (95), st := 0 })) J Tryz.func85 J J (dH J) J (hfea.mono (by rintro x e h m ⟨hx, ls, hr, hP⟩; exact ⟨hx, ls, hr, (by obtain ⟨a1, a2, a3⟩ := hP; exact ⟨a1, om, hMc.mono om (fun j o hj h => a3 _ o (by have := hMc.lt j hj; omega) h), a3 _ _ om hxc⟩)⟩)) ?_
 rintro r_ hd nd ⟨rfl, hnd, hMd, hxd⟩
 refine oP <| Um J J <| aA (fB J J) J <| aA (fB J J) J <| Ua J J <| Ua J J <| Nk [6,7,10,11] J <| aB <| Rg 2 J <| Um J J <| aA (dE J) J <| Nk [6,7,10,36] J <| aX J <| aH <| aB ?_
 have hone : t.out ≠ [] := dA (show 0 < t.out.length by omega)
 have hgd : getH hd L.q = some { cells := tbC L' (.sl kr (rws.map rwc)) t, sz := 6, elem := (138), st := 0 } := by rw [← hqe]; exact hMd.tb
 have hgod : getH hd L'.o = some { cells := (t.out.map ic).flatten, sz := 1, elem := (3), st := 0 } := hMd.ou hone
 have hgw := hOk.xg
 refine Rg 6 J <| Um J J <| aA (eK J) J <| aA (aU J J J J J) J <| aA (aM (l := .ref L'.o 1 0 t.out.length) J J hgd J (congrArg some (gB hone))) J <| aA (gY J J) J <| Um J J <| Nk [6,7,42,43,44] J <| aL <| bF (α := Nat) (fun k => [(6, .ptr (0 + 1) 0), (7, .ptr L.q 0), (42, .ref L'.o 1 0 t.out.length), (43, .v (.int .i64 (t.out.length : Int))), (44, .v (.int .i64 (k : Int)))]) (fun k => nrm hd) (fun k n => k ≤ t.out.length ∧ nd ≤ n) (fun k => t.out.length - k) (0) ⟨J, J, J, J, J, trivial⟩ (bN fun _ _ h => h) ⟨Nat.zero_le _, om⟩ ?_
 rintro k n hF
 change WC _ _ _ _ _ [(6, .ptr (0 + 1) 0), (7, .ptr L.q 0), (42, .ref L'.o 1 0 t.out.length), (43, .v (.int .i64 (t.out.length : Int))), (44, .v (.int .i64 (k : Int)))] (nrm hd) n _
 obtain ⟨hk, hnn⟩ := hF
 refine Rg 1 J <| aA (bZ J J) J <| bB (fun h45 => ?_) (fun h45 => ?_)
 ·refine Nk [6,7,42,43,44,45] J <| aT J <| aH <| aL <| Rg 5 J <| Um J J <| aA (cH (j := k) J J J J om om J) J <| aA (aV (b := .v (.int .i64 (t.out.getD k default))) (eC (f := ic) (us := t.out) (j := k) J J (nrm_get.trans hgod) (fun _ => rfl) J (by decide) om J) J) J <| Ua J J <| Ua J J <| Nk [6,7,12,13,42,43,44] J <| Rg 18 J <| Um J J <| Um J J <| aA (eK J) J <| aA (aU J J J J J) J <| aA (aM (l := .v (.int .i64 (t.n : Int))) J J (nrm_get.trans hgd) J J) J <| aA (bZ J J) J <| bB (fun h54 => ?_) (fun h54 => ?_)
  rotate_left
  ·refine Um J J <| K1 J J <| K1 J J <| K1 J J <| K1 J J <| K1 J J <| K1 J J <| K1 J J <| K1 J J <| K1 J J <| K1 J J <| aA (bK J J) J <| Nk [6,7,12,42,43,44,56,57,58,59,60,61,62,63,64,65,66] J <| bV J <| cA <| aF <| Ck [6,7,42,43,44,56,57,58,59,60,61,62,63,64,65] J <| aI (z := 2) J <| aA (cI (((k + 1 : Nat) : Int)) (aO J J om) om) J <| Um J J <| Wn <| aG <| ⟨k + 1, ⟨J, J, J, J, J, trivial⟩, bN fun _ _ h => nrm_get.trans h, ⟨om, om⟩, by show t.out.length - (k + 1) < t.out.length - k; omega⟩
  refine Um J J <| aE J (dK J) J <| aE J (eK J) J <| aE J (aU J J J J J) J <| aE J (aM (l := .ref L'.g 4 0 t.goal.length) J J (nrm_get.trans hgd) J J) J <| aE J (dK J) J <| aE J (cI (((k + 1 : Nat) : Int)) (aO J J om) om) J <| aE J (cH (j := k + 1) J J J J om om J) J <| aE J (aV (b := lvX (t.goal.getD (k + 1) default)) (eC (f := xc) (us := t.goal) (j := k + 1) J J (nrm_get.trans hMd.gl) (fun _ => rfl) J (by decide) om J) J) J <| aE J (aK J (fH (t.goal.getD (k + 1) default)) dD) J <| aE J (gJ J J) J <| bB (fun h65 => ?_) (fun h65 => ?_)
  ·exact absurd (gR.2 (by rw [← goalX, htb]; exact hZ k om (by rw [← htb]; show (t.out.getD k default) < (nn : Int); omega))) h65
  refine aA (bM J J) J <| Nk [6,7,12,42,43,44,56,57,58,59,60,61,62,63,64,65,66] J <| bV J <| cA <| aF <| Ck [6,7,42,43,44,56,57,58,59,60,61,62,63,64,65] J <| aI (z := 2) J <| aA (cI (((k + 1 : Nat) : Int)) (aO J J om) om) J <| Um J J <| Wn <| aG <| ⟨k + 1, ⟨J, J, J, J, J, trivial⟩, bN fun _ _ h => nrm_get.trans h, ⟨om, om⟩, by show t.out.length - (k + 1) < t.out.length - k; omega⟩
 refine Nk [6,7,42,43,44,45] J <| aX J <| bA <| aS <| aR J <| Ck [6,7] J <| aB <| gL (z := 3) J <| dS (dK J) J ?_
 have hdes := desQ_G (n + 1 + 3) hd L' kr rws t (hMd.mono om (fun _ _ _ h => h)) hev hOk om (fun c hc hs => lT (by rw [← goalX, htb]; exact hD c om (by rw [← htb]; exact hs)))
 rw [hqe] at hdes
 refine qG (ls := [.ptr L.q 0]) (Φ := fun r h' n' => (r = .v (.int .i64 (-1)) ∧ n ≤ n' ∧ h' = nrm hd)) J Tryz.func88 J J (dH J) J (hdes.mono (by rintro x e h m ⟨hx, ls, hr, hP⟩; exact ⟨hx, ls, hr, (by obtain ⟨a1, a2, a3⟩ := hP; exact ⟨a1, om, a3⟩)⟩)) ?_
 rintro r_ h' ne ⟨rfl, hne, rfl⟩
 refine oP <| Ua J J <| Nk [6,7,14] J <| aB <| Rg 2 J <| Um J J <| aA (hH J J) J <| bB (fun h88 => ?_) (fun h88 => ?_)
 ·exact absurd h88 (by decide)
 refine Nk [6,7,14,88] J <| aX J <| aH ?_
 have hqg : L.q ≠ L'.g := by rw [← hqe]; exact hMd.ne (i := 0) (j := 4) om om om
 have hq6 : 6 ≤ L.q := hida 0 om
 have hg6 : 6 ≤ L'.g := hidc 4 om
 refine nU (z := 16) J kR <| WX.U (dK J) J <| WX.U (eK J) J <| WX.U (aU J J J J J) J <| WX.U (aM (l := .ref L'.g 4 0 t.goal.length) J J (nrm_get.trans hgd) J J) J <| WX.U (cH (j := 0) J J J J om om J) J <| WX.U (aV (b := lvX (t.goal.getD 0 default)) (eC (f := xc) (us := t.goal) (j := 0) J J (nrm_get.trans hMd.gl) (fun _ => rfl) J (by decide) om J) J) J <| WX.U (dK J) J ?_
 have hpnt := pnt_G (ne + 2 + 16) hd L' kr rws t (hMd.mono om (fun _ _ _ h => h)) hev hOk hm1'
 rw [hqe] at hpnt
 refine WX.G (ls := [.ptr L.q 0]) (Φ := fun r h' n' => ∃ (q : Nat) (l : List X), r = .ref q 4 0 l.length ∧ r1 l = t.tb.pnt ∧ getH h' q = some (obX (88) l) ∧ 6 ≤ q ∧ q < n' ∧ ne ≤ n' ∧ TM ⟨(138), (3), (83), (88)⟩ h' n' L' (.sl kr (rws.map rwc)) t ∧ getH h' 1 = some { cells := [.v (.int .i64 0), .v (.int .i64 0), .sl 0 [], .v (.int .i64 0), .sl 0 [], .sl 0 [], .sl 0 [], .sl 0 []], sz := 8, elem := (95), st := 0 }) [L.q, L'.g] J J Tryz.func86 J J (dH J) J (hpnt.mono (by rintro x e h m ⟨hx, ls, hr, hP⟩; exact ⟨hx, ls, hr, (by obtain ⟨q, l, a1, a2, a3, a4, a5, a6, a7, a8⟩ := hP; exact ⟨q, l, a1, a2, a4, om, a6, om, hMd.mono om (fun j o hj h => a8 _ o (by have := hMd.lt j hj; omega) h), a8 _ _ om hxd⟩)⟩)) ?_
 rintro r_ hp np ⟨q1, l1, rfl, hl1, hq1, hq1a, hq1b, hnp, hMp, hxp⟩
 refine ⟨fun k hk => ?_, ?_⟩
 ·simp only [List.mem_cons, List.not_mem_nil, or_false] at hk
  rcases hk with rfl | rfl
  ·exact ⟨_, nrm_get.trans hgd, by rw [← hqe]; exact hMp.tb⟩
  ·exact ⟨_, nrm_get.trans hMd.gl, hMp.gl⟩
 have hgp : getH hp L.q = some { cells := tbC L' (.sl kr (rws.map rwc)) t, sz := 6, elem := (138), st := 0 } := by rw [← hqe]; exact hMp.tb
 refine WX.weakM (nrm hp) (bN fun _ _ h => h) <| WX.U (dK J) J <| WX.U (dK J) J <| WX.U (eK J) J <| WX.U (aU J J J J J) J <| WX.U (aM (l := .ref L'.g 4 0 t.goal.length) J J (nrm_get.trans hgp) J J) J ?_
 have hmlt := mlt_G np hp L' kr rws t hMp hev hOk L'.g t.goal (hMp.lt 4 om) hMp.gl hOk.xg om
 rw [hqe] at hmlt
 refine WX.G (ls := [.ptr L.q 0, .ref L'.g 4 0 t.goal.length]) (Φ := fun r h' n' => ∃ (q : Nat) (l : List X), r = .ref q 4 0 l.length ∧ r1 l = t.tb.mlt (r1 t.goal) ∧ getH h' q = some (obX (88) l) ∧ np ≤ q ∧ q < n' ∧ np ≤ n' ∧ TM ⟨(138), (3), (83), (88)⟩ h' n' L' (.sl kr (rws.map rwc)) t ∧ getH h' 1 = some { cells := [.v (.int .i64 0), .v (.int .i64 0), .sl 0 [], .v (.int .i64 0), .sl 0 [], .sl 0 [], .sl 0 [], .sl 0 []], sz := 8, elem := (95), st := 0 } ∧ getH h' q1 = some (obX (88) l1)) [L.q, L'.g] J J Tryz.func89 J J (dH J) J (hmlt.mono (by rintro x e h m ⟨hx, ls, hr, hP⟩; exact ⟨hx, ls, hr, (by obtain ⟨q, l, a1, a2, a3, a4, a5, a6, a7, a8⟩ := hP; exact ⟨q, l, a1, a2, a4, a5, a6, a7, hMp.mono om (fun j o hj h => a8 _ o (by have := hMp.lt j hj; omega) h), a8 _ _ om hxp, a8 _ _ om hq1⟩)⟩)) ?_
 rintro r_ hz nz ⟨q2, l2, rfl, hl2, hq2, hq2a, hq2b, hnz, hMz, hxz, hq1z⟩
 have hgz : getH hz L.q = some { cells := tbC L' (.sl kr (rws.map rwc)) t, sz := 6, elem := (138), st := 0 } := by rw [← hqe]; exact hMz.tb
 refine ⟨fun k hk => ?_, ?_⟩
 ·simp only [List.mem_cons, List.not_mem_nil, or_false] at hk
  rcases hk with rfl | rfl
  ·exact ⟨_, nrm_get.trans hgp, hgz⟩
  ·exact ⟨_, nrm_get.trans hMp.gl, hMz.gl⟩
 refine WX.U (gS (cs := [_, _, _, _, _, _, _, _]) J J J J J) J <| WX.S0 (cP (cs' := [_, _, _, _, _, _, _, _]) J J J hxz J J J J) <| WX.nil (oR (fun k => ([L.q, L'.g, 0 + 1]).getD k 0) 3 [⟨0, [], [], false⟩, ⟨1, [], [], false⟩, ⟨2, [], [], false⟩, ⟨3, [], [0], false⟩, ⟨4, [], [], false⟩, ⟨5, [], [1], false⟩, ⟨6, [], [], false⟩, ⟨7, [], [0, 1], true⟩, ⟨8, [], [], false⟩, ⟨9, [], [], false⟩, ⟨10, [], [], false⟩, ⟨11, [], [], false⟩, ⟨12, [], [0], false⟩, ⟨13, [], [0, 1], true⟩, ⟨14, [], [], false⟩, ⟨15, [2], [2], false⟩] (by decide) (by intro x y hx hy h; rcases x with _ | _ | _ | x <;> rcases y with _ | _ | _ | y <;> simp at h <;> omega) kR) <| Ck [6] J <| aN <| ⟨_, ⟨t.goal.getD 0 default, l1, l2, rfl, by rw [← goalX, htb], by rw [← htb]; exact hl1, by rw [← htb]; exact hl2⟩, postAgg (S := [q1, q2]) (.inr J) J ?_ ?_⟩
 ·exact .data (.v _) (.datas (ls := xc (t.goal.getD 0 default)) (nG _) (.own (ob := obX (88) l1) (l1.map xc) (by rw [List.length_map]) (g1 om hq1z) (by show ¬ (0 : Nat) = 2; decide) J (by decide) (by simp) J (fE (f := xc) fun _ => rfl) (aY nG) (.data (.sl _ _ (by simp)) (.own (ob := obX (88) l2) (l2.map xc) (by rw [List.length_map]) (g1 om hq2) (by show ¬ (0 : Nat) = 2; decide) J (by decide) (by simp) J (fE (f := xc) fun _ => rfl) (aY nG) .nil))))
 ·intro q hq
  simp only [List.mem_cons, List.not_mem_nil, or_false] at hq
  rcases hq with rfl | rfl
  ·exact ⟨_, g1 om hq1z, by show ¬ (0 : Nat) = 2; decide⟩
  ·exact ⟨_, g1 om hq2, by show ¬ (0 : Nat) = 2; decide⟩
end Go.Proofs.YtohfklpfeilcpaaGreat
namespace Go.Proofs.YtohfklpfeilcpaaGreat
open Go.Ab Go.RowKit
theorem gmapDX {α β : Type} [Inhabited α] [Inhabited β] (f : α → β) {l : List α} {j : Nat} (hj : j < l.length) : (l.map f).getD j default = f (l.getD j default) := by
 rw [List.getD_eq_getElem?_getD, List.getElem?_map, List.getD_eq_getElem?_getD, List.getElem?_eq_getElem hj]; rfl
theorem times_run (r : RW) (k : X) (hl : r.1.2.length ≤ 100000) (β : Nat) (h1 : 1 ≤ β) (hβ : β ≤ 1000000000) (hb : ∀ x, x ∈ r.1.2 → Bd β x.1) (ha : Bd β r.2.1.1) (hk : Bd β k.1) : Run Tryz.prog T E0 (.call 42 [.agg (rwc r), lvX k] (.agg (rwc ((1, r.1.2.map fun x => xmul x k), xmul r.2.1 k, r.2.2)))) := by
 refine bL Tryz.func42 J J (dH J) <| Ck [0,1] J <| Rg 3 J <| bJ (eO J J) J <| bJ (eO J J) J <| bJ (fD J) J <| Nk [2,3,4] J <| bR (z := 13) J kR <| aC (aU J J J J J) J <| aC (aM (l := .sl r.1.1 (r.1.2.map xc)) J J gG J J) J ?_
 refine aC (aV (b := .v (.int .i64 (r.1.2.length : Int))) (aW J J) J) J <| WD.S (oMk (a := r.1.2.length) (b := r.1.2.length) J J J J om om (by decide) om (by show 64 * r.1.2.length ≤ _; omega) om) J <| aC (aU J J J J J) J <| aC (aM (l := lvX r.2.1) J J gG J J) J ?_
 refine aC (aM (l := lvX k) J J gG J J) J ?_
 refine aC (aK J (mG r.2.1 k (ha.mono om) (hk.mono om)) (aJ (by intro c hc; simp only [List.mem_cons, List.not_mem_nil, or_false] at hc; rcases hc with rfl | rfl; exact gZ; exact gZ))) J <| aC (aU J J J J J) J <| aC (aM (l := .v (.bool r.2.2)) J J gG J J) J ?_
 refine aC (aV (b := .agg (.ref (3 + 3) 4 0 r.1.2.length :: (xc (xmul r.2.1 k) ++ [.v (.bool r.2.2)]))) (gS (cs := [_, _, _, _, _, _]) J J J J J) J) J <| WD.S (fD J) J <| cO (cP (cs' := (.ref (3 + 3) 4 0 r.1.2.length :: (xc (xmul r.2.1 k) ++ [.v (.bool r.2.2)]))) J J J g0 J J J J) <| bG (aQ kR) J <| Ck [2,3,4,5] J <| aB <| Rg 4 J <| aA (aU J J J J J) J <| aA (aM (l := .sl r.1.1 (r.1.2.map xc)) J J gG J J) J ?_
 refine aA (aV (b := .v (.int .i64 (r.1.2.length : Int))) (aW J J) J) J <| Um J J <| Nk [3,4,5,20,21,22] J <| aL <| bF (α := Nat × (List X) × Hp) (fun ⟨i, us, hh⟩ => [(3, .ptr (0 + 1) 0), (4, .ptr (0 + 2) 0), (5, .ptr (3 + 11) 0), (20, .sl r.1.1 (r.1.2.map xc)), (21, .v (.int .i64 (r.1.2.length : Int))), (22, .v (.int .i64 (i : Int)))]) (fun ⟨i, us, hh⟩ => nrm hh) (fun ⟨i, us, hh⟩ n => i ≤ r.1.2.length ∧ us.length = r.1.2.length ∧ (∀ j, j < i → us.getD j default = xmul (r.1.2.getD j default) k) ∧ getH hh (0 + 1) = some { cells := xc (k), sz := 4, elem := (88), st := 0 } ∧ getH hh (0 + 2) = some { cells := rwc ((0, []), x0, false), sz := 6, elem := (90), st := 0 } ∧ getH hh (3 + 11) = some { cells := (.ref (3 + 3) 4 0 r.1.2.length :: (xc (xmul r.2.1 k) ++ [.v (.bool r.2.2)])), sz := 6, elem := (90), st := 0 } ∧ getH hh (3 + 3) = some { cells := (us.map xc).flatten, sz := 4, elem := (88), st := 0 } ∧ 16 ≤ n) (fun ⟨i, us, hh⟩ => r.1.2.length - i) (0, List.replicate r.1.2.length x0, _) ⟨J, J, J, J, J, J, trivial⟩ (bN fun _ _ h => h) ⟨Nat.zero_le _, List.length_replicate, fun j hj => absurd hj om, (by repeat (first | exact g0 | exact nrm_get.trans J | refine g1 om ?_)), (by repeat (first | exact g0 | exact nrm_get.trans J | refine g1 om ?_)), g0, (by repeat (first | exact g0.trans (by rw [List.map_replicate]; rfl) | refine g1 om ?_)), om⟩ ?_
 rintro ⟨i, us, hh⟩ n hF
 change WC _ _ _ _ _ [(3, .ptr (0 + 1) 0), (4, .ptr (0 + 2) 0), (5, .ptr (3 + 11) 0), (20, .sl r.1.1 (r.1.2.map xc)), (21, .v (.int .i64 (r.1.2.length : Int))), (22, .v (.int .i64 (i : Int)))] (nrm hh) n _
 obtain ⟨hi, hul, hus, hg1, hg2, hg3, hg4, hnn⟩ := hF
 refine Rg 1 J <| aA (bZ J J) J <| bB (fun h23 => ?_) (fun h23 => ?_)
 rotate_left
 ·refine Nk [3,4,5,20,21,22,23] J <| aX J <| bA <| aS <| aR J <| Ck [4,5] J <| Rg 2 J <| aA (aM (l := .agg (.ref (3 + 3) 4 0 r.1.2.length :: (xc (xmul r.2.1 k) ++ [.v (.bool r.2.2)]))) J J (nrm_get.trans hg3) J J) J <| bH (cP (cs' := (.ref (3 + 3) 4 0 r.1.2.length :: (xc (xmul r.2.1 k) ++ [.v (.bool r.2.2)]))) J J J (nrm_get.trans hg2) J J J J) <| Nk [4] J <| aN ?_
  have hu : us = r.1.2.map fun x => xmul x k := by
   refine mA (by rw [hul, List.length_map]) fun j hj => ?_
   rw [hus j om, gmapDX _ om]
  subst hu
  refine postAgg (S := [3 + 3]) (.inr J) J ?_ ?_
  ·exact .own (ob := obX (88) _) _ (by rw [List.length_map, List.length_map]) (g1 om (nrm_get.trans hg4)) (by show ¬ (0 : Nat) = 2; decide) J (by decide) (by simp) J (fE (f := xc) fun _ => rfl) (aY nG) (.datas (ls := xc _) (nG _) (.data (.v _) .nil))
  ·intro q hq
   rw [List.mem_singleton] at hq
   subst hq
   exact ⟨_, g1 om (nrm_get.trans hg4), by show ¬ (0 : Nat) = 2; decide⟩
 refine Nk [3,4,5,20,21,22,23] J <| aT J <| aH <| aL <| Rg 6 J <| Um J J <| aA (cG (j := i) J J J J om om J) J <| aA (dY (l := lvX (r.1.2.getD i default)) J J J) J <| bJ (fD J) J <| Ua J J <| bH (cP (cs' := xc (r.1.2.getD i default)) J J J g0 J J J J) <| Nk [3,4,5,6,7,20,21,22] J ?_
 have hbi := hb _ (bS (us := r.1.2) (i := i) om)
 refine dN (z := 8) J kR <| aC (aU J J J J J) J <| aC (aM (l := .ref (3 + 3) 4 0 r.1.2.length) J J (by repeat (first | exact g0 | exact nrm_get.trans hg3 | refine g1 om ?_)) J J) J ?_
 refine Dm J J <| aC (aM (l := lvX (r.1.2.getD i default)) J J (by repeat (first | exact g0 | exact nrm_get.trans g0 | refine g1 om ?_)) J J) J ?_
 refine aC (aM (l := lvX k) J J (by repeat (first | exact g0 | exact nrm_get.trans hg1 | refine g1 om ?_)) J J) J ?_
 refine aC (aK J (mG (r.1.2.getD i default) k (hbi.mono om) (hk.mono om)) (aJ (by intro c hc; simp only [List.mem_cons, List.not_mem_nil, or_false] at hc; rcases hc with rfl | rfl; exact gZ; exact gZ))) J <| aC (cH (j := i) J J J J om om J) J <| cO (fG (f := xc) (us := us) (xmul (r.1.2.getD i default) k) J J J (by repeat (first | exact g0 | exact nrm_get.trans hg4 | refine g1 om ?_)) (fun _ => rfl) J J om J) ?_
 refine bG (aQ kR) J <| aF <| Ck [3,4,5,20,21,22] J <| aI (z := 2) J <| aA (cI (((i + 1 : Nat) : Int)) (aO J J om) om) J <| Um J J <| Wn <| aG <| ⟨⟨i + 1, us.set i (xmul (r.1.2.getD i default) k), _⟩, ⟨J, J, J, J, J, J, trivial⟩, bN fun _ _ h => h, ⟨om, by rw [List.length_set]; exact hul, fun j hj => ?_, (by repeat (first | exact g0 | exact nrm_get.trans hg1 | refine g1 om ?_)), (by repeat (first | exact g0 | exact nrm_get.trans hg2 | refine g1 om ?_)), (by repeat (first | exact g0 | exact nrm_get.trans hg3 | refine g1 om ?_)), (by repeat (first | exact g0 | exact nrm_get.trans hg4 | refine g1 om ?_)), om⟩, by show r.1.2.length - (i + 1) < r.1.2.length - i; omega⟩
 rw [fV om]
 by_cases e : i = j
 ·subst e; rw [if_pos rfl]
 ·rw [if_neg e]; exact hus j om
end Go.Proofs.YtohfklpfeilcpaaGreat
namespace Go.Proofs.YtohfklpfeilcpaaGreat
open Go.Ab Go.RowKit
theorem gset_getD' {α : Type} [Inhabited α] {l : List α} {i j : Nat} {a : α} (hi : i < l.length) : (l.set i a).getD j default = if i = j then a else l.getD j default := by
 by_cases e : i = j
 ·subst e; rw [if_pos rfl, List.getD_eq_getElem?_getD, List.getElem?_set_self hi]; rfl
 ·rw [if_neg e, List.getD_eq_getElem?_getD, List.getElem?_set_ne e, ← List.getD_eq_getElem?_getD]
theorem flat_app1 {α : Type} {f : α → List LV} {us : List α} {u : α} : ((us ++ [u]).map f).flatten = (us.map f).flatten ++ f u := by simp
theorem nratsO_run (k : Nat) (ns : List NM) (ln : ns.length < 1099511627776) (hI : IV ns) (h0 : ∀ a, a ∈ ns → a.2 ≠ 0) (hne : 0 < ns.length) : ∃ sz len ob, Run Tryz.prog T E0 (.callO 41 [.sl k (ns.map mc)] (.ref 0 sz 0 len) ob) ∧ sz = 4 ∧ len = ns.length ∧ ob = obX (88) (ns.map nx) := by
 refine mkcallO Tryz.func41 J J (dH J) <| Rg 1 J <| Ua J J <| Wn <| Rg 1 J <| Ua J J <| Wn <| aB <| Rg 3 J <| Um J J <| aA (aW J J) J <| Um J J <| Wn <| aL <| bF (α := Nat × Nat × (List X)) (fun ⟨i, q, ds⟩ => [(3, outV q 4 (ds.map xc)), (6, .sl k (ns.map mc)), (7, .v (.int .i64 (ns.length : Int))), (8, .v (.int .i64 (i : Int)))]) (fun ⟨i, q, ds⟩ => outH q 4 88 (ds.map xc) []) (fun ⟨i, q, ds⟩ n => i ≤ ns.length ∧ ds = (ns.take i).map nx ∧ ds.length = i ∧ q < n) (fun ⟨i, q, ds⟩ => ns.length - i) (0, 0, []) ⟨J, J, J, J, trivial⟩ trivial ⟨Nat.zero_le _, by simp, rfl, om⟩ ?_
 rintro ⟨i, q, ds⟩ n hF
 change WC _ _ _ _ _ (_ :: _) (outH _ _ _ _ _) n _
 obtain ⟨hi, hds, hdl, hq⟩ := hF
 refine Rg 1 J <| aA (bZ J J) J <| bB (fun h9 => ?_) (fun h9 => ?_)
 rotate_left
 ·refine Wn <| aX J <| bA <| aS <| aR J <| Rg 2 J <| Um J J <| Ua J J <| Wn <| aN ?_
  rw [List.take_of_length_le om] at hds
  subst hds
  have hdn : (ns.map nx).map xc ≠ [] := fun e => by
   have := congrArg List.length e
   rw [List.length_map, List.length_map] at this
   change ns.length = 0 at this
   omega
  rw [outH_ne hdn]
  refine ⟨4, ns.length, obX (88) (ns.map nx), ⟨rfl, rfl, rfl⟩, .inr J, q, ?_, g0, rfl, rfl, ?_⟩
  ·show some [outV q 4 ((ns.map nx).map xc)] = _
   rw [iU hdn, List.length_map, List.length_map]
  ·intro c hc; obtain ⟨row, hr, hc⟩ := List.mem_flatten.1 hc; exact aY nG row hr c hc
 refine Wn <| aT J <| aH <| aL <| Rg 4 J <| aA (cG J J J J J om J) J <| aA (dY (l := .agg [_, _]) J J J) J <| bJ (fD J) J <| bH (cP (cs' := [_, _]) J J J g0 J J J J) <| cJ ?_
 have hm := bS (us := ns) (i := i) om
 refine aI (z := 6) J <| Um J J <| aA (aM (l := .agg [_, _]) J J g0 J J) J <| aA (aK J (jV (ns.getD i default) (hI _ hm).1 (hI _ hm).2 (h0 _ hm)) dD) J <| aA (dJ (cs := [_, _, _, _]) (rows := [[_, _, _, _]]) J J (by decide) J J J) J <| lX (outH q 4 88 ((ds).map xc) []) (Hp.le_skip (fY om J) (Hp.le_skip (fY om J) (Hp.le_refl _))) <| dP (te := ti88) (f := xc) (q := q) (us := ds) (u := (nx (ns.getD i default))) J J J J J (fun _ => rfl) (by decide) (by show (2 * (ds.length + 1) + 256) * 64 ≤ _; omega) om J J J <| Ua J J <| Wn <| aF <| aI (z := 2) J <| aA (cI (((i + 1 : Nat) : Int)) (aO J J om) om) J <| Um J J <| Wn <| aG <| ⟨⟨i + 1, _, ds ++ [nx (ns.getD i default)]⟩, ⟨J, J, J, J, trivial⟩, cL, ⟨om, by rw [iV om, hds], by simp; omega, om⟩, by show ns.length - (i + 1) < ns.length - i; omega⟩
theorem lrows_run (p : PB) (nn : Nat) (hnn : p.2.2.2.length = nn) (h1n : 1 ≤ nn) (hn40 : nn ≤ 1000) (hm40 : p.1.2.length ≤ 1000) (hI : IP p) (hrl : p.2.1.2.length = p.1.2.length) (hw : ∀ r, r ∈ p.1.2 → r.2.length = nn) (hv : ∀ r, r ∈ p.1.2 → ∀ a, a ∈ r.2 → a.2 ≠ 0) (hvr : ∀ a, a ∈ p.2.1.2 → a.2 ≠ 0) : Run Tryz.prog T E0 (.call 45 [lvPb p] (.sl 1 ((rowsX p).map rwc))) := by
 refine bL Tryz.func45 J J (dH J) <| Ck [0] J <| Rg 2 J <| bJ (eO J J) J <| Ua J J <| Nk [1] J <| Rg 4 J <| aA (aU J J J J J) J <| aA (aM (l := .sl p.2.2.1 (p.2.2.2.map mc)) J J gG J J) J ?_
 refine aA (aW J J) J <| Ua J J <| Nk [1,3] J <| Rg 1 J <| Ua J J <| Nk [1,3,4] J <| aB <| Rg 4 J <| aA (aU J J J J J) J <| aA (aM (l := .sl p.1.1 (p.1.2.map fM)) J J gG J J) J ?_
 refine aA (aW J J) J <| Um J J <| Nk [1,3,4,15,16,17] J <| aL <| bF (α := Nat × Nat × Hp) (fun ⟨i, qo, hh⟩ => [(1, .ptr (0 + 0) 0), (3, .v (.int .i64 (p.2.2.2.length : Int))), (4, outV qo 6 ((tab i (rowA p)).map rwc)), (15, .sl p.1.1 (p.1.2.map fM)), (16, .v (.int .i64 (p.1.2.length : Int))), (17, .v (.int .i64 (i : Int)))]) (fun ⟨i, qo, hh⟩ => nrm hh) (fun ⟨i, qo, hh⟩ n => i ≤ p.1.2.length ∧ 0 < qo ∧ qo < n ∧ getH hh 0 = some { cells := pbc p, sz := 3, elem := (25), st := 0 } ∧ ((tab i (rowA p)).map rwc ≠ [] → getH hh qo = some { cells := ((tab i (rowA p)).map rwc).flatten, sz := 6, elem := (90), st := 0 })) (fun ⟨i, qo, hh⟩ => p.1.2.length - i) (0, 2, _) ⟨J, J, J, J, J, J, trivial⟩ (bN fun _ _ h => h) ⟨Nat.zero_le _, om, om, gG, fun h => absurd J h⟩ ?_
 rintro ⟨i, qo, hh⟩ n hF
 change WC _ _ _ _ _ [(1, .ptr (0 + 0) 0), (3, .v (.int .i64 (p.2.2.2.length : Int))), (4, outV qo 6 ((tab i (rowA p)).map rwc)), (15, .sl p.1.1 (p.1.2.map fM)), (16, .v (.int .i64 (p.1.2.length : Int))), (17, .v (.int .i64 (i : Int)))] (nrm hh) n _
 obtain ⟨hi, hq0, hqn, hgp, hgo⟩ := hF
 refine Rg 1 J <| aA (bZ J J) J <| bB (fun h18 => ?_) (fun h18 => ?_)
 rotate_left
 ·refine Nk [1,3,4,15,16,17,18] J <| aX J <| bA <| aS <| aR J <| Ck [3,4] J <| aB <| Rg 2 J <| Um J J <| Um J J <| Nk [3,4,53,54] J <| aL ?_
  obtain rfl : i = p.1.2.length := by omega
  refine bF (α := Nat × Nat × Hp) (fun ⟨k, qo, hh⟩ => [(3, .v (.int .i64 (p.2.2.2.length : Int))), (4, outV qo 6 ((tab p.1.2.length (rowA p) ++ tab k (rowB p.2.2.2.length)).map rwc)), (53, .v (.int .i64 (p.2.2.2.length : Int))), (54, .v (.int .i64 (k : Int)))]) (fun ⟨k, qo, hh⟩ => nrm hh) (fun ⟨k, qo, hh⟩ n => k ≤ p.2.2.2.length ∧ 0 < qo ∧ qo < n ∧ getH hh 0 = some { cells := pbc p, sz := 3, elem := (25), st := 0 } ∧ ((tab p.1.2.length (rowA p) ++ tab k (rowB p.2.2.2.length)).map rwc ≠ [] → getH hh qo = some { cells := ((tab p.1.2.length (rowA p) ++ tab k (rowB p.2.2.2.length)).map rwc).flatten, sz := 6, elem := (90), st := 0 })) (fun ⟨k, qo, hh⟩ => p.2.2.2.length - k) (0, qo, _) ⟨rfl, congrArg some (by rw [show tab 0 (rowB p.2.2.2.length) = [] from J, List.append_nil]), rfl, rfl, trivial⟩ (bN fun _ _ h => h) ⟨Nat.zero_le _, hq0, om, nrm_get.trans hgp, fun h => by rw [show tab 0 (rowB p.2.2.2.length) = [] from J, List.append_nil] at h ⊢; exact nrm_get.trans (hgo h)⟩ ?_
  rintro ⟨k, qo, hh⟩ n hF
  change WC _ _ _ _ _ [(3, .v (.int .i64 (p.2.2.2.length : Int))), (4, outV qo 6 ((tab p.1.2.length (rowA p) ++ tab k (rowB p.2.2.2.length)).map rwc)), (53, .v (.int .i64 (p.2.2.2.length : Int))), (54, .v (.int .i64 (k : Int)))] (nrm hh) n _
  obtain ⟨hk, hq0, hqn, hgp, hgo⟩ := hF
  refine Rg 1 J <| aA (bZ J J) J <| bB (fun h55 => ?_) (fun h55 => ?_)
  rotate_left
  ·refine Nk [3,4,53,54,55] J <| aX J <| bA <| aS <| aR J <| Ck [4] J <| Rg 2 J <| Um J J <| Ua J J <| Nk [2] J <| aN ?_
   obtain rfl : k = p.2.2.2.length := by omega
   have hne : (rowsX p).map rwc ≠ [] := fun e => by
    have := congrArg List.length e
    unfold rowsX at this
    rw [List.length_map, List.length_append, dO, dO] at this
    change _ + _ = 0 at this
    omega
   have hgo' := hgo hne
   refine qY (n := 0) (sz := 6) ((rowsX p).map rwc) (.inr J) ?_ J (nrm_get.trans hgo') (by show ¬ (0 : Nat) = 2; decide) J (by decide) J (fE (f := rwc) fun _ => rfl) (aY drwc)
   show some [outV qo 6 ((rowsX p).map rwc)] = _
   rw [iU hne]
  refine Nk [3,4,53,54,55] J <| aT J <| aH <| aL <| Rg 2 J <| Um J J <| Ua J J <| Nk [3,4,9,53,54] J <| Rg 5 J <| Um J J <| bJ (oMk (a := p.2.2.2.length) (b := p.2.2.2.length) J J J J om om (by decide) om (by show 64 * p.2.2.2.length ≤ _; omega) om) J <| aA (aV (b := .agg (.ref (n + 1 + 2 + 1) 4 0 p.2.2.2.length :: (xc x0 ++ [.v (.bool false)]))) (gS (cs := [_, _, _, _, _, _]) J J J J J) J) J <| bJ (fD J) J <| bH (cP (cs' := .ref (n + 1 + 2 + 1) 4 0 p.2.2.2.length :: (xc x0 ++ [.v (.bool false)])) J J J g0 J J J J) <| Nk [3,4,9,10,53,54] J <| bR (z := 6) J kR <| aC (aU J J J J J) J <| aC (aM (l := .ref (n + 1 + 2 + 1) 4 0 p.2.2.2.length) J J g0 J J) J <| Dm J J <| aC (aV (b := lvX (xint 1)) (aK J (pL 1 (by decide)) (aJ (by intro c hc; rw [List.mem_singleton] at hc; subst hc; exact .v _))) J) J <| aC (cH (j := k) J J J J om om J) J ?_
  refine cO (fG (f := xc) (us := List.replicate p.2.2.2.length x0) (xint 1) J J J (g1 om (g1 om (g0.trans (by rw [List.map_replicate]; rfl)))) (fun _ => rfl) J J (by rw [List.length_replicate]; omega) J) <| bG (aQ kR) J <| Ck [3,4,10,53,54] J <| WC.reg1F (z := 5) J <| Um J J <| aA (aM (l := .agg (.ref (n + 1 + 2 + 1) 4 0 p.2.2.2.length :: (xc x0 ++ [.v (.bool false)]))) J J (g1 om g0) J J) J <| aA (aV (b := .sl 2 [.ref (n + 1 + 2 + 1) 4 0 p.2.2.2.length :: (xc x0 ++ [.v (.bool false)])]) (dJ (cs := [_, _, _, _, _, _]) (rows := [[_, _, _, _, _, _]]) J J (by decide) J J J) J) J <| WO.apL (te := ti90) (q := qo) (us := (tab p.1.2.length (rowA p) ++ tab k (rowB p.2.2.2.length)).map rwc) (row := (.ref (n + 1 + 2 + 1) 4 0 p.2.2.2.length :: (xc x0 ++ [.v (.bool false)]))) J J J J J (fE (f := rwc) fun _ => rfl) J (by decide) (by rw [List.length_map, List.length_append, dO, dO]; show (2 * (_ + k + 1) + 256) * 96 ≤ _; omega) (by rw [List.length_map, List.length_append, dO, dO]; omega) (fun h => (by repeat (first | exact g0 | exact nrm_get.trans (hgo h) | refine g1 om ?_))) J ?_
  intro hX hXo hXk
  refine Ua J J <| cJ ?_
  have hu : (tab p.1.2.length (rowA p) ++ tab k (rowB p.2.2.2.length)) ++ [rowB p.2.2.2.length k] = tab p.1.2.length (rowA p) ++ tab (k + 1) (rowB p.2.2.2.length) := by rw [List.append_assoc, ← jZ]
  refine Fz.app (r := n + 1 + 2 + 5 + 6 + 3) (A := ((tab p.1.2.length (rowA p) ++ tab k (rowB p.2.2.2.length)).map rwc).flatten) (B := xc x0 ++ [.v (.bool false)]) (q := n + 1 + 2 + 1) (ys := ((List.replicate p.2.2.2.length x0).set k (xint 1)).map xc) (el2 := (88)) (L := [(0, { cells := pbc p, sz := 3, elem := (25), st := 0 })]) [(3, _), (4, _), (53, _), (54, _)] ⟨J, J, J, J, trivial⟩ om (hXk _ _ om (fun _ => by omega) g0) (by rw [List.length_map, List.length_set, List.length_replicate]; exact hXo) (fun t o ht => ?_) (by decide) (fE (f := xc) fun _ => rfl) (aY nG) ?_
  ·by_cases e : 0 = t
   ·subst e; rw [g0] at ht; cases ht; exact ⟨om, hXk _ _ om (fun _ => by omega) (by repeat (first | exact g0 | exact nrm_get.trans hgp | refine g1 om ?_))⟩
   ·rw [show getH [(0, _)] t = none from g1 e rfl] at ht; cases ht
  refine aF <| Ck [3,4,53,54] J <| aI (z := 2) J <| aA (cI (((k + 1 : Nat) : Int)) (aO J J om) om) J <| Um J J <| Wn <| aG <| ⟨⟨k + 1, n + 1 + 2 + 5 + 6 + 3, _⟩, ⟨rfl, congrArg some (by rw [← hu, mF, List.length_append, List.length_map]; rfl), rfl, rfl, trivial⟩, bN fun _ _ h => h, ⟨om, om, om, g1 om g0, fun _ => ?_⟩, by show p.2.2.2.length - (k + 1) < p.2.2.2.length - k; omega⟩
  rw [← hu, flat_app1]
  exact g0
 refine Nk [1,3,4,15,16,17,18] J <| aT J <| aH <| aL ?_
 have hil : i < p.1.2.length := by omega
 have hm := bS (us := p.1.2) (i := i) hil
 have hwi := hw _ hm
 have hmr := bS (us := p.2.1.2) (i := i) om
 obtain ⟨szO, lenO, obO, hrO, rfl, rfl, rfl⟩ := nratsO_run (p.1.2.getD i default).1 (p.1.2.getD i default).2 om (hI.m _ hm) (hv _ hm) om
 refine Rg 5 J <| Um J J <| aA (cG (j := i) J J J J om om J) J <| aA (dY (l := .sl (p.1.2.getD i default).1 ((p.1.2.getD i default).2.map mc)) J J J) J <| Ua J J <| Ua J J <| Nk [1,3,4,5,6,15,16,17] J <| bR (z := 11) J kR <| Dm J J <| WD.S (oCallO J hrO (aJ (by intro c hc; simp only [List.mem_cons, List.not_mem_nil, or_false] at hc; rcases hc with rfl; exact (.sl _ _ (aY eS))))) J <| aC (aU J J J J J) J <| aC (aM (l := .sl p.2.1.1 (p.2.1.2.map mc)) J J (by repeat (first | exact g0 | exact nrm_get.trans hgp | refine g1 om ?_)) J J) J ?_
 refine Dm J J <| aC (cG (j := i) J J J J om om J) J <| aC (dY (l := lvM (p.2.1.2.getD i default)) J J J) J <| aC (aV (b := lvX (nx (p.2.1.2.getD i default))) (aK J (jV (p.2.1.2.getD i default) (hI.r _ hmr).1 (hI.r _ hmr).2 (hvr _ hmr)) (aJ (by intro c hc; simp only [List.mem_cons, List.not_mem_nil, or_false] at hc; rcases hc with rfl; exact gZ))) J) J <| aC (aV (b := .agg (.ref (n + 1 + 5 + 1) 4 0 (p.1.2.getD i default).2.length :: (xc (nx (p.2.1.2.getD i default)) ++ [.v (.bool false)]))) (gS (cs := [_, _, _, _, _, _]) J J J J J) J) J <| WD.S (fD J) J <| cO (cP (cs' := .ref (n + 1 + 5 + 1) 4 0 (p.1.2.getD i default).2.length :: (xc (nx (p.2.1.2.getD i default)) ++ [.v (.bool false)])) J J J g0 J J J J) <| bG (dX (rn n) (by simp only [List.reverse_cons, List.reverse_nil, List.nil_append, List.cons_append, List.map_cons, List.map_nil, ren, keys, Nat.add_assoc, iR, kG (show 0 < n by omega)]; kernel_rfl)) J <| Ck [1,3,4,7,15,16,17] J <| aB <| Rg 4 J <| aA (aU J J J J J) J <| aA (aM (l := .ref (n + 1 + 5 + 1) 4 0 (p.1.2.getD i default).2.length) J J g0 J J) J <| aA (aV (b := .v (.int .i64 (p.2.2.2.length : Int))) (gY J J) (by rw [hnn, ← hwi])) J <| Um J J <| Nk [1,3,4,7,15,16,17,33,34] J <| aL ?_
 obtain ⟨na, hna⟩ : ∃ z, z = n + 1 + 5 := ⟨_, rfl⟩
 refine bF (α := Nat × (List X) × Hp) (fun ⟨k, cur, h1⟩ => [(1, .ptr (0 + 0) 0), (3, .v (.int .i64 (p.2.2.2.length : Int))), (4, outV qo 6 ((tab i (rowA p)).map rwc)), (7, .ptr (na + 9) 0), (15, .sl p.1.1 (p.1.2.map fM)), (16, .v (.int .i64 (p.1.2.length : Int))), (17, .v (.int .i64 (i : Int))), (33, .v (.int .i64 (p.2.2.2.length : Int))), (34, .v (.int .i64 (k : Int)))]) (fun ⟨k, cur, h1⟩ => nrm h1) (fun ⟨k, cur, h1⟩ n => k ≤ p.2.2.2.length ∧ cur.length = p.2.2.2.length ∧ (∀ j, cur.getD j default = if j < k then xneg (((p.1.2.getD i default).2.map nx).getD j default) else ((p.1.2.getD i default).2.map nx).getD j default) ∧ getH h1 (na + 1) = some { cells := (cur.map xc).flatten, sz := 4, elem := (88), st := 0 } ∧ getH h1 (na + 9) = some { cells := (.ref (na + 1) 4 0 p.2.2.2.length :: (xc (nx (p.2.1.2.getD i default)) ++ [.v (.bool false)])), sz := 6, elem := (90), st := 0 } ∧ (∀ r o, r < na → getH hh r = some o → getH h1 r = some o) ∧ na + 12 ≤ n) (fun ⟨k, cur, h1⟩ => p.2.2.2.length - k) (0, (p.1.2.getD i default).2.map nx, _) ⟨rfl, rfl, rfl, by rw [hna]; rfl, rfl, rfl, rfl, rfl, rfl, trivial⟩ (bN fun _ _ h => h) ⟨Nat.zero_le _, by rw [List.length_map, hwi, hnn], fun j => by rw [if_neg om], by rw [hna]; exact (by repeat (first | exact g0 | exact nrm_get.trans J | refine g1 om ?_)), by rw [hna, hnn, ← hwi]; exact g0, fun r o hr h => (by repeat (first | exact g0 | exact nrm_get.trans h | refine g1 om ?_)), om⟩ ?_
 rintro ⟨k, cur, h1⟩ n hF
 change WC _ _ _ _ _ [(1, .ptr (0 + 0) 0), (3, .v (.int .i64 (p.2.2.2.length : Int))), (4, outV qo 6 ((tab i (rowA p)).map rwc)), (7, .ptr (na + 9) 0), (15, .sl p.1.1 (p.1.2.map fM)), (16, .v (.int .i64 (p.1.2.length : Int))), (17, .v (.int .i64 (i : Int))), (33, .v (.int .i64 (p.2.2.2.length : Int))), (34, .v (.int .i64 (k : Int)))] (nrm h1) n _
 obtain ⟨hk, hcl, hcd, hgc, hg7, hk1, hn12⟩ := hF
 refine Rg 1 J <| aA (bZ J J) J <| bB (fun h35 => ?_) (fun h35 => ?_)
 rotate_left
 ·refine Nk [1,3,4,7,15,16,17,33,34,35] J <| aX J <| bA <| aS <| aR J <| Ck [1,3,4,7,15,16,17] J ?_
  obtain ⟨n1, hn1⟩ : ∃ z, z = n := ⟨_, rfl⟩
  have hcu : cur = ((p.1.2.getD i default).2.map nx).map xneg := by
   refine mA (by rw [hcl, List.length_map, List.length_map, hwi, hnn]) fun j hj => ?_
   rw [hcd j, if_pos om, gmapDX xneg (by rw [List.length_map]; omega)]
  refine WC.reg1F (z := 5) J <| Um J J <| aA (aM (l := .agg (.ref (na + 1) 4 0 p.2.2.2.length :: (xc (nx (p.2.1.2.getD i default)) ++ [.v (.bool false)]))) J J (nrm_get.trans hg7) J J) J <| aA (aV (b := .sl 2 [(.ref (na + 1) 4 0 p.2.2.2.length :: (xc (nx (p.2.1.2.getD i default)) ++ [.v (.bool false)]))]) (dJ (cs := [_, _, _, _, _, _]) (rows := [[_, _, _, _, _, _]]) J J (by decide) J J J) J) J <| WO.apL (te := ti90) (q := qo) (us := (tab i (rowA p)).map rwc) (row := (.ref (na + 1) 4 0 p.2.2.2.length :: (xc (nx (p.2.1.2.getD i default)) ++ [.v (.bool false)]))) J J J J J (fE (f := rwc) fun _ => rfl) J (by decide) (by rw [List.length_map, dO]; show (2 * (i + 1) + 256) * 96 ≤ _; omega) (by rw [List.length_map, dO]; omega) (fun h => nrm_get.trans (hk1 _ _ om (hgo h))) J ?_
  intro hX hXo hXk
  refine Ua J J <| cJ ?_
  have hu : (tab i (rowA p)) ++ [rowA p i] = tab (i + 1) (rowA p) := (jZ _).symm
  refine Fz.app (r := n + 1 + 3) (A := ((tab i (rowA p)).map rwc).flatten) (B := xc (nx (p.2.1.2.getD i default)) ++ [.v (.bool false)]) (q := na + 1) (ys := cur.map xc) (el2 := (88)) (L := [(0, { cells := pbc p, sz := 3, elem := (25), st := 0 })]) [(1, _), (3, _), (4, _), (15, _), (16, _), (17, _)] ⟨J, J, J, J, J, J, trivial⟩ om (hXk _ _ om (fun _ => by omega) (nrm_get.trans hgc)) (by rw [List.length_map, hcl]; exact hXo) (fun t o ht => ?_) (by decide) (fE (f := xc) fun _ => rfl) (aY nG) ?_
  ·by_cases e : 0 = t
   ·subst e; rw [g0] at ht; cases ht; exact ⟨om, hXk _ _ om (fun _ => by omega) (nrm_get.trans (hk1 _ _ om hgp))⟩
   ·rw [show getH [(0, _)] t = none from g1 e rfl] at ht; cases ht
  refine aF <| Ck [1,3,4,15,16,17] J <| aI (z := 2) J <| aA (cI (((i + 1 : Nat) : Int)) (aO J J om) om) J <| Um J J <| Wn <| aG <| ⟨⟨i + 1, n + 1 + 3, _⟩, ⟨rfl, rfl, congrArg some (by rw [← hu, mF, List.length_append, dO, List.length_map, dO]; rfl), rfl, rfl, rfl, trivial⟩, bN fun _ _ h => h, ⟨om, om, om, g1 om g0, fun _ => ?_⟩, by show p.1.2.length - (i + 1) < p.1.2.length - i; omega⟩
  rw [← hu, List.map_append, List.flatten_append]
  exact g0.trans (by rw [hcu]; rfl)
 refine Nk [1,3,4,7,15,16,17,33,34,35] J <| aT J <| aH <| aL <| Rg 2 J <| Um J J <| Ua J J <| Nk [1,3,4,7,8,15,16,17,33,34] J <| dN (z := 11) J kR <| aC (aU J J J J J) J <| aC (aM (l := .ref (na + 1) 4 0 p.2.2.2.length) J J (nrm_get.trans hg7) J J) J <| Dm J J <| aC (aU J J J J J) J <| aC (aM (l := .ref (na + 1) 4 0 p.2.2.2.length) J J (nrm_get.trans hg7) J J) J <| Dm J J <| aC (cH (j := k) J J J J om om J) J <| aC (aV (b := lvX (cur.getD k default)) (eC (f := xc) (us := cur) (j := k) J J (nrm_get.trans hgc) (fun _ => rfl) J (by decide) om J) J) J <| aC (aK J (oM (cur.getD k default)) (aJ (by intro c hc; simp only [List.mem_cons, List.not_mem_nil, or_false] at hc; rcases hc with rfl; exact gZ))) J <| aC (cH (j := k) J J J J om om J) J <| cO (fG (f := xc) (us := cur) (xneg (cur.getD k default)) J J J (nrm_get.trans hgc) (fun _ => rfl) J J om J) <| bG (aQ kR) J <| aF ?_
 refine Ck [1,3,4,7,15,16,17,33,34] J <| aI (z := 2) J <| aA (cI (((k + 1 : Nat) : Int)) (aO J J om) om) J <| Um J J <| Wn <| aG <| ⟨⟨k + 1, cur.set k (xneg (cur.getD k default)), _⟩, ⟨J, J, J, J, J, J, J, J, J, trivial⟩, bN fun _ _ h => h, ⟨om, by rw [List.length_set]; exact hcl, fun j => ?_, g0, (by repeat (first | exact g0 | exact nrm_get.trans hg7 | refine g1 om ?_)), fun r o hr h => (by repeat (first | exact g0 | exact nrm_get.trans (hk1 r o hr h) | refine g1 om ?_)), om⟩, by show p.2.2.2.length - (k + 1) < p.2.2.2.length - k; omega⟩
 rw [gset_getD' om]
 by_cases e : k = j
 ·subst e; rw [if_pos rfl, if_pos om, hcd, if_neg om]
 ·rw [if_neg e, hcd j]; by_cases e2 : j < k
  ·rw [if_pos e2, if_pos om]
  ·rw [if_neg e2, if_neg om]
end Go.Proofs.YtohfklpfeilcpaaGreat
namespace Go.Proofs.YtohfklpfeilcpaaGreat
open Go.Ab Go.RowKit
theorem nums_G (n0 q : Nat) (H : Hp) (e : Int) (k : Nat) (l : List X) (hq : getH H q = some { cells := [.v (.int .i64 (e))], sz := 1, elem := (100), st := 0 }) (hqn : q < n0) (ll : l.length ≤ 1000000) : WC Tryz.prog T E0 Tryz.f47.ntmps (codeOf Tryz.f47) (argsEnv 0 [.ptr q 0, .sl k (l.map xc)]) (nrm H) n0 (fun x e' h' n' => (x = .normal ∨ x = .ret) ∧ ∃ ls', resE e' T h' Tryz.f47.results.toList = some ls' ∧ (resultLV ls' = outsV l ∧ n0 ≤ n' ∧ getH h' q = some { cells := [.v (.int .i64 (tel e l))], sz := 1, elem := (100), st := 0 } ∧ ∀ r o, r < n0 → r ≠ q → getH H r = some o → getH h' r = some o)) := by
 change WC _ _ _ _ _ [(0, .ptr q 0), (1, .sl k (l.map xc))] _ _ _
 have hgq : getH (nrm H) q = some { cells := [.v (.int .i64 (e))], sz := 1, elem := (100), st := 0 } := nrm_get.trans hq
 refine Ck [0,1] J <| Rg 1 J <| Ua J J <| Nk [0,1] J <| Rg 7 J <| Um J J <| aA (aV (b := .tup [outsV l, .v (.int .i64 (if (outs l).isSome = true then 0 else 3))]) (aK J (nouts_run k l om) (aJ (by intro c hc; simp only [List.mem_cons, List.not_mem_nil, or_false] at hc; rcases hc with rfl; exact (.sl _ _ (aY nG))))) J) J <| Um J J <| aA (fB J J) J <| aA (fB J J) J <| Ua J J <| Ua J J <| Nk [0,5,6] J <| aB <| Rg 5 J <| Um J J <| aA (eK J) J <| aA (aU J J J J J) J <| aA (aM (l := .v (.int .i64 e)) J J hgq J J) J <| aA (dV J J) J <| bB (fun h16 => ?_) (fun h16 => ?_)
 rotate_left
 ·refine Nk [0,5,6,16] J <| aX J <| aH <| Rg 2 J <| Um J J <| Ua J J <| Nk [4] J <| aN ?_
  exact ⟨.inr J, _, rfl, rfl, om, by rw [show tel e l = e from if_neg h16]; exact hgq, fun r o hr hne h => nrm_get.trans h⟩
 refine Nk [0,5,6,16] J <| aT J <| Rg 5 J <| Um J J <| Um J J <| aA (eK J) J <| aA (aU J J J J J) J <| bH (cP (cs' := [.v (.int .i64 (if (outs l).isSome = true then 0 else 3))]) J J J hgq J J J J) <| Nk [5] J <| Rg 2 J <| Um J J <| Ua J J <| Nk [4] J <| aN ?_
 exact ⟨.inr J, _, rfl, rfl, om, by rw [show tel e l = _ from if_pos h16]; exact g0, fun r o hr hne h => g1 (fun e => hne e.symm) (nrm_get.trans h)⟩
theorem max3_G (n0 qt qo qp : Nat) (H : Hp) (v : X) (l1 l2 : List X) (p : PB) (hqt : getH H qt = some { cells := [.v (.int .i64 (0))], sz := 1, elem := (100), st := 0 }) (hqo : getH H qo = some { cells := .v (.int .i64 2) :: (xc v ++ [.sl 1 (l1.map xc), .sl 0 [], .sl 1 (l2.map xc)]), sz := 8, elem := (95), st := 0 }) (hqp : getH H qp = some { cells := pbc p, sz := 3, elem := (25), st := 0 }) (t0 : qt < n0) (o0 : qo < n0) (p0 : qp < n0) (hto : qt ≠ qo) (htp : qt ≠ qp) (hop : qo ≠ qp) (hl1 : l1.length ≤ 1000000) (hl2 : l2.length ≤ 1000000) (hm : p.1.2.length ≤ l2.length) : WC Tryz.prog T E0 Tryz.f49.ntmps (codeOf Tryz.f49) (argsEnv 0 [.ptr qt 0, .ptr qo 0, .ptr qp 0]) (nrm H) n0 (fun x e' h' n' => (x = .normal ∨ x = .ret) ∧ ∃ ls', resE e' T h' Tryz.f49.results.toList = some ls' ∧ (∃ cs, resultLV ls' = .agg cs ∧ (∀ c, c ∈ cs → Go.Ab.Data c) ∧ ((outs [xneg v]).isSome = true → cs = .v (.int .i64 2) :: (mc ((outsL [xneg v]).getD 0 default) ++ [outsV l1, outsV (l2.take p.1.2.length), .sl 0 []])) ∧ cs.length = 6 ∧ n0 ≤ n' ∧ getH h' qt = some { cells := [.v (.int .i64 (if (outs l1).isSome = true ∧ (outs (l2.take p.1.2.length)).isSome = true ∧ (outs [xneg v]).isSome = true then 0 else 3))], sz := 1, elem := (100), st := 0 } ∧ ∀ r o, r < n0 → r ≠ qt → getH H r = some o → getH h' r = some o)) := by
 change WC _ _ _ _ _ [(0, .ptr qt 0), (1, .ptr qo 0), (2, .ptr qp 0)] _ _ _
 refine Ck [0,1,2] J <| Rg 1 J <| bJ (fD J) J <| Nk [0,1,2,3] J <| nU (z := 12) J kR <| WX.U (aU J J J J J) J <| WX.U (aM (l := .sl 1 (l1.map xc)) J J (show getH _ _ = some { cells := .v (.int .i64 2) :: (xc v ++ [.sl 1 (l1.map xc), .sl 0 [], .sl 1 (l2.map xc)]), sz := 8, elem := (95), st := 0 } from (by repeat (first | exact g0 | exact nrm_get.trans hqo | refine g1 om ?_))) J J) J ?_
 refine WX.weakM _ (bN fun _ _ h => h) <| WX.G (ls := [.ptr qt 0, .sl 1 (l1.map xc)]) (Φ := fun r h' n' => r = outsV l1 ∧ n0 + 1 ≤ n' ∧ getH h' qt = some { cells := [.v (.int .i64 (tel 0 l1))], sz := 1, elem := (100), st := 0 } ∧ getH h' qo = some { cells := .v (.int .i64 2) :: (xc v ++ [.sl 1 (l1.map xc), .sl 0 [], .sl 1 (l2.map xc)]), sz := 8, elem := (95), st := 0 } ∧ getH h' qp = some { cells := pbc p, sz := 3, elem := (25), st := 0 } ∧ getH h' (n0 + 0) = some { cells := [.v (.int .i64 0), .v (.int .i64 0), .v (.int .i64 0), .sl 0 [], .sl 0 [], .sl 0 []], sz := 6, elem := (42), st := 0 } ∧ ∀ r o, r < n0 → r ≠ qt → getH H r = some o → getH h' r = some o) [qo, qp] J J Tryz.func47 J J (dH J) J ((nums_G _ qt _ (0) 1 l1 (by repeat (first | exact g0 | exact nrm_get.trans hqt | refine g1 om ?_)) om (by first | omega | (rw [List.length_take]; omega) | (show 1 ≤ 1000000; omega))).mono (by rintro x e h m ⟨hx, ls, hr, a1, a2, a3, a4⟩; exact ⟨hx, ls, hr, a1, om, a3, a4 _ _ om om (by repeat (first | exact g0 | exact nrm_get.trans hqo | refine g1 om ?_)), a4 _ _ om om (by repeat (first | exact g0 | exact nrm_get.trans hqp | refine g1 om ?_)), a4 _ _ om om g0, fun r o hr hne h => a4 _ _ om hne (by repeat (first | exact g0 | exact nrm_get.trans h | refine g1 om ?_))⟩)) ?_
 rintro r_ ha na ⟨rfl, hna, hta, hoa, hpa, hza, hka⟩
 refine ⟨fun k hk => ?_, ?_⟩
 ·simp only [List.mem_cons, List.not_mem_nil, or_false] at hk
  rcases hk with rfl | rfl
  ·exact ⟨_, nrm_get.trans (by repeat (first | exact g0 | exact nrm_get.trans hqo | refine g1 om ?_)), hoa⟩
  ·exact ⟨_, nrm_get.trans (by repeat (first | exact g0 | exact nrm_get.trans hqp | refine g1 om ?_)), hpa⟩
 refine WX.U (aU J J J J J) J <| WX.U (aM (l := .sl 1 (l2.map xc)) J J hoa J J) J <| WX.U (aU J J J J J) J <| WX.U (aM (l := .sl p.1.1 (p.1.2.map fM)) J J hpa J J) J <| WX.U (aV (b := .v (.int .i64 (p.1.2.length : Int))) (aW J J) J) J <| WX.U (aV (b := .sl 1 ((l2.take p.1.2.length).map xc)) (oSlH (j := p.1.2.length) J J J (fE (f := xc) fun _ => rfl) J om (by rw [List.length_map]; omega)) (by rw [List.map_take, ite_self])) J <| WX.weakM (nrm ha) (bN fun _ _ h => h) <| WX.G (ls := [.ptr qt 0, .sl 1 ((l2.take p.1.2.length).map xc)]) (Φ := fun r h' n' => r = outsV (l2.take p.1.2.length) ∧ na ≤ n' ∧ getH h' qt = some { cells := [.v (.int .i64 (tel (tel 0 l1) (l2.take p.1.2.length)))], sz := 1, elem := (100), st := 0 } ∧ getH h' qo = some { cells := .v (.int .i64 2) :: (xc v ++ [.sl 1 (l1.map xc), .sl 0 [], .sl 1 (l2.map xc)]), sz := 8, elem := (95), st := 0 } ∧ getH h' qp = some { cells := pbc p, sz := 3, elem := (25), st := 0 } ∧ getH h' (n0 + 0) = some { cells := [.v (.int .i64 0), .v (.int .i64 0), .v (.int .i64 0), .sl 0 [], .sl 0 [], .sl 0 []], sz := 6, elem := (42), st := 0 } ∧ ∀ r o, r < n0 → r ≠ qt → getH H r = some o → getH h' r = some o) [] J J Tryz.func47 J J (dH J) J ((nums_G _ qt ha (tel 0 l1) 1 (l2.take p.1.2.length) hta om (by first | omega | (rw [List.length_take]; omega) | (show 1 ≤ 1000000; omega))).mono (by rintro x e h m ⟨hx, ls, hr, a1, a2, a3, a4⟩; exact ⟨hx, ls, hr, a1, om, a3, a4 _ _ om om hoa, a4 _ _ om om hpa, a4 _ _ om om hza, fun r o hr hne h => a4 _ _ om hne (hka r o hr hne h)⟩)) ?_
 rintro r_ hb nb ⟨rfl, hnb, htb, hob, hpb, hzb, hkb⟩
 refine ⟨fun _ h => (by cases h), ?_⟩
 refine WX.U (gX J) J <| WX.U (gX J) J <| WX.nil (oR (fun k => ([qo, qp]).getD k 0) 2 [⟨0, [], [], false⟩, ⟨1, [], [0], false⟩, ⟨2, [], [0, 1], true⟩, ⟨3, [], [], false⟩, ⟨4, [], [0], false⟩, ⟨5, [], [], false⟩, ⟨6, [], [1], false⟩, ⟨7, [], [], false⟩, ⟨8, [], [], false⟩, ⟨9, [], [], true⟩, ⟨10, [], [], false⟩, ⟨11, [], [], false⟩] (by decide) (by intro x y hx hy h; rcases x with _ | _ | x <;> rcases y with _ | _ | y <;> simp at h <;> omega) kR) <| Ck [0,1,3,4,5] J <| aB <| gL (z := 6) J <| dS (aU J J J J J) J <| dS (aM (l := lvX v) J J hob J J) J <| dS (aK J (oM v) (aJ (by intro c hc; simp only [List.mem_cons, List.not_mem_nil, or_false] at hc; rcases hc with rfl; exact gZ))) J <| dS (aV (b := .sl 2 ([xneg v].map xc)) (dJ (cs := [_, _, _, _]) (rows := [[_, _, _, _]]) J J (by decide) J J J) J) J <| kK (nrm hb) (bN fun _ _ h => h) <| qG (ls := [.ptr qt 0, .sl 2 ([xneg v].map xc)]) (Φ := fun r h' n' => r = outsV [xneg v] ∧ nb ≤ n' ∧ getH h' qt = some { cells := [.v (.int .i64 (tel (tel (tel 0 l1) (l2.take p.1.2.length)) [xneg v]))], sz := 1, elem := (100), st := 0 } ∧ getH h' qo = some { cells := .v (.int .i64 2) :: (xc v ++ [.sl 1 (l1.map xc), .sl 0 [], .sl 1 (l2.map xc)]), sz := 8, elem := (95), st := 0 } ∧ getH h' qp = some { cells := pbc p, sz := 3, elem := (25), st := 0 } ∧ getH h' (n0 + 0) = some { cells := [.v (.int .i64 0), .v (.int .i64 0), .v (.int .i64 0), .sl 0 [], .sl 0 [], .sl 0 []], sz := 6, elem := (42), st := 0 } ∧ ∀ r o, r < n0 → r ≠ qt → getH H r = some o → getH h' r = some o) J Tryz.func47 J J (dH J) J ((nums_G _ qt hb (tel (tel 0 l1) (l2.take p.1.2.length)) 2 [xneg v] htb om (by first | omega | (rw [List.length_take]; omega) | (show 1 ≤ 1000000; omega))).mono (by rintro x e h m ⟨hx, ls, hr, a1, a2, a3, a4⟩; exact ⟨hx, ls, hr, a1, om, a3, a4 _ _ om om hob, a4 _ _ om om hpb, a4 _ _ om om hzb, fun r o hr hne h => a4 _ _ om hne (hkb r o hr hne h)⟩)) ?_
 rintro r_ hc nc ⟨rfl, hnc, htc, hoc, hpc, hzc, hkc⟩
 refine oP <| Ua J J <| Nk [3,4,5,6] J <| aB <| Rg 3 J <| Um J J <| aA (aV (b := .v (.int .i64 ((outsL [xneg v]).length : Int))) (aW J J) J) J <| aA (dV J J) J <| bB (fun h24 => ?_) (fun h24 => ?_)
 rotate_left
 ·refine Nk [3,4,5,6,24] J <| aX J <| aH <| Rg 2 J <| aA (gS (cs := [_, _, _, _, _, _]) J J J J J) J <| bH (cP (cs' := [.v (.int .i64 0), .v (.int .i64 0), .v (.int .i64 0), .sl 0 [], .sl 0 [], .sl 0 []]) J J J hzc J J J J) <| Nk [3] J <| aN <| ⟨.inr J, [.agg [.v (.int .i64 0), .v (.int .i64 0), .v (.int .i64 0), .sl 0 [], .sl 0 [], .sl 0 []]], resE_cell J J g0 J J, [.v (.int .i64 0), .v (.int .i64 0), .v (.int .i64 0), .sl 0 [], .sl 0 [], .sl 0 []], rfl, ?_, fun h => absurd (outs1.2 h) om, rfl, om, g1 om (htc.trans (by rw [tel3])), fun r o hr hne h => g1 om (hkc r o hr hne h)⟩
  intro c hc
  simp only [List.mem_cons, List.not_mem_nil, or_false] at hc
  rcases hc with rfl | rfl | rfl | rfl | rfl | rfl
  all_goals first | exact .v _ | exact .sl _ _ (by simp)
 refine Nk [3,4,5,6,24] J <| aT J <| aB <| Rg 7 J <| Um J J <| aA (cG (j := 0) J J J J om om J) J <| aA (dY (l := lvM ((outsL [xneg v]).getD 0 default)) J J J) J <| Um J J <| Um J J <| aA (gS (cs := [_, _, _, _, _, _]) J J J J J) J <| bH (cP (cs' := .v (.int .i64 2) :: (mc ((outsL [xneg v]).getD 0 default) ++ [outsV l1, outsV (l2.take p.1.2.length), .sl 0 []])) J J J hzc J J J J) <| Nk [3] J <| bI <| ⟨.inr J, [.agg (.v (.int .i64 2) :: (mc ((outsL [xneg v]).getD 0 default) ++ [outsV l1, outsV (l2.take p.1.2.length), .sl 0 []]))], resE_cell J J g0 J J, _, rfl, ?_, fun _ => rfl, rfl, om, g1 om (htc.trans (by rw [tel3])), fun r o hr hne h => g1 om (hkc r o hr hne h)⟩
 intro c hc
 simp only [List.mem_cons, List.mem_append, List.not_mem_nil, or_false] at hc
 rcases hc with rfl | hc | rfl | rfl | rfl
 ·exact .v _
 ·exact eS _ c hc
 ·exact douts _
 ·exact douts _
 ·exact .sl _ _ (by simp)
end Go.Proofs.YtohfklpfeilcpaaGreat
namespace Go.Proofs.YtohfklpfeilcpaaGreat
open Go.Ab Go.RowKit
theorem max_run (p : PB) (hI : IP p) (hV : vP p = true) (h1n : 1 ≤ p.2.2.2.length) (β : Nat) (hb1 : 1 ≤ β) (hβ : β ≤ 400000000) (hB : ∀ k, k ≤ p.2.2.2.length → ((lpT p).frs k).Bds β) (hF : ∀ i, i < p.1.2.length + p.2.2.2.length → ((lpT p).frs p.2.2.2.length).sd (((lpT p).frs p.2.2.2.length).basic.getD i default) = true → 0 ≤ (((lpT p).frs p.2.2.2.length).cells.getD i default).getD 0 default) (hZ : ∀ k, k < p.2.2.2.length → ((lpT p).frs p.2.2.2.length).out.getD k default < (p.2.2.2.length : Int) → ((lpT p).frs p.2.2.2.length).goal.getD (k + 1) default = 0) (hD : ∀ c, c < p.2.2.2.length → ((lpT p).frs p.2.2.2.length).sd (((lpT p).frs p.2.2.2.length).out.getD c default) = true → 0 ≤ ((lpT p).frs p.2.2.2.length).goal.getD (c + 1) default) : Run Tryz.prog T E0 (.call 13 [lvPb p] ((mxR ((lpT p).frs p.2.2.2.length) p.1.2.length))) := by
 have hP := lS.1 hV
 have hrows := hP.rows
 have hcols := hP.cols
 have hgv := (nT hP.g).2
 have hrv := (nT hP.r).2
 have hmrun := lrows_run p p.2.2.2.length rfl h1n om om hI hP.rl hP.w (fun r hr a ha => (hP.row hr a ha).all3.2.2) (fun a ha => (hrv a ha).all3.2.2)
 have hlen := rowsX_len p
 obtain ⟨_, hmin, v, l1, l2, rfl, hv, hl1, hl2⟩ := min_run p.2.2.2.length 1 (rowsX p) (glX p) h1n om om om (rowsX_w hP.w) (by show ((p.2.2.2.map nx).map _).length = _; rw [List.length_map, List.length_map]) (rowsX_no p) β hb1 hβ (by rw [oY]; exact hB) (by rw [oY, hlen]; exact hF) (by rw [oY]; exact hZ) (by rw [oY]; exact hD)
 rw [oY] at hv hl1 hl2
 have hl1l : l1.length = p.2.2.2.length := by
  have := congrArg List.length hl1
  rw [gA, pnt_len, (frs_n _ _).1] at this
  exact this
 have hl2l : l2.length = (rowsX p).length := by
  have := congrArg List.length hl2
  rw [gA, mlt_len, (frs_n _ _).2] at this
  rw [this, ← oY]
  show (((rowsX p).map _).map _).length = _
  rw [List.length_map, List.length_map]
 have hres := mxR_of (m := p.1.2.length) hv hl1 hl2
 refine bL Tryz.func13 J J (dH J) <| Ck [0] J <| Rg 3 J <| bJ (eO J J) J <| bJ (fD J) J <| Ua J J <| Nk [1,2] J <| aB <| Rg 3 J <| aA (aM (l := lvPb p) J J gG J J) J ?_
 refine aA (aV (b := .v (.bool true)) (aK J (nI p hI) (aJ (by intro c hc; simp only [List.mem_cons, List.not_mem_nil, or_false] at hc; rcases hc with rfl; exact gZ))) (by rw [hV])) J <| aA (dE J) J <| Nk [1,2,11] J <| aX J <| aH <| Rg 8 J <| aA (aU J J J J J) J <| aA (aM (l := .sl p.2.2.1 (p.2.2.2.map mc)) J J gG J J) J ?_
 refine aA (aK J (eN p.2.2.1 p.2.2.2 om hI.g (fun a ha => (hgv a ha).all3.2.2)) (aJ (by intro c hc; simp only [List.mem_cons, List.not_mem_nil, or_false] at hc; rcases hc with rfl; exact (.sl _ _ (aY eS))))) J <| aA (aV (b := .agg (rwc ((kd (p.2.2.2.map nx).length, p.2.2.2.map nx), x0, false))) (gS (cs := [_, _, _, _, _, _]) J J J J J) J) J <| aA (aK J (pL (-1) (by decide)) (aJ (by intro c hc; rw [List.mem_singleton] at hc; subst hc; exact .v _))) J <| aA (aV (b := .agg (rwc (glX p))) (aK J (times_run ((kd (p.2.2.2.map nx).length, p.2.2.2.map nx), x0, false) (xint (-1)) (by show (p.2.2.2.map nx).length ≤ _; rw [List.length_map]; omega) 2 (by decide) (by decide) (by intro x hx; obtain ⟨a, ha, rfl⟩ := List.mem_map.1 hx; exact (hgv a ha).bd) (Bd0 (by decide)) (Bd_int (z := -1) (by decide))) (aJ (by intro c hc; simp only [List.mem_cons, List.not_mem_nil, or_false] at hc; rcases hc with rfl | rfl; exact (.agg _ (drwc _)); exact gZ))) J) J <| bJ (fD J) J <| bH (cP (cs' := rwc (glX p)) J J J g0 J J J J) <| Nk [1,2,4] J <| aB <| Rg 3 J <| aA (aU J J J J J) J <| aA (aM (l := .sl 1 ((glX p).1.2.map xc)) J J gG J J) J ?_
 refine aA (aV (b := .v (.bool false)) (pY J J) J) J <| Nk [1,2,4,21] J <| aX J <| aH <| bR (z := 9) J kR <| aC (aU J J J J J) J <| aC (aM (l := .sl p.2.2.1 (p.2.2.2.map mc)) J J gG J J) J ?_
 refine aC (aV (b := .v (.int .i64 (p.2.2.2.length : Int))) (aW J J) J) J <| aC (aM (l := lvPb p) J J gG J J) J ?_
 refine aC (aK J (hmrun) (aJ (by intro c hc; simp only [List.mem_cons, List.not_mem_nil, or_false] at hc; rcases hc with rfl; exact gZ))) J <| aC (aM (l := .agg (rwc (glX p))) J J gG J J) J ?_
 refine aC (aK J (hmin) (aJ (by intro c hc; simp only [List.mem_cons, List.not_mem_nil, or_false] at hc; rcases hc with rfl | rfl | rfl; exact (.v _); exact (.sl _ _ (aY drwc)); exact (.agg _ (drwc _))))) J <| WD.S (fD J) J <| cO (cP (cs' := .v (.int .i64 2) :: (xc v ++ [.sl 1 (l1.map xc), .sl 0 [], .sl 1 (l2.map xc)])) J J J g0 J J J J) <| bG (aQ kR) J <| Ck [1,2,5] J <| Rg 1 J <| bJ (fD J) J <| Nk [1,2,5,6] J <| Rg 6 J <| aA (oMf J) J <| aA (oMf J) J <| aA (oMf J) J <| aA (oBdA (cs := [_, _, _]) J J J J J) J <| bJ (fD J) J <| bH (cP (cs' := [_, _, _]) J J J g0 J J J J) <| Nk [2,5,6,7] J <| gL (z := 7) J <| dS (aU J J J J J) J <| dS (aM (l := .v (.int .i64 2)) J J gG J J) J ?_
 refine dS (oIxA (j := 2) J J J J om om) J <| dS (aM (l := .fn (.func 49) [] [.ptr 26 0, .ptr 24 0, .ptr 0 0]) J J gG J J) J ?_
 refine kK _ (bN fun _ _ h => h) <| WN.Gv (first := []) (cap := [.ptr 26 0, .ptr 24 0, .ptr 0 0]) (ls := []) (Φ := fun r h' n' => ∃ cs, r = .agg cs ∧ ((outs [xneg v]).isSome = true → cs = .v (.int .i64 2) :: (mc ((outsL [xneg v]).getD 0 default) ++ [outsV l1, outsV (l2.take p.1.2.length), .sl 0 []])) ∧ cs.length = 6 ∧ getH h' 26 = some { cells := [.v (.int .i64 (if (outs l1).isSome = true ∧ (outs (l2.take p.1.2.length)).isSome = true ∧ (outs [xneg v]).isSome = true then 0 else 3))], sz := 1, elem := (100), st := 0 } ∧ getH h' 1 = some { cells := mxZ, sz := 6, elem := (42), st := 0 }) J J Tryz.func49 J J (dH J) J ((max3_G 40 26 24 0 _ v l1 l2 p gG gG gG om om om om om om om om om).mono (by rintro x e h m ⟨hx, ls, hr, cs, a1, a2, a3, a4, a5, a6, a7⟩; exact ⟨hx, ls, hr, cs, a1, a3, a4, a6, a7 1 _ om om gG⟩)) ?_
 rintro r_ hx nx_ ⟨cs, rfl, hcsE, hcs6, hxt, hx1⟩
 refine oP <| bJ (fD J) J <| bH (cP (cs' := cs) J J J g0 J J hcs6 (putCells_all hcs6)) <| Nk [2,6,8] J <| aB <| Rg 3 J <| aA (aU J J J J J) J <| aA (aM (l := .v (.int .i64 (if (outs l1).isSome = true ∧ (outs (l2.take p.1.2.length)).isSome = true ∧ (outs [xneg v]).isSome = true then 0 else 3))) J J (show getH _ _ = some { cells := [.v (.int .i64 (if (outs l1).isSome = true ∧ (outs (l2.take p.1.2.length)).isSome = true ∧ (outs [xneg v]).isSome = true then 0 else 3))], sz := 1, elem := (100), st := 0 } from g1 om (g1 om hxt)) J J) J <| aA (gJ J J) J <| bB (fun h42 => ?_) (fun h42 => ?_)
 rotate_left
 ·refine Nk [2,6,8,42] J <| aX J <| aH ?_
  have hC : (outs l1).isSome = true ∧ (outs (l2.take p.1.2.length)).isSome = true ∧ (outs [xneg v]).isSome = true := Decidable.byContradiction fun h => h42 (by rw [if_neg h]; decide)
  obtain rfl := hcsE hC.2.2
  refine Rg 3 J <| aA (aM (l := .agg (.v (.int .i64 2) :: (mc ((outsL [xneg v]).getD 0 default) ++ [outsV l1, outsV (l2.take p.1.2.length), .sl 0 []]))) J J g0 J J) J <| bH (cP (cs' := .v (.int .i64 2) :: (mc ((outsL [xneg v]).getD 0 default) ++ [outsV l1, outsV (l2.take p.1.2.length), .sl 0 []])) J J J (g1 om (g1 om hx1)) J J J J) <| Ua J J <| Nk [2,3] J <| aN ?_
  exact post (n := 0) (.inr J) J (by rw [hres, if_pos hC]; rfl) (data_mxR _ _)
 have hC : ¬ ((outs l1).isSome = true ∧ (outs (l2.take p.1.2.length)).isSome = true ∧ (outs [xneg v]).isSome = true) := fun h => h42 (if_pos h)
 refine Nk [2,6,8,42] J <| aT J <| aB <| bR (z := 5) J kR <| aC (gS (cs := [_, _, _, _, _, _]) J J J J J) J <| aC (aU J J J J J) J <| aC (aM (l := .v (.int .i64 (if (outs l1).isSome = true ∧ (outs (l2.take p.1.2.length)).isSome = true ∧ (outs [xneg v]).isSome = true then 0 else 3))) J J (show getH _ _ = some { cells := [.v (.int .i64 (if (outs l1).isSome = true ∧ (outs (l2.take p.1.2.length)).isSome = true ∧ (outs [xneg v]).isSome = true then 0 else 3))], sz := 1, elem := (100), st := 0 } from g1 om (g1 om hxt)) J J) J <| cO (cP (cs' := mxZ) J J J (g1 om (g1 om hx1)) J J J J) <| aC (gX J) J <| bG (aQ kR) J <| Ck [2,3] J <| bI ?_
 exact post (n := 0) (.inr J) J (by rw [hres, if_neg hC, if_neg hC]; rfl) (data_mxR _ _)
end Go.Proofs.YtohfklpfeilcpaaGreat
namespace Go.Proofs.YtohfklpfeilcpaaGreat
open Go.Ab Go.RowKit
theorem gW (k : Nat) (ns : List Int) (ln : ns.length < 1099511627776) : Run Tryz.prog T E0 (.call 34 [.sl k (ns.map dI)] (.sl (kd (ns.map wI).length) ((ns.map wI).map mc))) := by
 refine bL Tryz.func34 J J (dH J) <| Rg 1 J <| Ua J J <| Wn <| Rg 1 J <| Ua J J <| Wn <| aB <| Rg 3 J <| Um J J <| aA (aW J J) J <| Um J J <| Wn <| aL <| bF (α := Nat × Nat × (List NM)) (fun ⟨i, q, ds⟩ => [(3, outV q 2 (ds.map mc)), (6, .sl k (ns.map dI)), (7, .v (.int .i64 (ns.length : Int))), (8, .v (.int .i64 (i : Int)))]) (fun ⟨i, q, ds⟩ => outH q 2 40 (ds.map mc) []) (fun ⟨i, q, ds⟩ n => i ≤ ns.length ∧ ds = (ns.take i).map wI ∧ ds.length = i) (fun ⟨i, q, ds⟩ => ns.length - i) (0, 0, []) ⟨J, J, J, J, trivial⟩ trivial ⟨Nat.zero_le _, by simp, rfl⟩ ?_
 rintro ⟨i, q, ds⟩ n hF
 change WC _ _ _ _ _ (_ :: _) (outH _ _ _ _ _) n _
 obtain ⟨hi, hds, hdl⟩ := hF
 refine Rg 1 J <| aA (bZ J J) J <| bB (fun h9 => ?_) (fun h9 => ?_)
 rotate_left
 ·refine Wn <| aX J <| bA <| aS <| aR J <| Rg 2 J <| Um J J <| Ua J J <| Wn <| aN ?_
  rw [List.take_of_length_le om] at hds
  rw [← hds, ← qX]
  exact lM (n := 0) (.inr J) J (by decide) (fE (n := 2) (fun _ => rfl)) (aY eS)
 refine Wn <| aT J <| aH <| aL <| Rg 3 J <| aA (cG (us := ns) (f := dI) (j := i) J J J J J om J) J <| aA (dY (l := .v (.int .i64 (ns.getD i default))) J J J) J <| Ua J J <| Wn <| aI (z := 6) J <| Um J J <| Um J J <| aA (gS (cs := [_, _]) J J J J J) J <| aA (dJ (cs := [_, _]) (rows := [[_, _]]) J J (by decide) J J J) J <| dP (te := ti40) (f := mc) (q := q) (us := ds) (u := (wI (ns.getD i default))) J J J J J (fun _ => rfl) (by decide) (by show (2 * (ds.length + 1) + 256) * 16 ≤ _; omega) om J J J <| Ua J J <| Wn <| aF <| aI (z := 2) J <| aA (cI (((i + 1 : Nat) : Int)) (aO J J om) om) J <| Um J J <| Wn <| aG <| ⟨⟨i + 1, _, ds ++ [wI (ns.getD i default)]⟩, ⟨J, J, J, J, trivial⟩, cL, ⟨om, by rw [iV om, hds], by simp; omega⟩, by show ns.length - (i + 1) < ns.length - i; omega⟩
theorem awake03_run  : Run Tryz.prog T E0 (.call 8 [] (.v (.bool true))) := by
 refine bL Tryz.func8 J J (dH J) <| Rg 1 J <| Ua J J <| Wn <| Rg 17 J <| aA (dJ (cs := [_, _]) (rows := [[_], [_]]) J J (by decide) J J J) J <| aA (aV (b := .sl 1 (([1, 1].map wI).map mc)) (aK J (gW 2 [1, 1] (by decide)) (aJ (by intro c hc; rw [List.mem_singleton] at hc; subst hc; exact .sl _ _ (by simp)))) J) J <| aA (dJ (cs := [_, _]) (rows := [[_], [_]]) J J (by decide) J J J) J <| aA (aV (b := .sl 1 (([0, 1].map wI).map mc)) (aK J (gW 2 [0, 1] (by decide)) (aJ (by intro c hc; rw [List.mem_singleton] at hc; subst hc; exact .sl _ _ (by simp)))) J) J <| aA (aV (b := .sl 2 (exP.1.2.map fM)) (dJ (cs := [_, _]) (rows := [[_], [_]]) J J (by decide) J J J) J) J <| aA (dJ (cs := [_, _]) (rows := [[_], [_]]) J J (by decide) J J J) J <| aA (aV (b := .sl 1 (([4, 3].map wI).map mc)) (aK J (gW 2 [4, 3] (by decide)) (aJ (by intro c hc; rw [List.mem_singleton] at hc; subst hc; exact .sl _ _ (by simp)))) J) J <| aA (dJ (cs := [_, _]) (rows := [[_], [_]]) J J (by decide) J J J) J <| aA (aV (b := .sl 1 (([1, 2].map wI).map mc)) (aK J (gW 2 [1, 2] (by decide)) (aJ (by intro c hc; rw [List.mem_singleton] at hc; subst hc; exact .sl _ _ (by simp)))) J) J <| aA (aV (b := lvPb exP) (gS (cs := [_, _, _]) J J J J J) J) J <| aA (aV (b := .tup [.agg exC, .v (.int .i64 0)]) (aK J (max_run exP exP_I exP_V (by decide) 2 (by decide) (by decide) (fun k hk => Tb.bdsB_ok (exP_b k hk)) exP_F exP_Z exP_D) (aJ (by intro c hc; simp only [List.mem_cons, List.not_mem_nil, or_false] at hc; rcases hc with rfl; exact gZ))) exP_R) J <| Um J J <| aA (fB J J) J <| aA (fB J J) J <| bJ (fD J) J <| bH (cP (cs' := exC) J J J g0 J J J J) <| Ua J J <| Nk [1,2] J ?_
 refine bR (z := 34) J kR <| Dm J J <| aC (aV (b := .v (.bool true)) (dV J J) J) J <| Dm J J <| bC J (aU J J J J J) J <| bC J (aM (l := .v (.int .i64 2)) J J g0 J J) J <| bC J (aV (b := .v (.bool true)) (dV J J) J) J <| aC (bM J J) J <| Dm J J <| bC J (aU J J J J J) J <| bC J (aM (l := lvM (wI 7)) J J g0 J J) J <| bC J (gS (cs := [_, _]) J J J J J) J <| bC J (aV (b := .v (.bool true)) (oEqS J J J J J) J) J <| aC (bM J J) J <| Dm J J <| bC J (aU J J J J J) J <| bC J (aM (l := .sl 1 ([wI 1, wI 3].map mc)) J J g0 J J) J <| bC J (dJ (cs := [_, _]) (rows := [[_], [_]]) J J (by decide) J J J) J <| bC J (aV (b := .sl 1 (([1, 3].map wI).map mc)) (aK J (gW 2 [1, 3] (by decide)) (aJ (by intro c hc; rw [List.mem_singleton] at hc; subst hc; exact .sl _ _ (by simp)))) J) J <| bC J (aK J (nsame_run 1 1 [wI 1, wI 3] (by decide)) (aJ (by intro c hc; simp only [List.mem_cons, List.not_mem_nil, or_false] at hc; rcases hc with rfl | rfl; exact (.sl _ _ (aY eS)); exact (.sl _ _ (aY eS))))) J <| aC (bM J J) J <| Dm J J <| bC J (aU J J J J J) J <| bC J (aM (l := .sl 1 ([wI 1, wI 1].map mc)) J J g0 J J) J ?_
 refine bC J (dJ (cs := [_, _]) (rows := [[_], [_]]) J J (by decide) J J J) J <| bC J (aV (b := .sl 1 (([1, 1].map wI).map mc)) (aK J (gW 2 [1, 1] (by decide)) (aJ (by intro c hc; rw [List.mem_singleton] at hc; subst hc; exact .sl _ _ (by simp)))) J) J <| bC J (aK J (nsame_run 1 1 [wI 1, wI 1] (by decide)) (aJ (by intro c hc; simp only [List.mem_cons, List.not_mem_nil, or_false] at hc; rcases hc with rfl | rfl; exact (.sl _ _ (aY eS)); exact (.sl _ _ (aY eS))))) J <| aC (bM J J) J <| Dm J J <| bC J (aU J J J J J) J <| bC J (aM (l := .sl 0 []) J J g0 J J) J <| bC J (aV (b := .v (.int .i64 0)) (oLen J J) J) J <| bC J (aV (b := .v (.bool true)) (dV J J) J) J <| aC (bM J J) J <| aC (gX J) J <| bG (aQ kR) J <| Ck [0] J <| aN ?_
 exact post (n := 0) (.inr J) J J (.v _)
end Go.Proofs.YtohfklpfeilcpaaGreat
