/- Part E of the proof of simClock_holds: what it rests on. No condition. -/
import Derived.Test.YtcblgjaomljikaaOwnD
import Derived.Test.YtcblgjaomljikaaChecked
set_option linter.unusedVariables false
set_option linter.unusedSimpArgs false
set_option maxRecDepth 100000
set_option maxHeartbeats 8000000
namespace Go.Proofs.Ytcblgjaomljikaa
open Go.Ab Go.RowKit
theorem mvmodel_run (k : Nat) (ss : List ST) (hI : ∀ s, s ∈ ss → IS s) : Run Try.prog T E0 (.call 76 [lvMo k ss] (.v (.bool (VMo ss)))) := by
 refine bC Try.func76 J J (dG J) <| Rg 2 J <| bE (eW J J) J <| Ua J J <| Wn <| Rg 4 J <| aA (bF J J J J J) J <| aA (aO J J (by repeat (first | exact g0 | refine g1 (by decide) ?_)) J J) J ?_
 refine aA (aX J J) J <| Ua J J <| Wn <| aC <| Rg 6 J <| Um J J <| aA (bR J J) J <| aT (fun h12 => ?_) (fun h12 => ?_)
 ·refine Um J J <| K1 J J <| K1 J J <| aA (bI J J) J <| Wn <| aN J <| aC <| Rg 1 J <| Ua J J <| Wn <| aV <| post (n := 0) (.inr J) J ?_ dD
  exact congrArg (fun z => LV.v (.bool z)) (show false = VMo ss from (VMo_no om).symm)
 refine Um J J <| aH J (dQ J) J <| aH J (dW J J) J <| aT (fun h15 => ?_) (fun h15 => ?_)
 ·refine aA (bJ J J) J <| Wn <| aN J <| aC <| Rg 1 J <| Ua J J <| Wn <| aV <| post (n := 0) (.inr J) J ?_ dD
  exact congrArg (fun z => LV.v (.bool z)) (show false = VMo ss from (VMo_no om).symm)
 refine aA (bJ J J) J <| Wn <| aS J <| aD <| aC <| Rg 4 J <| aA (bF J J J J J) J <| aA (aO J J (by repeat (first | exact g0 | refine g1 (by decide) ?_)) J J) J ?_
 refine aA (aX J J) J <| Um J J <| Nk [3,18,19,20] J <| aI <| aZ (α := Nat) (fun i => [(3, .v (.int .i64 (ss.length : Int))), (18, .sl k (ss.map stc)), (19, .v (.int .i64 (ss.length : Int))), (20, .v (.int .i64 (i : Int)))]) (fun i => []) (fun i n => i ≤ ss.length ∧ (ss.take i).all (VS ss.length) = true ∧ 0 < n) (fun i => ss.length - i) (0) ⟨J, J, J, J, trivial⟩ trivial ⟨Nat.zero_le _, by simp, om⟩ ?_
 rintro i n hF
 change WC _ _ _ _ _ (_ :: _) ([]) n _
 obtain ⟨hi, ha, hn0⟩ := hF
 refine Rg 1 J <| aA (bR J J) J <| aT (fun h21 => ?_) (fun h21 => ?_)
 rotate_left
 ·refine Wn <| aS J <| aW <| aQ <| aR J <| Rg 1 J <| Ua J J <| Wn <| aK <| post (n := 0) (.inr J) J ?_ dD
  exact congrArg (fun z => LV.v (.bool z)) (show true = VMo ss from (VMo_yes om om (all_yes ha om)).symm)
 refine Wn <| aN J <| aD <| aI ?_
 have hIs := hI _ (bP (us := ss) (i := i) om)
 refine Rg 4 J <| aA (bX J J J J J om J) J <| aA (dN (l := .agg [_, _, _]) J J J) J <| bE (eZ J) J <| aU (cL (cs' := [_, _, _]) J J J gG J J J J) ?_
 refine Wn <| aC <| Rg 30 J <| aA (bF J J J J J) J <| aA (aO J J gG J J) J ?_
 refine aA (bR J J) J <| aT (fun h26 => ?_) (fun h26 => ?_)
 ·refine Um J J <| K1 J J <| K1 J J <| K1 J J <| aA (bI J J) J <| Um J J <| K1 J J <| K1 J J <| K1 J J <| aA (bI J J) J <| Um J J <| K1 J J <| K1 J J <| K1 J J <| aA (bI J J) J <| Um J J <| K1 J J <| K1 J J <| K1 J J <| K1 J J <| aA (bI J J) J <| Um J J <| K1 J J <| K1 J J ?_
  refine K1 J J <| K1 J J <| aA (bI J J) J <| Nk [3,5,18,19,20,28,29,30,33,34,35,38,39,40,43,44,45,46,49,50,51,52,53] J <| aN J <| aC <| Rg 1 J <| Ua J J <| Nk [2] J <| aV <| aP <| bT <| aP <| post (n := 0) (.inr J) J ?_ dD
  exact congrArg (fun z => LV.v (.bool z)) (show false = VMo ss from (iK (i := i) om (qQ (.inl om))).symm)
 refine Um J J <| aH J (bF J J J J J) J <| aH J (aO J J gG J J) J ?_
 refine aH J (dW J J) J <| aT (fun h30 => ?_) (fun h30 => ?_)
 ·refine aA (bJ J J) J <| Um J J <| K1 J J <| K1 J J <| K1 J J <| aA (bI J J) J <| Um J J <| K1 J J <| K1 J J <| K1 J J <| aA (bI J J) J <| Um J J <| K1 J J <| K1 J J <| K1 J J <| K1 J J <| aA (bI J J) J <| Um J J <| K1 J J <| K1 J J <| K1 J J <| K1 J J <| aA (bI J J) J <| cM ?_
  refine Ck [3,5,18,19,20,28,29,30,33,34,35,38,39,40,43,44,45,46,49,50,51,52,53] J <| aN J <| aC <| Rg 1 J <| Ua J J <| Nk [2] J <| aV <| aP <| bT <| aP <| post (n := 0) (.inr J) J ?_ dD
  exact congrArg (fun z => LV.v (.bool z)) (show false = VMo ss from (iK (i := i) om (qQ (.inr (.inl om)))).symm)
 refine aA (bJ J J) J <| Um J J <| aH J (bF J J J J J) J <| aH J (aO J J gG J J) J ?_
 refine aH J (bR J J) J <| aT (fun h35 => ?_) (fun h35 => ?_)
 ·refine aA (bJ J J) J <| Um J J <| K1 J J <| K1 J J <| K1 J J <| aA (bI J J) J <| Um J J <| K1 J J <| K1 J J <| K1 J J <| K1 J J <| aA (bI J J) J <| Um J J <| K1 J J <| K1 J J <| K1 J J <| K1 J J <| aA (bI J J) J <| Nk [3,5,18,19,20,28,29,30,33,34,35,38,39,40,43,44,45,46,49,50,51,52,53] J <| aN J <| aC <| Rg 1 J <| Ua J J ?_
  refine Nk [2] J <| aV <| aP <| bT <| aP <| post (n := 0) (.inr J) J ?_ dD
  exact congrArg (fun z => LV.v (.bool z)) (show false = VMo ss from (iK (i := i) om (qQ (.inr (.inr (.inl om))))).symm)
 refine aA (bJ J J) J <| Um J J <| aH J (bF J J J J J) J <| aH J (aO J J gG J J) J ?_
 refine aH J (dW J J) J <| aT (fun h40 => ?_) (fun h40 => ?_)
 ·refine aA (bJ J J) J <| Um J J <| K1 J J <| K1 J J <| K1 J J <| K1 J J <| aA (bI J J) J <| Um J J <| K1 J J <| K1 J J <| K1 J J <| K1 J J <| aA (bI J J) J <| Nk [3,5,18,19,20,28,29,30,33,34,35,38,39,40,43,44,45,46,49,50,51,52,53] J <| aN J <| aC <| Rg 1 J <| Ua J J <| Nk [2] J <| aV <| aP <| bT ?_
  refine aP <| post (n := 0) (.inr J) J ?_ dD
  exact congrArg (fun z => LV.v (.bool z)) (show false = VMo ss from (iK (i := i) om (qQ (.inr (.inr (.inr (.inl om)))))).symm)
 refine aA (bJ J J) J <| Um J J <| aH J (bF J J J J J) J <| aH J (aO J J gG J J) J ?_
 refine aH J (aX J J) J <| aH J (bR J J) J <| aT (fun h46 => ?_) (fun h46 => ?_)
 ·refine aA (bJ J J) J <| Um J J <| K1 J J <| K1 J J <| K1 J J <| K1 J J <| aA (bI J J) J <| Nk [3,5,18,19,20,28,29,30,33,34,35,38,39,40,43,44,45,46,49,50,51,52,53] J <| aN J <| aC <| Rg 1 J <| Ua J J <| Nk [2] J <| aV <| aP <| bT <| aP <| post (n := 0) (.inr J) J ?_ dD
  exact congrArg (fun z => LV.v (.bool z)) (show false = VMo ss from (iK (i := i) om (qQ (.inr (.inr (.inr (.inr (.inl om))))))).symm)
 refine aA (bJ J J) J <| Um J J <| aH J (bF J J J J J) J <| aH J (aO J J gG J J) J ?_
 refine aH J (aX J J) J <| aH J (dW J J) J <| aT (fun h52 => ?_) (fun h52 => ?_)
 ·refine aA (bJ J J) J <| Nk [3,5,18,19,20,28,29,30,33,34,35,38,39,40,43,44,45,46,49,50,51,52,53] J <| aN J <| aC <| Rg 1 J <| Ua J J <| Nk [2] J <| aV <| aP <| bT <| aP <| post (n := 0) (.inr J) J ?_ dD
  exact congrArg (fun z => LV.v (.bool z)) (show false = VMo ss from (iK (i := i) om (qQ (.inr (.inr (.inr (.inr (.inr om))))))).symm)
 refine aA (bJ J J) J <| Nk [3,5,18,19,20,28,29,30,33,34,35,38,39,40,43,44,45,46,49,50,51,52,53] J <| aS J <| aD <| Rg 4 J <| aA (bF J J J J J) J <| aA (aO J J gG J J) J ?_
 refine aA (aX J J) J <| Um J J <| Nk [3,18,19,20,28,29,30,33,34,35,38,39,40,43,44,45,46,49,50,51,52,55,56,57] J <| cN <| aZ (α := Nat) (fun j => [(3, .v (.int .i64 (ss.length : Int))), (18, .sl k (ss.map stc)), (19, .v (.int .i64 (ss.length : Int))), (20, .v (.int .i64 (i : Int))), (55, .sl (ss.getD i default).2.1 ((ss.getD i default).2.2.map chc)), (56, .v (.int .i64 ((ss.getD i default).2.2.length : Int))), (57, .v (.int .i64 (j : Int)))]) (fun j => []) (fun j n => j ≤ (ss.getD i default).2.2.length ∧ ((ss.getD i default).2.2.take j).all (VC ss.length) = true ∧ 0 < n) (fun j => (ss.getD i default).2.2.length - j) (0) ⟨J, J, J, J, J, J, J, trivial⟩ trivial ⟨Nat.zero_le _, by simp, om⟩ ?_
 rintro j n hF
 change WC _ _ _ _ _ (_ :: _) ([]) n _
 obtain ⟨hj, hb, hn2⟩ := hF
 refine Rg 1 J <| aA (bR J J) J <| aT (fun h58 => ?_) (fun h58 => ?_)
 rotate_left
 ·refine Wn <| aS J <| aW <| aQ <| gT J <| aF <| aE (z := 2) J <| aA (cI (((i + 1 : Nat) : Int)) (aM J J om) om) J <| Um J J <| Wn <| aG <| ⟨i + 1, ⟨J, J, J, J, trivial⟩, trivial, ⟨om, take_all ha om (VS_yes om om om om om om (all_yes hb om)), om⟩, by show ss.length - (i + 1) < ss.length - i; omega⟩
 refine Wn <| aN J <| aD <| aI ?_
 have hIc := hIs.2.2 _ (bP (us := (ss.getD i default).2.2) (i := j) om)
 refine Rg 4 J <| aA (bX J J J J J om J) J <| aA (dN (l := .agg [_, _, _]) J J J) J <| bE (eZ J) J <| aU (cL (cs' := [_, _, _]) J J J gG J J J J) ?_
 refine Wn <| Rg 4 J <| Um J J <| aA (aO (l := lvC ((ss.getD i default).2.2.getD j default)) J J gG J J) J ?_
 refine aA (aJ J (mchoice_run ss.length ((ss.getD i default).2.2.getD j default) hIc om) dD) J <| dZ (fun h63 => ?_) (fun h63 => ?_)
 ·refine aA (fN J) J <| Nk [3,18,19,20,55,56,57,64] J <| cC J <| cP <| aF <| aE (z := 2) J <| aA (cI (((j + 1 : Nat) : Int)) (aM J J om) om) J <| Um J J <| Wn <| aG <| ⟨j + 1, ⟨J, J, J, J, J, J, J, trivial⟩, trivial, ⟨om, take_all hb om h63, om⟩, by show (ss.getD i default).2.2.length - (j + 1) < (ss.getD i default).2.2.length - j; omega⟩
 refine aA (fN J) J <| Nk [3,18,19,20,55,56,57,64] J <| bU J <| Rg 1 J <| Ua J J <| Wn <| aK <| aP <| bT <| oV <| aP <| bT <| aP <| post (n := 0) (.inr J) J ?_ dD
 exact congrArg (fun z => LV.v (.bool z)) (show false = VMo ss from (iK (i := i) om (VS_no2 (j := j) om h63)).symm)
end Go.Proofs.Ytcblgjaomljikaa
set_option maxHeartbeats 16000000
namespace Go.Proofs.Ytcblgjaomljikaa
open Go.Ab Go.RowKit
theorem mset_run (k kl : Nat) (ss : List ST) (l : List Int) (ll : l.length < 1099511627776) : Run Try.prog T E0 (.call 77 [lvMo k ss, lvL kl l] (.v (.bool (VSet ss.length l)))) := by
 refine bC Try.func77 J J (dG J) <| Rg 2 J <| bE (eW J J) J <| Ua J J <| Wn <| Rg 1 J <| Ua J J <| Wn <| aC <| Rg 3 J <| Um J J <| aA (aX J J) J <| Um J J <| Wn <| aI <| aZ (α := Nat) (fun i => [(2, .ptr 0 0), (5, .v (.int .i64 (lastI l i : Int))), (8, lvL kl l), (9, .v (.int .i64 (l.length : Int))), (10, .v (.int .i64 (i : Int)))]) (fun i => [(0, { cells := [.sl k (ss.map stc)], sz := 1, elem := (26), st := 0 })]) (fun i n => i ≤ l.length ∧ (∀ j, j < i → okI ss.length l j = true) ∧ 0 < n) (fun i => l.length - i) (0) ⟨J, J, J, J, J, trivial⟩ ⟨(by repeat (first | exact g0 | refine g1 (by decide) ?_)), trivial⟩ ⟨Nat.zero_le _, fun j hj => absurd hj om, om⟩ ?_
 rintro i n hF
 change WC _ _ _ _ _ (_ :: _) (_ :: _) n _
 obtain ⟨hi, hok, hn⟩ := hF
 refine Rg 1 J <| aA (bR J J) J <| aT (fun h11 => ?_) (fun h11 => ?_)
 rotate_left
 ·refine Wn <| aS J <| aW <| aQ <| aR J <| Rg 1 J <| Ua J J <| Wn <| aK <| post (n := 0) (.inr J) J ?_ dD
  exact congrArg (fun z => LV.v (.bool z)) (show true = VSet ss.length l from (lA fun j hj => hok j om).symm)
 refine Wn <| aN J <| aD <| aI <| Rg 3 J <| aA (bX J J J J J om J) J <| aA (dN J J J) J <| Ua J J <| Wn <| aC <| Rg 10 J <| Um J J <| Um J J <| aA (oLeq J J) J <| aT (fun h16 => ?_) (fun h16 => ?_)
 ·refine Um J J <| K1 J J <| K1 J J <| K1 J J <| K1 J J <| K1 J J <| aA (bI J J) J <| Nk [2,7,8,9,10,18,19,20,21,22,23] J <| aN J <| aC <| Rg 1 J <| Ua J J <| Wn <| aV <| aP <| bT <| aP <| post (n := 0) (.inr J) J ?_ dD
  exact congrArg (fun z => LV.v (.bool z)) (show false = VSet ss.length l from (jE (i := i) om (okI_no (.inl om))).symm)
 refine Um J J <| aH J (dQ J) J <| aH J (bF J J J J J) J <| aH J (aO J J gG J J) J ?_
 refine aH J (aX J J) J <| aH J (fH J J) J <| aT (fun h22 => ?_) (fun h22 => ?_)
 ·refine aA (bJ J J) J <| Nk [2,7,8,9,10,18,19,20,21,22,23] J <| aN J <| aC <| Rg 1 J <| Ua J J <| Wn <| aV <| aP <| bT <| aP <| post (n := 0) (.inr J) J ?_ dD
  exact congrArg (fun z => LV.v (.bool z)) (show false = VSet ss.length l from (jE (i := i) om (okI_no (.inr om))).symm)
 refine aA (bJ J J) J <| Nk [2,7,8,9,10,18,19,20,21,22,23] J <| aS J <| aD <| aE (z := 2) J <| Um J J <| Ua J J <| Wn <| aF <| aE (z := 2) J <| aA (cI (((i + 1 : Nat) : Int)) (aM J J om) om) J <| Um J J <| Wn <| aG <| ⟨i + 1, ⟨J, J, J, J, J, trivial⟩, ⟨gG, trivial⟩, ⟨om, fun j hj => ?_, om⟩, by show l.length - (i + 1) < l.length - i; omega⟩
 by_cases e : j = i
 ·rw [e]; exact okI_yes om om
 ·exact hok j om
end Go.Proofs.Ytcblgjaomljikaa
namespace Go.Proofs.Ytcblgjaomljikaa
open Go.Ab Go.RowKit
theorem succ_round (n : Nat) (H : Hp) (u ac nxt : X) (t t0 : Int) (hn : 14 < n) (hu : getH H 1 = some { cells := xc (u), sz := 4, elem := (114), st := 0 }) (ht : getH H 4 = some { cells := [.v (.int .i64 (t0))], sz := 1, elem := (3), st := 0 }) (hub : Bd 34359738368 u.1) (hnb : Bd 34359738368 nxt.1) : WC Try.prog T E0 Try.f138.ntmps (rfA (codeOf Try.f138)) [(15, .agg (xc ac ++ xc nxt)), (14, .v (.int .i64 (t : Int))), (3, .ptr 0 0), (5, .ptr 1 0), (7, .ptr 4 0)] H n (fun x e1 h1 n1 => x = .normal ∧ WC Try.prog T E0 Try.f138.ntmps (rfB (codeOf Try.f138)) e1 h1 n1 (fun x _ h2 n2 => SucR u.1 nxt.1 x ∧ n ≤ n2 ∧ getH h2 4 = some { cells := [.v (.int .i64 (t))], sz := 1, elem := (3), st := 0 } ∧ ∀ r o, r ≠ 4 → r < n → getH H r = some o → getH h2 r = some o)) := by
 refine Rg 1 J <| Ua J J <| Wn <| aE (z := 2) J <| bE (eZ J) J <| aU (cL (cs' := xc ac ++ xc nxt) J J J g0 J J J J) <| Wn <| ⟨rfl, ?_⟩
 refine cN <| Rg 2 J <| Um J J <| aU (cL (cs' := [.v (.int .i64 (t : Int))]) J J J (by repeat (first | exact g0 | exact hu | exact ht | refine g1 om ?_)) J J J J) ?_
 refine Wn <| Rg 5 J <| aA (aO (l := lvX u) J J (by repeat (first | exact g0 | exact hu | exact ht | refine g1 om ?_)) J J) J ?_
 refine aA (bF J J J J J) J <| aA (aO (l := lvX nxt) J J (by repeat (first | exact g0 | exact hu | exact ht | refine g1 om ?_)) J J) J ?_
 refine aA (aJ J (rcmp_run u nxt hub hnb) (bK (by intro c hc; simp only [List.mem_cons, List.not_mem_nil, or_false] at hc; rcases hc with rfl | rfl; exact oG; exact oG))) J <| aA (bR J J) J <| aT (fun h21 => ?_) (fun h21 => ?_)
 ·refine Wn <| bU J <| kD <| gD J ?_
  have hlt : u.1 < nxt.1 := by have := lY.1 h21; rw [Rat.sub_eq_add_neg] at this; grind
  exact ⟨.inl ⟨hlt, rfl⟩, om, (by repeat (first | exact g0 | exact hu | exact ht | refine g1 om ?_)), (fun r o hr hn h => by repeat (first | exact h | refine g1 om ?_))⟩
 refine Wn <| cC J <| cP <| cD ?_
 have hlt : ¬ u.1 < nxt.1 := fun h => h21 (lY.2 (by rw [Rat.sub_eq_add_neg]; grind))
 exact ⟨.inr ⟨hlt, rfl⟩, om, (by repeat (first | exact g0 | exact hu | exact ht | refine g1 om ?_)), (fun r o hr hn h => by repeat (first | exact h | refine g1 om ?_))⟩
theorem shares_it (k s : Nat) (ss : List Go.Ab.ST) (u : X) (C : RC) (hps : C.ps = #[14, 15]) (hasg : C.asg = rfA (codeOf Try.f138)) (hbody : C.body = rfB (codeOf Try.f138)) (hfit : Fits Try.f138.ntmps [(3, .ptr 0 0), (5, .ptr 1 0), (7, .ptr 4 0)] C.s0) (hs : s < ss.length) (hc : 1 ≤ (ss.getD s default).2.2.length) (hb8 : (brs ss s).length ≤ 1000) (hbn : ∀ b, b ∈ (brs ss s) → VN b.2) (hub : Bd 34359738368 u.1) : WIt Try.prog T E0 C Try.f172.ntmps (codeOf Try.f172) (argsEnv 0 [.fn (.yield (C.d + 1)) [] [], .ptr 9 0, .ptr 10 0]) [(10, { cells := [.v (.int .i64 (s))], sz := 1, elem := (3), st := 0 }), (9, { cells := [.sl k (ss.map stc)], sz := 1, elem := (26), st := 0 }), (4, { cells := [.v (.int .i64 (s))], sz := 1, elem := (3), st := 0 }), (1, { cells := xc (u), sz := 4, elem := (114), st := 0 }), (0, { cells := [.sl k (ss.map stc)], sz := 1, elem := (26), st := 0 })] 14 none (fun p' x e' h' n' => (x = .normal ∨ x = .ret) ∧ (∃ ls, resE e' T h' Try.f172.results.toList = some ls) ∧ (p' = none ∨ p' = some (.exit 0)) ∧ getH h' 4 = some { cells := [.v (.int .i64 (sucF (brs ss s) u.1 s))], sz := 1, elem := (3), st := 0 }) := by
 change WIt _ _ _ _ _ _ [(0, .fn (.yield (C.d + 1)) [] []), (1, .ptr 9 0), (2, .ptr 10 0)] _ _ _ _
 refine WIt.reg (z := 1) J <| bE (eZ J) J <| Wn <| WIt.reg (z := 11) J <| aA (bF J J J J J) J <| aA (aO J J gG J J) J ?_
 refine aA (aO J J gG J J) J ?_
 refine aA (bX (j := s) J J J J om om J) J <| aA (oFa J J J J J) J <| aA (dN J J J) J <| aA (bX (j := 0) J J J J om om J) J <| aA (oFa J J J J J) J <| aA (bD (b := .sl ((ss.getD s default).2.2.getD 0 default).2.1 ((brs ss s).map brc)) (dN J J J) J) J <| aA (aX J J) J <| Um J J <| Wn <| WIt.weak [(0, _), (4, _), (16, _), (17, _), (18, _)] ⟨J, J, J, J, J, trivial⟩ <| WIt.block1 <| WIt.loopV (α := Nat × X × Int) (fun ⟨i, ac, t⟩ => [(0, .fn (.yield (C.d + 1)) [] []), (4, .ptr 14 0), (16, .sl ((ss.getD s default).2.2.getD 0 default).2.1 ((brs ss s).map brc)), (17, .v (.int .i64 ((brs ss s).length : Int))), (18, .v (.int .i64 (i : Int)))]) (fun ⟨i, ac, t⟩ => [(14, { cells := xc (ac), sz := 4, elem := (114), st := 0 }), (4, { cells := [.v (.int .i64 (t))], sz := 1, elem := (3), st := 0 }), (1, { cells := xc (u), sz := 4, elem := (114), st := 0 })]) (fun ⟨i, ac, t⟩ n => i ≤ (brs ss s).length ∧ ac.1 = psum (brs ss s) i ∧ sucG (brs ss s) u.1 ((brs ss s).length - i) i t = sucF (brs ss s) u.1 s ∧ 14 < n) (fun ⟨i, ac, t⟩ => (brs ss s).length - i) (0, x0, (s : Int)) ⟨J, J, J, J, J, trivial⟩ ⟨gG, gG, gG, trivial⟩ ⟨Nat.zero_le _, rfl, rfl, om⟩ ?_
 rintro ⟨i, ac, t⟩ n hF
 change WIt _ _ _ _ _ _ [(0, .fn (.yield (C.d + 1)) [] []), (4, .ptr 14 0), (16, .sl ((ss.getD s default).2.2.getD 0 default).2.1 ((brs ss s).map brc)), (17, .v (.int .i64 ((brs ss s).length : Int))), (18, .v (.int .i64 (i : Int)))] ([(14, { cells := xc (ac), sz := 4, elem := (114), st := 0 }), (4, { cells := [.v (.int .i64 (t))], sz := 1, elem := (3), st := 0 }), (1, { cells := xc (u), sz := 4, elem := (114), st := 0 })]) n _ _
 obtain ⟨hi, hac, hsu, hn⟩ := hF
 refine WIt.reg (z := 1) J <| aA (bR J J) J <| aT (fun h19 => ?_) (fun h19 => ?_)
 rotate_left
 ·refine Wn <| WIt.cF J <| WIt.exits <| loopY_exit <| afterY0_exit J ?_
  exact ⟨.inl J, ⟨_, rfl⟩, .inl J, by rw [← hsu, sucG_end om]; exact gG⟩
 refine Wn <| WIt.cT J <| WIt.skips <| WIt.block ?_
 have hm := bP (us := (brs ss s)) (i := i) om
 have hvb := hbn _ hm
 have hpb := oR (bs := (brs ss s)) i om (fun j hj => decide_eq_true (hbn _ (bP (us := (brs ss s)) (i := j) om)))
 rw [← hac] at hpb
 have hnv : (xadd ac (nx ((brs ss s).getD i default).2)).1 = psum (brs ss s) (i + 1) := by show ac.1 + nq ((brs ss s).getD i default).2 = _; rw [hac]; rfl
 have hnb : Bd 34359738368 (xadd ac (nx ((brs ss s).getD i default).2)).1 := (hpb.add hvb.bd).mono om
 refine WIt.reg (z := 4) J <| aA (bX J J J J J om J) J <| aA (dN (l := .agg (brc ((brs ss s).getD i default))) J J J) J <| bE (eZ J) J <| aU (cL (cs' := brc ((brs ss s).getD i default)) J J J g0 J J J J) <| Wn <| WIt.draw (z := 7) J kR <| aL (aO (l := lvX ac) J J gG J J) J ?_
 refine aL (bF J J J J J) J <| aL (aO (l := lvM ((brs ss s).getD i default).2) J J gG J J) J ?_
 refine aL (bD (b := lvX (nx ((brs ss s).getD i default).2)) (aJ J (pS ((brs ss s).getD i default).2 hvb.i64.1 hvb.i64.2 hvb.all3.2.2) (bK (by intro c hc; simp only [List.mem_cons, List.not_mem_nil, or_false] at hc; rcases hc with rfl; exact oG))) J) J <| aL (bD (b := lvX (xadd ac (nx ((brs ss s).getD i default).2))) (aJ J (pV ac (nx ((brs ss s).getD i default).2) (hpb.mono om) (hvb.bd.mono om)) (bK (by intro c hc; simp only [List.mem_cons, List.not_mem_nil, or_false] at hc; rcases hc with rfl | rfl; exact oG; exact oG))) J) J <| WD.S (eZ J) J <| dB (cL (cs' := xc (xadd ac (nx ((brs ss s).getD i default).2))) J J J g0 J J J J) <| bO (iS (rn n) (by simp only [List.reverse_cons, List.reverse_nil, List.nil_append, List.cons_append, List.map_cons, List.map_nil, ren, keys, Nat.add_assoc, rn_add, show rn n 14 = 0 from rN om]; kernel_rfl)) J <| WIt.weak [(0, _), (4, _), (6, _), (7, _), (16, _), (17, _), (18, _)] ⟨J, J, J, J, J, J, J, trivial⟩ <| WIt.assoc <| WIt.regy (z := 8) J <| WYd.U (dQ J) J <| WYd.U (bF J J J J J) J <| WYd.U (aO J J gG J J) J ?_
 refine WYd.U (aO (l := lvX ac) J J gG J J) J ?_
 refine WYd.U (aO (l := lvX (xadd ac (nx ((brs ss s).getD i default).2))) J J gG J J) J ?_
 refine WYd.U (eU (cs := xc ac ++ xc (xadd ac (nx ((brs ss s).getD i default).2))) J J J J J) J <| WYd.weakH (((n + 1 + 4 + 5), { cells := xc ((xadd ac (nx ((brs ss s).getD i default).2))), sz := 4, elem := (114), st := 0 }) :: ((n + 1 + 2), { cells := brc ((brs ss s).getD i default), sz := 3, elem := (34), st := 0 }) :: [(14, { cells := xc (ac), sz := 4, elem := (114), st := 0 }), (4, { cells := [.v (.int .i64 (t))], sz := 1, elem := (3), st := 0 }), (1, { cells := xc (u), sz := 4, elem := (114), st := 0 })]) (subsM.get ⟨gG, gG, gG, gG, gG, trivial⟩) ?_
 refine WYd.Y (x1 := .v (.int .i64 ((brs ss s).getD i default).1)) (x2 := .agg (xc ac ++ xc (xadd ac (nx ((brs ss s).getD i default).2)))) (p1 := 14) (p2 := 15) (asg := rfA (codeOf Try.f138)) (body := rfB (codeOf Try.f138)) (e0 := [(3, .ptr 0 0), (5, .ptr 1 0), (7, .ptr 4 0)]) (N0 := Try.f138.ntmps) J J J hps hasg hbody J hfit J J (succ_round ((n + 1 + 4 + 7) + 8) (((n + 1 + 4 + 5), { cells := xc ((xadd ac (nx ((brs ss s).getD i default).2))), sz := 4, elem := (114), st := 0 }) :: ((n + 1 + 2), { cells := brc ((brs ss s).getD i default), sz := 3, elem := (34), st := 0 }) :: [(14, { cells := xc (ac), sz := 4, elem := (114), st := 0 }), (4, { cells := [.v (.int .i64 (t))], sz := 1, elem := (3), st := 0 }), (1, { cells := xc (u), sz := 4, elem := (114), st := 0 })]) u ac (xadd ac (nx ((brs ss s).getD i default).2)) ((brs ss s).getD i default).1 t om gG gG hub hnb) ?_
 rintro x h' n' ⟨hsr, hn', h4, hkk⟩
 refine WN.O <| dZ (fun h33 => ?_) (fun h33 => ?_)
 rotate_left
 ·obtain ⟨hlt, rfl⟩ := sucR_stop hsr h33
  refine aA (fN J) J <| Wn <| WIt.weak [(0, _), (4, _), (7, _), (16, _), (17, _), (18, _), (34, _)] ⟨J, J, J, J, J, J, J, trivial⟩ <| WIt.cT J <| WIt.rets <| afterY_ret <| loopY_ret <| afterY0_ret ?_
  exact ⟨.inr J, ⟨_, rfl⟩, .inr J, by rw [← hsu, sucG_stop om (by rw [← hnv]; exact hlt)]; exact h4⟩
 obtain ⟨hlt, rfl⟩ := sucR_go hsr h33
 refine aA (fN J) J <| Wn <| WIt.weak [(0, _), (4, _), (7, _), (16, _), (17, _), (18, _), (34, _)] ⟨J, J, J, J, J, J, J, trivial⟩ <| WIt.cF J <| WIt.skips <| WIt.reg1z (z := 2) J <| aA (aO (l := lvX (xadd ac (nx ((brs ss s).getD i default).2))) J J (hkk _ _ om om gG) J J) J ?_
 refine aU (cL (cs' := xc (xadd ac (nx ((brs ss s).getD i default).2))) J J J (hkk _ _ om om gG) J J J J) ?_
 refine Wn <| qJ <| WIt.reg1z (z := 2) J <| aA (cI (((i + 1 : Nat) : Int)) (aM J J om) om) J <| Um J J <| Wn <| loopY_normal <| ⟨⟨i + 1, (xadd ac (nx ((brs ss s).getD i default).2)), ((brs ss s).getD i default).1⟩, ⟨J, J, J, J, J, trivial⟩, ⟨g0, g1 om h4, g1 om (hkk _ _ om om gG), trivial⟩, ⟨om, by show ac.1 + nq ((brs ss s).getD i default).2 = _; rw [hac]; rfl, (sucG_go (i := i) (t := t) om (by rw [← hnv]; exact hlt)).symm.trans hsu, om⟩, by show (brs ss s).length - (i + 1) < (brs ss s).length - i; omega⟩
end Go.Proofs.Ytcblgjaomljikaa
namespace Go.Proofs.Ytcblgjaomljikaa
open Go.Ab Go.RowKit
theorem eqOkS : ∀ t, E0 t = true → EqOk Try.prog t := by
 intro t ht
 have h : (t = 28 ∨ t = 130) ∨ t = 34 := by simpa [E0] using ht
 rcases h with (rfl | rfl) | rfl
 ·exact eqOk_pair kR Try.underlying28 kR (by decide) (by decide) Try.underlying3 Try.underlying3 kR kR J J kR
 ·exact eqOk_arr kR Try.underlying130 J Try.underlying4 kR kR kR
 ·exact eqOk_nest kR Try.underlying34 kR (by decide) (by decide) Try.underlying3 kR Try.underlying28 kR (by decide) (by decide) Try.underlying3 Try.underlying3 kR kR J kR J J J J kR
theorem shares_mk (k s : Nat) (ss : List Go.Ab.ST) (H : Hp) (n : Nat) : WC Try.prog T E0 Try.f102.ntmps (codeOf Try.f102) (argsEnv 0 [lvMo k ss, .v (.int .i64 (s : Int))]) H n (fun x e' h' n' => (x = .normal ∨ x = .ret) ∧ ∃ ls', resE e' T h' Try.f102.results.toList = some ls' ∧ resultLV ls' = .fn (.func 172) [] [.ptr n 0, .ptr (n + 1) 0] ∧ h' = (n + 1, { cells := [.v (.int .i64 (s))], sz := 1, elem := (3), st := 0 }) :: (n, { cells := [.sl k (ss.map stc)], sz := 1, elem := (26), st := 0 }) :: H ∧ n' = n + 5) := by
 change WC _ _ _ _ _ [(0, _), (1, _)] _ _ _
 refine Rg 3 J <| bE (eW J J) J <| bE (eW J J) J <| Ua J J <| Wn <| Rg 2 J <| aA (oMf J) J <| Ua J J <| Wn <| aK ?_
 exact ⟨.inr J, _, rfl, rfl, rfl, rfl⟩
theorem suc_run (k s : Nat) (ss : List Go.Ab.ST) (u : X) (hs : s < ss.length) (hc : 1 ≤ (ss.getD s default).2.2.length) (hb8 : (brs ss s).length ≤ 1000) (hbn : ∀ b, b ∈ (brs ss s) → VN b.2) (hub : Bd 34359738368 u.1) : Run Try.prog T E0 (.call 138 [lvMo k ss, .v (.int .i64 (s : Int)), lvX u] (.v (.int .i64 (sucF (brs ss s) u.1 s : Int)))) := by
 refine WLp.call typesOk eqOkS Try.checked.mixed Try.func138 J J (dG J) ?_ (by simp)
 change WLp _ _ _ _ _ [(0, lvMo k ss), (1, .v (.int .i64 (s : Int))), (2, lvX u)] _ _ _
 refine WLp.reg (z := 3) J <| bE (eW J J) J <| bE (eW J J) J <| Ua J J <| Wn <| WLp.reg (z := 3) J <| Um J J <| bE (eZ J) J <| aU (cL (cs' := [_]) J J J J J J J J) <| Wn <| WLp.assoc <| WLp.weakM [(4, { cells := [.v (.int .i64 (s))], sz := 1, elem := (3), st := 0 }), (1, { cells := xc (u), sz := 4, elem := (114), st := 0 }), (0, { cells := [.sl k (ss.map stc)], sz := 1, elem := (26), st := 0 })] ⟨J, J, J, trivial⟩ <| WLp.regn (z := 3) J <| oU (aO (l := .agg [_]) J J J J J) J <| oU (dQ J) J <| WN.G (Φ := fun r h' n' => r = .fn (.func 172) [] [.ptr 9 0, .ptr 10 0] ∧ h' = [(10, { cells := [.v (.int .i64 (s))], sz := 1, elem := (3), st := 0 }), (9, { cells := [.sl k (ss.map stc)], sz := 1, elem := (26), st := 0 }), (4, { cells := [.v (.int .i64 (s))], sz := 1, elem := (3), st := 0 }), (1, { cells := xc (u), sz := 4, elem := (114), st := 0 }), (0, { cells := [.sl k (ss.map stc)], sz := 1, elem := (26), st := 0 })] ∧ n' = 14) J J J J (dG J) J (shares_mk k s ss _ 9) ?_
 rintro r h' n' ⟨rfl, rfl, rfl⟩
 refine WN.nil <| WLp.block <| WLp.range (gf := 172) J Try.func172 J J (dG J) ?_
 intro C hps hasg hbody hfit
 refine WIt.mono (shares_it k s ss u C hps hasg hbody (hfit.weak ⟨J, J, J, trivial⟩) hs hc hb8 hbn hub) ?_
 rintro p' x e' h' n' ⟨hx, hls, hp, h4⟩
 refine ⟨hx, hls, ?_⟩
 have JJ : WLp Try.prog T E0 Try.f138.ntmps (codeR (codeR (codeR (codeOf Try.f138)))) [(7, .ptr 4 0)] h' n' (fun x e' h' n' => (x = .normal ∨ x = .ret) ∧ ∃ ls, resE e' T h' Try.f138.results.toList = some ls ∧ resultLV ls = .v (.int .i64 (sucF (brs ss s) u.1 s : Int))) := by
  refine WLp.reg (z := 2) J <| aA (aO (l := .v (.int .i64 (sucF (brs ss s) u.1 s : Int))) J J h4 J J) J <| Ua J J <| Wn <| WLp.ret ?_
  exact ⟨.inr J, _, rfl, rfl⟩
 rcases hp with rfl | rfl
 ·exact WLp.weak [(7, _)] ⟨J, trivial⟩ JJ
 ·exact WLp.weak [(7, _)] ⟨J, trivial⟩ JJ
end Go.Proofs.Ytcblgjaomljikaa
namespace Go.Proofs.Ytcblgjaomljikaa
open Go.Ab Go.RowKit
theorem leq_run (k k' : Nat) (l l' : List Int) (ll : l.length < 1099511627776) : Run Try.prog T E0 (.call 22 [lvL k l, lvL k' l'] (.v (.bool (decide (l = l'))))) := by
 refine bC Try.func22 J J (dG J) <| Rg 1 J <| Ua J J <| Wn <| aC <| Rg 5 J <| Um J J <| aA (aX J J) J <| Um J J <| aA (aX J J) J <| aA (gS J J) J <| aT (fun h10 => ?_) (fun h10 => ?_)
 ·refine Wn <| aN J <| aC <| Rg 1 J <| Ua J J <| Wn <| aV <| post (n := 0) (.inr J) J ?_ dD
  exact congrArg (fun z => LV.v (.bool z)) (show false = decide (l = l') from (decide_eq_false fun h => h10 (by rw [h])).symm)
 refine Wn <| aS J <| aD <| aC <| Rg 3 J <| Um J J <| aA (aX J J) J <| Um J J <| Wn <| aI <| aZ (α := Nat) (fun i => [(0, lvL k l), (1, lvL k' l'), (12, .v (.int .i64 (l.length : Int))), (13, .v (.int .i64 (i : Int)))]) (fun i => []) (fun i n => i ≤ l.length ∧ l.take i = l'.take i) (fun i => l.length - i) (0) ⟨J, J, J, J, trivial⟩ trivial ⟨Nat.zero_le _, by simp⟩ ?_
 rintro i n hF
 change WC _ _ _ _ _ (_ :: _) ([]) n _
 obtain ⟨hi, ha⟩ := hF
 refine Rg 1 J <| aA (bR J J) J <| aT (fun h14 => ?_) (fun h14 => ?_)
 rotate_left
 ·refine Wn <| aS J <| aW <| aQ <| aR J <| Rg 1 J <| Ua J J <| Wn <| aK <| post (n := 0) (.inr J) J ?_ dD
  exact congrArg (fun z => LV.v (.bool z)) (show true = decide (l = l') from (decide_eq_true (by rw [List.take_of_length_le om, List.take_of_length_le om] at ha; exact ha)).symm)
 refine Wn <| aN J <| aD <| aI <| Rg 2 J <| Um J J <| Ua J J <| Wn <| bV (z := 9) J kR <| Dm J J <| Dm J J <| aL (bX (j := i) J J J J om om J) J <| aL (dN J J J) J <| Dm J J <| Dm J J <| aL (bX (j := i) J J J J om om J) J <| aL (dN J J J) J <| aL (gS J J) J <| WD.D (fun h24 => ?_) (fun h24 => ?_)
 rotate_left
 ·refine bO (aY kR) J <| Ck [0,1,12,13,24] J <| cC J <| cP <| aF <| aE (z := 2) J <| aA (cI (((i + 1 : Nat) : Int)) (aM J J om) om) J <| Um J J <| Wn <| aG <| ⟨i + 1, ⟨J, J, J, J, trivial⟩, trivial, ⟨om, eqL_take ha om om om⟩, by show l.length - (i + 1) < l.length - i; omega⟩
 refine bO (aY kR) J <| Ck [0,1,12,13,24] J <| bU J <| Rg 1 J <| Ua J J <| Wn <| aK <| aP <| bT <| aP <| post (n := 0) (.inr J) J ?_ dD
 exact congrArg (fun z => LV.v (.bool z)) (show false = decide (l = l') from (decide_eq_false (eqL_no (i := i) om om om)).symm)
end Go.Proofs.Ytcblgjaomljikaa
namespace Go.Proofs.Ytcblgjaomljikaa
open Go.Ab Go.RowKit
theorem rK (i : Nat) : Run Try.prog T E0 (.call 127 [.v (.int .i64 (i : Int))] (lvC (lpc i))) := by
 refine bC Try.func127 J J (dG J) <| Rg 1 J <| bE (eZ J) J <| Wn <| Rg 7 J <| aA (eU (cs := [_, _]) J J J J J) J <| Um J J <| aA (eU (cs := [_, _]) J J J J J) J <| aA (eU (cs := [_, _, _]) J J J J J) J <| aA (cJ (cs := [_, _, _]) (rows := [[_, _, _]]) J J (by decide) J J J) J <| aA (eU (cs := [_, _, _]) J J J J J) J <| aU (cL (cs' := [_, _, _]) J J J J J J J J) <| Wn <| aK <| post (n := 0) (.inr J) J ?_ dD
 rfl
end Go.Proofs.Ytcblgjaomljikaa
namespace Go.Proofs.Ytcblgjaomljikaa
open Go.Ab Go.RowKit
theorem idxi_run (k : Nat) (ns : List Int) (g : FuncId) (cap : List LV) (p : Int → Bool) (hcap : ∀ c, c ∈ cap → Go.Ab.Data c) (ln : ns.length < 4611686018427387904) (hp : ∀ a, a ∈ ns → Run Try.prog T E0 (.call g ([.v (.int .i64 a)] ++ cap) (.v (.bool (p a))))) : Run Try.prog T E0 (.call 160 [lvL k ns, .fn (.func g) [] cap] (.v (.int .i64 (fidx p ns)))) := by
 refine bC Try.func160 J J (dG J) <| Rg 1 J <| Ua J J <| Wn <| aC <| Rg 3 J <| Um J J <| aA (aX J J) J <| Um J J <| Wn <| aI <| aZ (α := Nat) (fun i => [(0, lvL k ns), (1, .fn (.func g) [] cap), (7, .v (.int .i64 (ns.length : Int))), (8, .v (.int .i64 (i : Int)))]) (fun i => []) (fun i n => i ≤ ns.length ∧ (ns.take i).any p = false) (fun i => ns.length - i) (0) ⟨J, J, J, J, trivial⟩ trivial ⟨Nat.zero_le _, by simp⟩ ?_
 rintro i n hF
 change WC _ _ _ _ _ (_ :: _) ([]) n _
 obtain ⟨hi, ha⟩ := hF
 refine Rg 1 J <| aA (bR J J) J <| aT (fun h9 => ?_) (fun h9 => ?_)
 rotate_left
 ·refine Wn <| aS J <| aW <| aQ <| aR J <| Rg 1 J <| Ua J J <| Wn <| aK <| post (n := 0) (.inr J) J ?_ dD
  exact congrArg (fun z => LV.v (.int .i64 z)) (mR ha om).symm
 refine Wn <| aN J <| aD <| aI <| Rg 2 J <| Um J J <| Ua J J <| Wn <| Rg 6 J <| Um J J <| Um J J <| Um J J <| aA (bX J J J J J om J) J <| aA (dN J J J) J <| aA (oCallVD J J (hp _ (bP om)) (data3 d0 (dII _) hcap)) J <| dZ (fun h16 => ?_) (fun h16 => ?_)
 rotate_left
 ·refine Wn <| cC J <| cP <| aF <| aE (z := 2) J <| aA (cI (((i + 1 : Nat) : Int)) (aM J J om) om) J <| Um J J <| Wn <| aG <| ⟨i + 1, ⟨J, J, J, J, trivial⟩, trivial, ⟨om, qD ha om h16⟩, by show ns.length - (i + 1) < ns.length - i; omega⟩
 refine Wn <| bU J <| Rg 2 J <| Um J J <| Ua J J <| Nk [4] J <| aK <| aP <| bT <| aP <| post (n := 0) (.inr J) J ?_ dD
 exact congrArg (fun z => LV.v (.int .i64 z)) (pG ha om h16).symm
theorem coni_run (k : Nat) (ns : List Int) (g : FuncId) (cap : List LV) (p : Int → Bool) (hcap : ∀ c, c ∈ cap → Go.Ab.Data c) (ln : ns.length < 4611686018427387904) (hp : ∀ a, a ∈ ns → Run Try.prog T E0 (.call g ([.v (.int .i64 a)] ++ cap) (.v (.bool (p a))))) : Run Try.prog T E0 (.call 81 [lvL k ns, .fn (.func g) [] cap] (.v (.bool (ns.any p)))) := by
 refine bC Try.func81 J J (dG J) <| Rg 1 J <| Ua J J <| Wn <| Rg 5 J <| Um J J <| Um J J <| aA (jW [] [lvL k ns, .fn (.func g) [] cap] J (idxi_run k ns g cap p hcap ln hp) (SnapB.datas (by intro c hc; simp only [List.mem_cons, List.not_mem_nil, or_false] at hc; rcases hc with rfl | rfl; exact lN _ _; exact dfn d0 hcap)) nP) J <| aA (fH J J) J <| Ua J J <| Wn <| aK <| post (n := 0) (.inr J) J ?_ dD
 exact congrArg (fun z => LV.v (.bool z)) (jR p ns)
end Go.Proofs.Ytcblgjaomljikaa
namespace Go.Proofs.Ytcblgjaomljikaa
open Go.Ab Go.RowKit
theorem idx5_run (k : Nat) (ns : List Go.Ab.ST) (g : FuncId) (cap : List LV) (p : Go.Ab.ST → Bool) (hcap : ∀ c, c ∈ cap → Go.Ab.Data c) (ln : ns.length < 4611686018427387904) (hp : ∀ a, a ∈ ns → Run Try.prog T E0 (.call g ([.agg (stc a)] ++ cap) (.v (.bool (p a))))) : Run Try.prog T E0 (.call 213 [.sl k (ns.map stc), .fn (.func g) [] cap] (.v (.int .i64 (fidx p ns)))) := by
 refine bC Try.func213 J J (dG J) <| Rg 1 J <| Ua J J <| Wn <| aC <| Rg 3 J <| Um J J <| aA (aX J J) J <| Um J J <| Wn <| aI <| aZ (α := Nat) (fun i => [(0, .sl k (ns.map stc)), (1, .fn (.func g) [] cap), (7, .v (.int .i64 (ns.length : Int))), (8, .v (.int .i64 (i : Int)))]) (fun i => []) (fun i n => i ≤ ns.length ∧ (ns.take i).any p = false) (fun i => ns.length - i) (0) ⟨J, J, J, J, trivial⟩ trivial ⟨Nat.zero_le _, by simp⟩ ?_
 rintro i n hF
 change WC _ _ _ _ _ (_ :: _) ([]) n _
 obtain ⟨hi, ha⟩ := hF
 refine Rg 1 J <| aA (bR J J) J <| aT (fun h9 => ?_) (fun h9 => ?_)
 rotate_left
 ·refine Wn <| aS J <| aW <| aQ <| aR J <| Rg 1 J <| Ua J J <| Wn <| aK <| post (n := 0) (.inr J) J ?_ dD
  exact congrArg (fun z => LV.v (.int .i64 z)) (mR ha om).symm
 refine Wn <| aN J <| aD <| aI <| Rg 2 J <| Um J J <| Ua J J <| Wn <| Rg 6 J <| Um J J <| Um J J <| Um J J <| aA (bX J J J J J om J) J <| aA (dN (l := .agg (stc (ns.getD i default))) J J J) J <| aA (oCallVD J J (hp _ (bP om)) (data3 d0 (by intro c hc; rw [List.mem_singleton] at hc; subst hc; exact .agg _ (pF _)) hcap)) J <| dZ (fun h16 => ?_) (fun h16 => ?_)
 rotate_left
 ·refine Wn <| cC J <| cP <| aF <| aE (z := 2) J <| aA (cI (((i + 1 : Nat) : Int)) (aM J J om) om) J <| Um J J <| Wn <| aG <| ⟨i + 1, ⟨J, J, J, J, trivial⟩, trivial, ⟨om, qD ha om h16⟩, by show ns.length - (i + 1) < ns.length - i; omega⟩
 refine Wn <| bU J <| Rg 2 J <| Um J J <| Ua J J <| Nk [4] J <| aK <| aP <| bT <| aP <| post (n := 0) (.inr J) J ?_ dD
 exact congrArg (fun z => LV.v (.int .i64 z)) (pG ha om h16).symm
theorem con5_run (k : Nat) (ns : List Go.Ab.ST) (g : FuncId) (cap : List LV) (p : Go.Ab.ST → Bool) (hcap : ∀ c, c ∈ cap → Go.Ab.Data c) (ln : ns.length < 4611686018427387904) (hp : ∀ a, a ∈ ns → Run Try.prog T E0 (.call g ([.agg (stc a)] ++ cap) (.v (.bool (p a))))) : Run Try.prog T E0 (.call 189 [.sl k (ns.map stc), .fn (.func g) [] cap] (.v (.bool (ns.any p)))) := by
 refine bC Try.func189 J J (dG J) <| Rg 1 J <| Ua J J <| Wn <| Rg 5 J <| Um J J <| Um J J <| aA (jW [] [.sl k (ns.map stc), .fn (.func g) [] cap] J (idx5_run k ns g cap p hcap ln hp) (SnapB.datas (by intro c hc; simp only [List.mem_cons, List.not_mem_nil, or_false] at hc; rcases hc with rfl | rfl; exact .sl _ _ (cB pF); exact dfn d0 hcap)) nP) J <| aA (fH J J) J <| Ua J J <| Wn <| aK <| post (n := 0) (.inr J) J ?_ dD
 exact congrArg (fun z => LV.v (.bool z)) (jR p ns)
theorem many_run (s : Go.Ab.ST) : Run Try.prog T E0 (.call 190 [.agg (stc s)] (.v (.bool (manyC s)))) := by
 refine bC Try.func190 J J (dG J) <| Rg 2 J <| bE (eW J J) J <| Ua J J <| Wn <| Rg 5 J <| aA (bF J J J J J) J <| aA (aO (l := .sl s.2.1 (s.2.2.map chc)) J J g0 J J) J <| aA (aX J J) J <| aA (dW J J) J <| Ua J J <| Wn <| aK <| post (n := 0) (.inr J) J ?_ dD
 exact congrArg (fun z => LV.v (.bool z)) (by unfold manyC; exact decide_eq_decide.2 om)
theorem chain_run (k : Nat) (ss : List Go.Ab.ST) (hl : ss.length < 4611686018427387904) : Run Try.prog T E0 (.call 136 [lvMo k ss] (.v (.bool (chainB ss)))) := by
 refine bC Try.func136 J J (dG J) <| Rg 2 J <| bE (eW J J) J <| Ua J J <| Wn <| Rg 5 J <| aA (bF J J J J J) J <| aA (aO J J g0 J J) J <| aA (jW [] [.sl k (ss.map stc), .fn (.func 190) [] []] J (con5_run k ss 190 [] manyC d0 hl (fun a _ => many_run a)) (SnapB.datas (by intro c hc; simp only [List.mem_cons, List.not_mem_nil, or_false] at hc; rcases hc with rfl | rfl; exact .sl _ _ (cB pF); exact dfn d0 d0)) nP) J <| aA (fN J) J <| Ua J J <| Wn <| aK <| post (n := 0) (.inr J) J ?_ dD
 rfl
theorem ask1_run (a : NM) (h1 : I64 a.1) (h2 : I64 a.2) : Run Try.prog T E0 (.call 134 [lvM a] (.v (.bool (!vn a)))) := by
 refine bC Try.func134 J J (dG J) <| Rg 2 J <| bE (eW J J) J <| Ua J J <| Wn <| Rg 4 J <| aA (aO (l := lvM a) J J g0 J J) J <| aA (bD (b := .v (.bool (vn a))) (aJ J (lE a h1 h2) dD) J) J <| aA (fN J) J <| Ua J J <| Wn <| aK <| post (n := 0) (.inr J) J ?_ dD
 rfl
theorem ask2_run (k : Nat) (ss : List Go.Ab.ST) (z : Int) : Run Try.prog T E0 (.call 135 [.v (.int .i64 (z : Int)), .ro [.sl k (ss.map stc)]] (.v (.bool (offS ss.length z)))) := by
 refine bC Try.func135 J J (dG J) <| Rg 1 J <| Ua J J <| Wn <| Rg 10 J <| Um J J <| aA (bR J J) J <| aT (fun h5 => ?_) (fun h5 => ?_)
 ·refine Um J J <| K1 J J <| K1 J J <| K1 J J <| K1 J J <| K1 J J <| aA (bI J J) J <| Ua J J <| Wn <| aK <| post (n := 0) (.inr J) J ?_ dD
  exact congrArg (fun z => LV.v (.bool z)) (by first | (show true = _; unfold offS; rw [decide_eq_true h5]; rfl) | (unfold offS; rw [decide_eq_false h5, Bool.false_or]))
 refine Um J J <| aH J (dQ J) J <| aH J (oFa J J J J J) J <| aH J (dN (l := .sl k (ss.map stc)) J J J) J <| aH J (aX J J) J <| aH J (fH J J) J <| aA (bJ J J) J <| Ua J J <| Wn <| aK <| post (n := 0) (.inr J) J ?_ dD
 exact congrArg (fun z => LV.v (.bool z)) (by first | (show true = _; unfold offS; rw [decide_eq_true h5]; rfl) | (unfold offS; rw [decide_eq_false h5, Bool.false_or]))
theorem qA (k kg kn ks : Nat) (ss : List Go.Ab.ST) (goal : List Int) (ns : List NM) (sts : List Int) (hI : ∀ s, s ∈ ss → IS s) (lg : goal.length < 1099511627776) (ln : ns.length < 1099511627776) (hN : IV ns) (ls : sts.length < 1099511627776) : Run Try.prog T E0 (.call 58 [lvMo k ss, lvL kg goal, .sl kn (ns.map mc), lvL ks sts] (.v (.int .i64 (askS ss goal ns sts)))) := by
 refine bC Try.func58 J J (dG J) <| Rg 2 J <| bE (eW J J) J <| Ua J J <| Wn <| aI <| Rg 14 J <| aA (aO (l := lvMo k ss) J J g0 J J) J <| aA (aJ J (mvmodel_run k ss hI) dD) J <| dZ (fun h11 => ?_) (fun h11 => ?_)
 rotate_left
 ·refine aA (fN J) J <| Um J J <| K1 J J <| K1 J J <| K1 J J <| K1 J J <| aA (bI J J) J <| Um J J <| K1 J J <| K1 J J <| aA (bI J J) J <| Ua J J <| Nk [3,4,9] J <| bU J <| Rg 1 J <| Ua J J <| Wn <| aK <| aP <| post (n := 0) (.inr J) J ?_ (.v _)
  exact congrArg (fun z => LV.v (.int .i64 z)) (show _ = askS ss goal ns sts by unfold askS; first | rw [if_pos hA, if_pos h26] | rw [if_pos hA, if_neg (by rw [h26]; decide), if_pos h29] | rw [if_pos hA, if_neg (by rw [h26]; decide), if_neg (by rw [h29]; decide)] | rw [if_neg (fun hq => by obtain ⟨q1, q2, q3⟩ := hq; simp_all)])
 refine aA (fN J) J <| Um J J <| aH J (aO (l := lvMo k ss) J J g0 J J) J <| aH J (dQ J) J <| aH J (aJ J (mset_run k kg ss goal lg) dD) J <| dZ (fun h16 => ?_) (fun h16 => ?_)
 rotate_left
 ·refine aH J (fN J) J <| aA (bJ J J) J <| Um J J <| K1 J J <| K1 J J <| aA (bI J J) J <| Ua J J <| Nk [3,4,9] J <| bU J <| Rg 1 J <| Ua J J <| Wn <| aK <| aP <| post (n := 0) (.inr J) J ?_ (.v _)
  exact congrArg (fun z => LV.v (.int .i64 z)) (show _ = askS ss goal ns sts by unfold askS; first | rw [if_pos hA, if_pos h26] | rw [if_pos hA, if_neg (by rw [h26]; decide), if_pos h29] | rw [if_pos hA, if_neg (by rw [h26]; decide), if_neg (by rw [h29]; decide)] | rw [if_neg (fun hq => by obtain ⟨q1, q2, q3⟩ := hq; simp_all)])
 refine aH J (fN J) J <| aA (bJ J J) J <| Um J J <| aH J (dQ J) J <| aH J (jW [] [.sl kn (ns.map mc), .fn (.func 134) [] []] J (con1_run kn ns 134 [] (fun a => !vn a) (by simp) om (fun a ha => ask1_run a (hN a ha).1 (hN a ha).2)) (SnapB.datas (by intro c hc; simp only [List.mem_cons, List.not_mem_nil, or_false] at hc; rcases hc with rfl | rfl; exact .sl _ _ (cB pE); exact dfn d0 d0)) nP) J <| dZ (fun h21 => ?_) (fun h21 => ?_)
 ·refine aA (bJ J J) J <| Ua J J <| Nk [3,4,9] J <| bU J <| Rg 1 J <| Ua J J <| Wn <| aK <| aP <| post (n := 0) (.inr J) J ?_ (.v _)
  exact congrArg (fun z => LV.v (.int .i64 z)) (show _ = askS ss goal ns sts by unfold askS; first | rw [if_pos hA, if_pos h26] | rw [if_pos hA, if_neg (by rw [h26]; decide), if_pos h29] | rw [if_pos hA, if_neg (by rw [h26]; decide), if_neg (by rw [h29]; decide)] | rw [if_neg (fun hq => by obtain ⟨q1, q2, q3⟩ := hq; simp_all)])
 refine aA (bJ J J) J <| Ua J J <| Nk [3,4,9] J <| cC J ?_
 have hA := show VMo ss = true ∧ VSet ss.length goal = true ∧ ns.any (fun a => !vn a) = false from ⟨h11, h16, by simpa using h21⟩
 refine Rg 4 J <| Um J J <| aA (oMf J) J <| aA (jW [0] [lvL ks sts, .fn (.func 135) [] [.ro [.sl k (ss.map stc)]]] J (coni_run ks sts 135 [.ro [.sl k (ss.map stc)]] (offS ss.length) (by intro c hc; rw [List.mem_singleton] at hc; subst hc; exact .ro _ (by intro c hc; rw [List.mem_singleton] at hc; subst hc; exact .sl _ _ (cB pF))) om (fun a ha => ask2_run k ss a)) (.data (lN _ _) (.fn .nil (.box (ob := { cells := [.sl k (ss.map stc)], sz := 1, elem := (26), st := 0 }) g0 (by simp) (by show (0 : Nat) ≠ 2; decide) (by intro c hc; rw [List.mem_singleton] at hc; subst hc; exact .sl _ _ (cB pF)) .nil) .nil)) (.cons g0 (by show (0 : Nat) ≠ 2; decide) nP)) J <| dZ (fun h26 => ?_) (fun h26 => ?_)
 ·refine Ua J J <| Wn <| bU J <| Rg 1 J <| Ua J J <| Wn <| aK <| aP <| post (n := 0) (.inr J) J ?_ (.v _)
  exact congrArg (fun z => LV.v (.int .i64 z)) (show _ = askS ss goal ns sts by unfold askS; first | rw [if_pos hA, if_pos h26] | rw [if_pos hA, if_neg (by rw [h26]; decide), if_pos h29] | rw [if_pos hA, if_neg (by rw [h26]; decide), if_neg (by rw [h29]; decide)] | rw [if_neg (fun hq => by obtain ⟨q1, q2, q3⟩ := hq; simp_all)])
 refine Ua J J <| Wn <| cC J <| Rg 4 J <| aA (aO (l := lvMo k ss) J J g0 J J) J <| aA (aJ J (chain_run k ss (by have := (VMo_1 h11).wt.len; omega)) dD) J <| dZ (fun h29 => ?_) (fun h29 => ?_)
 rotate_left
 ·refine aA (fN J) J <| Ua J J <| Wn <| bU J <| Rg 1 J <| Ua J J <| Wn <| aK <| aP <| post (n := 0) (.inr J) J ?_ (.v _)
  exact congrArg (fun z => LV.v (.int .i64 z)) (show _ = askS ss goal ns sts by unfold askS; first | rw [if_pos hA, if_pos h26] | rw [if_pos hA, if_neg (by rw [h26]; decide), if_pos h29] | rw [if_pos hA, if_neg (by rw [h26]; decide), if_neg (by rw [h29]; decide)] | rw [if_neg (fun hq => by obtain ⟨q1, q2, q3⟩ := hq; simp_all)])
 refine aA (fN J) J <| Ua J J <| Wn <| cC J <| cP <| aF <| Rg 1 J <| Ua J J <| Wn <| aK <| post (n := 0) (.inr J) J ?_ (.v _)
 exact congrArg (fun z => LV.v (.int .i64 z)) (show _ = askS ss goal ns sts by unfold askS; first | rw [if_pos hA, if_pos h26] | rw [if_pos hA, if_neg (by rw [h26]; decide), if_pos h29] | rw [if_pos hA, if_neg (by rw [h26]; decide), if_neg (by rw [h29]; decide)] | rw [if_neg (fun hq => by obtain ⟨q1, q2, q3⟩ := hq; simp_all)])
end Go.Proofs.Ytcblgjaomljikaa
namespace Go.Proofs.Ytcblgjaomljikaa
open Go.Ab Go.RowKit
theorem suct_run (k : Nat) (ss : List Go.Ab.ST) (z : Int) (u : X) (hC : Chn ss) (h0 : 0 ≤ z) (h1 : z < ss.length) (hub : Bd 34359738368 u.1) : Run Try.prog T E0 (.call 138 [lvMo k ss, .v (.int .i64 z), lvX u] (.v (.int .i64 (sucS ss u.1 z)))) := by
 have := suc_run k z.toNat ss u om (hC.one _ om) (hC.few _ om) (hC.num _ om) hub
 rw [Int.toNat_of_nonneg h0] at this
 exact this
theorem drawn1_run (a : NM) : Run Try.prog T E0 (.call 137 [lvM a] (.v (.bool (offD a)))) := by
 refine bC Try.func137 J J (dG J) <| Rg 2 J <| bE (eW J J) J <| Ua J J <| Wn <| Rg 11 J <| aA (bF J J J J J) J <| aA (aO J J J J J) J <| aA (bR J J) J <| aT (fun h5 => ?_) (fun h5 => ?_)
 ·refine Um J J <| K1 J J <| K1 J J <| K1 J J <| K1 J J <| K1 J J <| aA (bI J J) J <| Ua J J <| Wn <| aK <| post (n := 0) (.inr J) J ?_ dD
  exact congrArg (fun z => LV.v (.bool z)) (by first | (show true = _; unfold offD; rw [decide_eq_true h5]; rfl) | (unfold offD; rw [decide_eq_false h5, Bool.false_or]))
 refine Um J J <| aH J (bF J J J J J) J <| aH J (aO J J J J J) J <| aH J (bF J J J J J) J <| aH J (aO J J J J J) J <| aH J (fH J J) J <| aA (bJ J J) J <| Ua J J <| Wn <| aK <| post (n := 0) (.inr J) J ?_ dD
 exact congrArg (fun z => LV.v (.bool z)) (by first | (show true = _; unfold offD; rw [decide_eq_true h5]; rfl) | (unfold offD; rw [decide_eq_false h5, Bool.false_or]))
theorem qT (kn : Nat) (ns : List NM) (ln : ns.length < 1099511627776) : Run Try.prog T E0 (.call 60 [.sl kn (ns.map mc)] (.v (.int .i64 (drawS ns)))) := by
 refine bC Try.func60 J J (dG J) <| Rg 1 J <| Ua J J <| Wn <| aC <| Rg 7 J <| Um J J <| aA (aX J J) J <| aA (dW J J) J <| aT (fun h5 => ?_) (fun h5 => ?_)
 ·refine Um J J <| K1 J J <| K1 J J <| aA (bI J J) J <| Wn <| aN J <| aC <| Rg 1 J <| Ua J J <| Wn <| aV <| post (n := 0) (.inr J) J ?_ dD
  exact congrArg (fun z => LV.v (.int .i64 z)) (show _ = drawS ns by first | exact drawS_2 h8 | exact drawS_1 h5 h8 | exact drawS_3 h5)
 refine Um J J <| aH J (dQ J) J <| aH J (jW [] [.sl kn (ns.map mc), .fn (.func 137) [] []] J (con1_run kn ns 137 [] offD (by simp) om (fun a ha => drawn1_run a)) (SnapB.datas (by intro c hc; simp only [List.mem_cons, List.not_mem_nil, or_false] at hc; rcases hc with rfl | rfl; exact .sl _ _ (cB pE); exact dfn d0 d0)) nP) J <| dZ (fun h8 => ?_) (fun h8 => ?_)
 ·refine aA (bJ J J) J <| Wn <| aN J <| aC <| Rg 1 J <| Ua J J <| Wn <| aV <| post (n := 0) (.inr J) J ?_ dD
  exact congrArg (fun z => LV.v (.int .i64 z)) (show _ = drawS ns by first | exact drawS_2 h8 | exact drawS_1 h5 h8 | exact drawS_3 h5)
 refine aA (bJ J J) J <| Wn <| aS J <| aD <| Rg 1 J <| Ua J J <| Wn <| aK <| post (n := 0) (.inr J) J ?_ dD
 exact congrArg (fun z => LV.v (.int .i64 z)) (show _ = drawS ns by first | exact drawS_2 h8 | exact drawS_1 h5 h8 | exact drawS_3 h5)
theorem both_run (z r : Int) (g : FuncId) (cap : List LV) (hcap : ∀ c, c ∈ cap → Go.Ab.Data c) (hr : z = 0 → Run Try.prog T E0 (.call g cap (.v (.int .i64 r)))) : Run Try.prog T E0 (.call 57 [.v (.int .i64 (z : Int)), .fn (.func g) [] cap] (.v (.int .i64 (bothS z r)))) := by
 refine bC Try.func57 J J (dG J) <| Rg 1 J <| Ua J J <| Wn <| aC <| Rg 2 J <| Um J J <| aA (gS J J) J <| aT (fun h6 => ?_) (fun h6 => ?_)
 ·refine Wn <| aN J <| aC <| Rg 2 J <| Um J J <| Ua J J <| Wn <| aV <| post (n := 0) (.inr J) J ?_ dD
  exact congrArg (fun z => LV.v (.int .i64 z)) (show _ = bothS z r by unfold bothS; first | rw [if_neg om] | rw [if_pos om])
 refine Wn <| aS J <| aD <| Rg 3 J <| Um J J <| aA (oCallVD J J (hr om) (data3 d0 d0 hcap)) J <| Ua J J <| Wn <| aK <| post (n := 0) (.inr J) J ?_ dD
 exact congrArg (fun z => LV.v (.int .i64 z)) (show _ = bothS z r by unfold bothS; first | rw [if_neg om] | rw [if_pos om])
theorem runc_run (kn : Nat) (ns : List NM) (ln : ns.length < 1099511627776) : Run Try.prog T E0 (.call 59 [.ro [.sl kn (ns.map mc)]] (.v (.int .i64 (drawS ns)))) := by
 refine bC Try.func59 J J (dG J) <| Rg 1 J <| Ua J J <| Wn <| Rg 3 J <| aA (dN (l := .sl kn (ns.map mc)) J J J) J <| aA (aJ J (qT kn ns ln) (bK (by intro c hc; simp only [List.mem_cons, List.not_mem_nil, or_false] at hc; rcases hc with rfl; exact (.sl _ _ (cB pE))))) J <| Ua J J <| Wn <| aK ?_
 exact post (n := 0) (.inr J) J J (by simp)
theorem jointc_run (kn : Nat) (ns : List NM) (ln : ns.length < 1099511627776) : Run Try.prog T E0 (.call 63 [.ro [.sl kn (ns.map mc)]] (.v (.int .i64 (drawS ns)))) := by
 refine bC Try.func63 J J (dG J) <| Rg 1 J <| Ua J J <| Wn <| Rg 3 J <| aA (dN (l := .sl kn (ns.map mc)) J J J) J <| aA (aJ J (qT kn ns ln) (bK (by intro c hc; simp only [List.mem_cons, List.not_mem_nil, or_false] at hc; rcases hc with rfl; exact (.sl _ _ (cB pE))))) J <| Ua J J <| Wn <| aK ?_
 exact post (n := 0) (.inr J) J J (by simp)
theorem run1_run (k ku : Nat) (ss : List Go.Ab.ST) (s : Int) (xs : List X) (hC : Chn ss) (h0 : 0 ≤ s) (h1 : s < ss.length) (lx : xs.length ≤ 200) (hxb : ∀ x, x ∈ xs → Bd 34359738368 x.1) : Run Try.prog T E0 (.call 61 [lvMo k ss, .v (.int .i64 (s : Int)), .sl ku (xs.map xc)] (lvL (kd2 xs.length) (runL ss s (rvs xs)))) := by
 refine bC Try.func61 J J (dG J) <| Rg 2 J <| bE (eW J J) J <| Ua J J <| Wn <| Rg 3 J <| Um J J <| aA (cJ (cs := [_]) (rows := [[_]]) J J (by decide) J J J) J <| Ua J J <| Wn <| aC <| Rg 3 J <| Um J J <| aA (aX J J) J <| Um J J <| Wn <| aI <| aZ (α := Nat × Nat × Int × (List Int)) (fun ⟨i, q, z, out⟩ => [(1, .v (.int .i64 (z : Int))), (3, .ptr 0 0), (7, outW i q 1 (out.map ic)), (12, .sl ku (xs.map xc)), (13, .v (.int .i64 (xs.length : Int))), (14, .v (.int .i64 (i : Int)))]) (fun ⟨i, q, z, out⟩ => outWH i q 1 (3) (out.map ic) [(0, { cells := [.sl k (ss.map stc)], sz := 1, elem := (26), st := 0 })]) (fun ⟨i, q, z, out⟩ n => i ≤ xs.length ∧ out = runL ss s ((rvs xs).take i) ∧ z = runS ss s ((rvs xs).take i) ∧ 0 < q ∧ q < n) (fun ⟨i, q, z, out⟩ => xs.length - i) (0, 1, s, [s]) ⟨J, J, J, J, J, J, trivial⟩ ⟨g0, trivial⟩ ⟨Nat.zero_le _, rfl, rfl, om, om⟩ ?_
 rintro ⟨i, q, z, out⟩ n hF
 change WC _ _ _ _ _ [(1, .v (.int .i64 (z : Int))), (3, .ptr 0 0), (7, outW i q 1 (out.map ic)), (12, .sl ku (xs.map xc)), (13, .v (.int .i64 (xs.length : Int))), (14, .v (.int .i64 (i : Int)))] (outWH i q 1 (3) (out.map ic) [(0, { cells := [.sl k (ss.map stc)], sz := 1, elem := (26), st := 0 })]) n _
 obtain ⟨hi, hout, hz, hq, hqn⟩ := hF
 have hol : out.length = i + 1 := by rw [hout, pZ, List.length_take, oS]; omega
 have hzb := hC.run h0 h1 ((rvs xs).take i)
 rw [← hz] at hzb
 refine Rg 1 J <| aA (bR J J) J <| aT (fun h15 => ?_) (fun h15 => ?_)
 rotate_left
 ·refine Wn <| aS J <| aW <| aQ <| aR J <| Rg 2 J <| Um J J <| Ua J J <| Wn <| aK ?_
  have hin : i = xs.length := by omega
  subst hin
  rw [List.take_of_length_le (by rw [oS]; omega)] at hout
  subst hout
  exact postWs (n := 0) (m := xs.length) (us := (runL ss s (rvs xs)).map ic) (.inr J) J (by decide) (gH (n := 1) (fun _ => rfl)) (cB dic1)
 refine Wn <| aN J <| aD <| aI ?_
 have hm := bP (us := xs) (i := i) om
 refine Rg 4 J <| aA (bX J J J J J om J) J <| aA (dN (l := .agg (xc (xs.getD i default))) J J J) J <| bE (eZ J) J <| aU (cL (cs' := xc (xs.getD i default)) J J J g0 J J J J) <| Wn <| Rg 5 J <| aA (aO (l := lvMo k ss) J J (by repeat (first | exact g0 | refine g1 om ?_ | refine nA om ?_)) J J) J ?_
 refine Um J J <| aA (aO (l := lvX (xs.getD i default)) J J g0 J J) J <| aA (aJ J (suct_run k ss z (xs.getD i default) hC hzb.1 hzb.2 (hxb _ hm)) (bK (by intro c hc; simp only [List.mem_cons, List.not_mem_nil, or_false] at hc; rcases hc with rfl | rfl | rfl; exact oG; exact (.v _); exact oG))) J <| Ua J J <| Wn <| aE (z := 5) J <| Um J J <| Um J J <| aA (cJ (cs := [_]) (rows := [[_]]) J J (by decide) J J J) J ?_
 have hne : out ≠ [] := fun h => by rw [h] at hol; simp at hol
 refine gO (outWH i q 1 (3) (out.map ic) [(0, { cells := [.sl k (ss.map stc)], sz := 1, elem := (26), st := 0 })]) (Hp.le_skip (nA om (gN om J)) (Hp.le_skip (nA om (gN om J)) (Hp.le_refl _))) <| WO.apW (te := ti3) (f := ic) (m := i) (q := q) (us := out) (u := (sucS ss (xs.getD i default).1 z)) hne J J J J J (fun _ => rfl) (by decide) (by show (2 * (out.length + 1) + 256) * 8 ≤ _; omega) om (gN om J) (gN om J) J <| Ua J J <| Wn <| aF <| Ck [1,3,7,12,13,14] J <| aE (z := 2) J <| aA (cI (((i + 1 : Nat) : Int)) (aM J J om) om) J <| Um J J <| Wn <| aG <| ⟨⟨i + 1, _, (sucS ss (xs.getD i default).1 z), out ++ [(sucS ss (xs.getD i default).1 z)]⟩, ⟨J, J, J, J, J, J, trivial⟩, ?_, ⟨om, ?_, ?_, ?_, ?_⟩, by show xs.length - (i + 1) < xs.length - i; omega⟩
 ·exact ⟨g0, g1 om g0, trivial⟩
 ·rw [runL_succ ss s _ (by rw [oS]; omega), ← hout, ← hz, rvs_get om]
 ·rw [cX (by rw [oS]; omega), rP, ← hz, rvs_get om]
 ·omega
 ·omega
theorem mapped_run (k : Nat) (ss : List Go.Ab.ST) (u : X) (hC : Chn ss) (hub : Bd 34359738368 u.1) : Run Try.prog T E0 (.call 64 [lvMo k ss, lvX u] (lvL (kd (mapS ss u.1).length) (mapS ss u.1))) := by
 refine bC Try.func64 J J (dG J) <| Rg 3 J <| bE (eW J J) J <| bE (eW J J) J <| Ua J J <| Wn <| Rg 1 J <| Ua J J <| Wn <| aC <| Rg 4 J <| aA (bF J J J J J) J <| aA (aO J J gG J J) J ?_
 refine aA (aX J J) J <| Um J J <| Wn <| aI <| aZ (α := Nat × Nat × (List Int)) (fun ⟨i, q, out⟩ => [(2, .ptr 0 0), (3, .ptr (0 + 1) 0), (5, outV q 1 (out.map ic)), (9, .v (.int .i64 (ss.length : Int))), (10, .v (.int .i64 (i : Int)))]) (fun ⟨i, q, out⟩ => outH q 1 (3) (out.map ic) [((0 + 1), { cells := xc (u), sz := 4, elem := (114), st := 0 }), (0, { cells := [.sl k (ss.map stc)], sz := 1, elem := (26), st := 0 })]) (fun ⟨i, q, out⟩ n => i ≤ ss.length ∧ out = (List.range i).map (fun s : Nat => sucS ss u.1 (s : Int)) ∧ 1 < q ∧ q < n) (fun ⟨i, q, out⟩ => ss.length - i) (0, 2, []) ⟨J, J, J, J, J, trivial⟩ ⟨gG, gG, trivial⟩ ⟨Nat.zero_le _, rfl, om, om⟩ ?_
 rintro ⟨i, q, out⟩ n hF
 change WC _ _ _ _ _ (_ :: _) (outH _ _ _ _ _) n _
 obtain ⟨hi, hout, hq, hqn⟩ := hF
 have hol : out.length = i := by rw [hout]; simp
 have hl40 := hC.len
 refine Rg 1 J <| aA (bR J J) J <| aT (fun h11 => ?_) (fun h11 => ?_)
 rotate_left
 ·refine Wn <| aS J <| aW <| aQ <| aR J <| Rg 2 J <| Um J J <| Ua J J <| Wn <| aK ?_
  have hin : i = ss.length := by omega
  rw [hin] at hout
  have hk : lvL (kd (mapS ss u.1).length) (mapS ss u.1) = outR (out.map ic) := by rw [outR_kd, hout]; rfl
  rw [hk]
  exact kK (n := 0) (.inr J) J (by decide) (gH (n := 1) (fun _ => rfl)) (cB dic1)
 refine Wn <| aN J <| aD <| aI <| Rg 2 J <| Um J J <| Ua J J <| Wn <| aE (z := 8) J <| Um J J <| aA (aO (l := lvMo k ss) J J (by repeat (first | exact g0 | refine g1 om ?_ | refine bH om ?_)) J J) J ?_
 refine Um J J <| aA (aO (l := lvX u) J J (by repeat (first | exact g0 | refine g1 om ?_ | refine bH om ?_)) J J) J ?_
 refine aA (aJ J (suct_run k ss (i : Int) u hC om om hub) (bK (by intro c hc; simp only [List.mem_cons, List.not_mem_nil, or_false] at hc; rcases hc with rfl | rfl | rfl; exact oG; exact (.v _); exact oG))) J <| aA (cJ (cs := [_]) (rows := [[_]]) J J (by decide) J J J) J <| cO (te := ti3) (f := ic) (q := q) (us := out) (u := (sucS ss u.1 (i : Int))) J J J J J (fun _ => rfl) (by decide) (by show (2 * (out.length + 1) + 256) * 8 ≤ _; omega) om (gN om (gN om J)) (gN om (gN om J)) J <| Ua J J <| Wn <| aF <| Ck [2,3,5,9,10] J <| aE (z := 2) J <| aA (cI (((i + 1 : Nat) : Int)) (aM J J om) om) J <| Um J J <| Wn <| aG <| ⟨⟨i + 1, _, out ++ [sucS ss u.1 (i : Int)]⟩, ⟨J, J, J, J, J, trivial⟩, ?_, ⟨om, ?_, ?_, ?_⟩, by show ss.length - (i + 1) < ss.length - i; omega⟩
 ·exact dJ (fun hne => by rw [eS hne]; exact g0) ⟨(by repeat (first | exact g0 | refine g1 om ?_ | refine bH om ?_)), (by repeat (first | exact g0 | refine g1 om ?_ | refine bH om ?_)), trivial⟩
 ·rw [List.range_succ, List.map_append, ← hout]; rfl
 ·omega
 ·omega
end Go.Proofs.Ytcblgjaomljikaa
namespace Go.Proofs.Ytcblgjaomljikaa
open Go.Ab Go.RowKit
theorem comp_run (km L : Nat) (ms : List (List Int)) (hL : L ≤ 40) (lm : ms.length < 1099511627776) (hms : ∀ f, f ∈ ms → f.length = L ∧ ∀ v, v ∈ f → 0 ≤ v ∧ v < (L : Int)) : Run Try.prog T E0 (.call 65 [.v (.int .i64 (L : Int)), .sl km (ms.map lstF)] (lvL 1 (cmpL L ms))) := by
 refine bC Try.func65 J J (dG J) <| Rg 1 J <| Ua J J <| Wn <| Rg 3 J <| Um J J <| bE (oMk (a := L) (b := L) J J J J om om (by decide) om (by show 8 * L ≤ _; omega) om) J <| Ua J J <| Wn <| aC <| Rg 3 J <| Um J J <| aA (nR J J) J <| Um J J <| Wn <| aI <| aZ (α := Nat × (List Int)) (fun ⟨i, us⟩ => [(1, .sl km (ms.map lstF)), (5, .ref 2 1 0 L), (12, .v (.int .i64 (L : Int))), (13, .v (.int .i64 (i : Int)))]) (fun ⟨i, us⟩ => [(2, { cells := ((us).map ic).flatten, sz := 1, elem := (3), st := 0 })]) (fun ⟨i, us⟩ n => i ≤ L ∧ us.length = L ∧ (∀ a : Nat, a < i → us.getD a default = cmpS ms (a : Int)) ∧ 2 < n) (fun ⟨i, us⟩ => L - i) (0, List.replicate L 0) ⟨J, J, J, J, trivial⟩ ⟨g0.trans (by rw [List.map_replicate]; rfl), trivial⟩ ⟨Nat.zero_le _, by simp, fun a ha => absurd ha om, om⟩ ?_
 rintro ⟨i, us⟩ n hF
 change WC _ _ _ _ _ (_ :: _) (_ :: _) n _
 obtain ⟨hi, hul, hus, hn⟩ := hF
 refine Rg 1 J <| aA (bR J J) J <| aT (fun h14 => ?_) (fun h14 => ?_)
 rotate_left
 ·refine Wn <| aS J <| aW <| aQ <| aR J <| Rg 2 J <| Um J J <| Ua J J <| Wn <| aK ?_
  have hil : i = L := by omega
  have hu : us = cmpL L ms := by
   refine pL (by rw [hul]; simp [cmpL]) fun a ha => ?_
   rw [hus a om]
   exact (dX (f := fun s : Nat => cmpS ms (s : Int)) om).symm
  rw [← hu]
  exact mD (n := 0) (us.map ic) (.inr J) J (by rw [List.length_map, hul]) g0 (by show (0 : Nat) ≠ 2; decide) J (by decide) J (gH (n := 1) (fun _ => rfl)) (cB dic1)
 refine Wn <| aN J <| aD <| aI <| Rg 2 J <| Um J J <| Ua J J <| Wn <| Rg 5 J <| Um J J <| Um J J <| Um J J <| aA (cU (j := i) J J J J om om J) J <| aU (fF (f := ic) (us := us) (i : Int) J J J g0 (fun _ => rfl) J J om J) <| Wn <| Rg 3 J <| Um J J <| aA (aX J J) J <| Um J J <| Wn <| cN <| aZ (α := Nat × (List Int)) (fun ⟨j, vs⟩ => [(1, .sl km (ms.map lstF)), (5, .ref 2 1 0 L), (6, .v (.int .i64 (i : Int))), (12, .v (.int .i64 (L : Int))), (13, .v (.int .i64 (i : Int))), (20, .sl km (ms.map lstF)), (21, .v (.int .i64 (ms.length : Int))), (22, .v (.int .i64 (j : Int)))]) (fun ⟨j, vs⟩ => [(2, { cells := ((vs).map ic).flatten, sz := 1, elem := (3), st := 0 })]) (fun ⟨j, vs⟩ n => j ≤ ms.length ∧ vs.length = L ∧ (∀ a : Nat, a < i → vs.getD a default = cmpS ms (a : Int)) ∧ vs.getD i default = cmpS (ms.take j) (i : Int) ∧ 2 < n) (fun ⟨j, vs⟩ => ms.length - j) (0, us.set i (i : Int)) ⟨J, J, J, J, J, J, J, J, trivial⟩ ⟨g0, trivial⟩ ⟨Nat.zero_le _, by rw [List.length_set]; exact hul, fun a ha => by rw [bQ om, if_neg om]; exact hus a ha, by rw [bQ om, if_pos J]; rfl, om⟩ ?_
 rintro ⟨j, vs⟩ n hF
 change WC _ _ _ _ _ (_ :: _) (_ :: _) n _
 obtain ⟨hj, hvl, hvs, hvi, hn2⟩ := hF
 have hvb := cmpS_mem (ms := ms.take j) (L := L) (fun f hf => (hms f (List.mem_of_mem_take hf)).2) (fun f hf => (hms f (List.mem_of_mem_take hf)).1) (z := (i : Int)) om om
 rw [← hvi] at hvb
 refine Rg 1 J <| aA (bR J J) J <| aT (fun h23 => ?_) (fun h23 => ?_)
 rotate_left
 ·refine Wn <| aS J <| aW <| aQ <| gT J <| aF <| aE (z := 2) J <| aA (cI (((i + 1 : Nat) : Int)) (aM J J om) om) J <| Um J J <| Wn <| aG <| ⟨⟨i + 1, vs⟩, ⟨J, J, J, J, trivial⟩, ⟨gG, trivial⟩, ⟨om, hvl, fun a ha => ?_, om⟩, by show L - (i + 1) < L - i; omega⟩
  by_cases e : a = i
  ·rw [e, hvi, List.take_of_length_le om]
  ·exact hvs a om
 refine Wn <| aN J <| aD <| aI ?_
 have hm := hms _ (bP (us := ms) (i := j) om)
 refine Rg 3 J <| aA (bX (j := j) J J J J om om J) J <| aA (dN (l := lvL (kd (ms.getD j default).length) (ms.getD j default)) J J J) J <| Ua J J <| Wn <| aE (z := 11) J <| Um J J <| Um J J <| Um J J <| Um J J <| Um J J <| aA (cU (j := i) J J J J om om J) J <| aA (bD (b := .v (.int .i64 ((vs.getD i default) : Int))) (fW (f := ic) (us := vs) J J g0 (fun _ => rfl) J (by decide) om J) J) J <| aA (bX (f := ic) (us := (ms.getD j default)) (j := (vs.getD i default).toNat) J J J J om om J) J <| aA (dN (l := .v (.int .i64 (((ms.getD j default).getD (vs.getD i default).toNat default) : Int))) J J J) J <| aA (cU (j := i) J J J J om om J) J <| aU (fF (f := ic) (us := vs) ((ms.getD j default).getD (vs.getD i default).toNat default) J J J g0 (fun _ => rfl) J J om J) <| Wn <| aF <| Ck [1,5,6,12,13,20,21,22] J <| aE (z := 2) J <| aA (cI (((j + 1 : Nat) : Int)) (aM J J om) om) J <| Um J J <| cM ?_
 refine aG <| ⟨⟨j + 1, vs.set i ((ms.getD j default).getD (vs.getD i default).toNat default)⟩, ⟨J, J, J, J, J, J, J, J, trivial⟩, ⟨gG, trivial⟩, ⟨om, by rw [List.length_set]; exact hvl, fun a ha => by rw [bQ om, if_neg om]; exact hvs a ha, ?_, om⟩, by show ms.length - (j + 1) < ms.length - j; omega⟩
 rw [bQ om, if_pos rfl, cmpS_succ om, ← hvi]
theorem lG (k kn : Nat) (ss : List Go.Ab.ST) (s : Int) (ns : List NM) (hI : ∀ s, s ∈ ss → IS s) (ln : ns.length < 1099511627776) (hN : IV ns) : Run Try.prog T E0 (.call 11 [lvMo k ss, .v (.int .i64 (s : Int)), .sl kn (ns.map mc)] (runO ss ns s)) := by
 refine bC Try.func11 J J (dG J) <| Rg 4 J <| bE (eW J J) J <| bE (eW J J) J <| Ua J J <| Ua J J <| Wn <| aC <| Rg 8 J <| aA (aO (l := lvMo k ss) J J gG J J) J ?_
 refine aA (aO (l := .sl kn (ns.map mc)) J J gG J J) J ?_
 refine Um J J <| aA (cJ (cs := [_]) (rows := [[_]]) J J (by decide) J J J) J <| aA (aJ J (qA k 0 kn 2 ss [] ns [s] hI (by show 0 < _; omega) ln hN (by show 1 < _; omega)) (bK (by intro c hc; simp only [List.mem_cons, List.not_mem_nil, or_false] at hc; rcases hc with rfl | rfl | rfl | rfl; exact oG; exact (.sl _ _ (by simp)); exact (.sl _ _ (cB pE)); exact (.sl _ _ (by intro r hr c hc; rw [List.mem_singleton] at hr; subst hr; exact dic1 _ c hc))))) J <| aA (oMf J) J <| aA (jW [0 + 1] [.v (.int .i64 (askS ss [] ns [s])), .fn (.func 59) [] [.ro [.sl kn (ns.map mc)]]] J (both_run (askS ss [] ns [s]) (drawS ns) 59 [.ro [.sl kn (ns.map mc)]] (by intro c hc; rw [List.mem_singleton] at hc; subst hc; exact .ro _ (by intro c hc; rw [List.mem_singleton] at hc; subst hc; exact .sl _ _ (cB pE))) (fun _ => runc_run kn ns om)) (.data (.v _) (.fn .nil (.box (ob := { cells := [.sl kn (ns.map mc)], sz := 1, elem := (41), st := 0 }) gG (by simp) (by show (0 : Nat) ≠ 2; decide) (by intro c hc; rw [List.mem_singleton] at hc; subst hc; exact .sl _ _ (cB pE)) .nil) .nil)) (.cons gG (by show (0 : Nat) ≠ 2; decide) nP)) J ?_
 refine Ua J J <| Nk [1,3,5,8] J <| aC <| Rg 2 J <| Um J J <| aA (gS J J) J <| aT (fun h17 => ?_) (fun h17 => ?_)
 ·refine Wn <| aN J <| aC <| Rg 3 J <| Um J J <| Ua J J <| Ua J J <| Wn <| aV <| post (n := 0) (.inr J) J ?_ rO
  show _ = runO ss ns s
  unfold runO
  rw [if_neg h17]
  rfl
 refine Wn <| aS J <| aD ?_
 obtain ⟨ha, hd⟩ := both0' h17
 obtain ⟨hV, _, hvn, hst, _⟩ := ask0 ha
 obtain ⟨hnl, hdr⟩ := draw0 hd
 have hC := Chn.of hV
 have hbz : bothS (askS ss [] ns [s]) (drawS ns) = 0 := Classical.not_not.1 h17
 refine bV (z := 7) J kR <| aL (aO (l := lvMo k ss) J J gG J J) J ?_
 refine Dm J J <| aL (aO (l := .sl kn (ns.map mc)) J J gG J J) J ?_
 refine aL (aJ J (rE kn ns ln hN (fun a ha => (hvn a ha).all3.2.2)) (bK (by intro c hc; simp only [List.mem_cons, List.not_mem_nil, or_false] at hc; rcases hc with rfl; exact (.sl _ _ (cB pE))))) J <| aL (aJ J (run1_run k (kd (ns.map nx).length) ss s (ns.map nx) hC (hst s (by simp)).1 (hst s (by simp)).2 (by rw [List.length_map]; exact hnl) (nxs_bd hvn)) (bK (by intro c hc; simp only [List.mem_cons, List.not_mem_nil, or_false] at hc; rcases hc with rfl | rfl | rfl; exact oG; exact (.v _); exact (.sl _ _ (cB dxc))))) J <| aL (mZ J) J <| aL (mZ J) J <| bO (aY kR) J <| aK <| post (n := 0) (.inr J) J ?_ rO
 show _ = runO ss ns s
 unfold runO
 rw [if_pos hbz, ← rvs_nx, List.length_map]
 rfl
theorem joint_run (k kn : Nat) (ss : List Go.Ab.ST) (ns : List NM) (hI : ∀ s, s ∈ ss → IS s) (ln : ns.length < 1099511627776) (hN : IV ns) : Run Try.prog T E0 (.call 12 [lvMo k ss, .sl kn (ns.map mc)] (jntO ss ns)) := by
 refine bC Try.func12 J J (dG J) <| Rg 4 J <| bE (eW J J) J <| bE (eW J J) J <| Ua J J <| Ua J J <| Wn <| aC <| Rg 6 J <| aA (aO (l := lvMo k ss) J J gG J J) J ?_
 refine aA (aO (l := .sl kn (ns.map mc)) J J gG J J) J ?_
 refine aA (aJ J (qA k 0 kn 0 ss [] ns [] hI (by show 0 < _; omega) ln hN (by show 0 < _; omega)) (bK (by intro c hc; simp only [List.mem_cons, List.not_mem_nil, or_false] at hc; rcases hc with rfl | rfl | rfl | rfl; exact oG; exact (.sl _ _ (by simp)); exact (.sl _ _ (cB pE)); exact (.sl _ _ (by simp))))) J <| aA (oMf J) J <| aA (jW [0 + 1] [.v (.int .i64 (askS ss [] ns [])), .fn (.func 63) [] [.ro [.sl kn (ns.map mc)]]] J (both_run (askS ss [] ns []) (drawS ns) 63 [.ro [.sl kn (ns.map mc)]] (by intro c hc; rw [List.mem_singleton] at hc; subst hc; exact .ro _ (by intro c hc; rw [List.mem_singleton] at hc; subst hc; exact .sl _ _ (cB pE))) (fun _ => jointc_run kn ns om)) (.data (.v _) (.fn .nil (.box (ob := { cells := [.sl kn (ns.map mc)], sz := 1, elem := (41), st := 0 }) gG (by simp) (by show (0 : Nat) ≠ 2; decide) (by intro c hc; rw [List.mem_singleton] at hc; subst hc; exact .sl _ _ (cB pE)) .nil) .nil)) (.cons gG (by show (0 : Nat) ≠ 2; decide) nP)) J ?_
 refine Ua J J <| Wn <| aC <| Rg 2 J <| Um J J <| aA (gS J J) J <| aT (fun h16 => ?_) (fun h16 => ?_)
 ·refine Wn <| aN J <| aC <| Rg 3 J <| Um J J <| Ua J J <| Ua J J <| Nk [4,5] J <| aV <| post (n := 0) (.inr J) J ?_ qZ
  show _ = jntO ss ns
  unfold jntO
  rw [if_neg h16]
  rfl
 refine Wn <| aS J <| aD ?_
 obtain ⟨ha, hd⟩ := both0' h16
 obtain ⟨hV, _, hvn, hst, _⟩ := ask0 ha
 obtain ⟨hnl, hdr⟩ := draw0 hd
 have hC := Chn.of hV
 have hbz : bothS (askS ss [] ns []) (drawS ns) = 0 := Classical.not_not.1 h16
 refine Rg 1 J <| Ua J J <| Nk [2,3,7] J <| aC <| Rg 4 J <| aA (aO (l := .sl kn (ns.map mc)) J J gG J J) J ?_
 refine aA (aJ J (rE kn ns ln hN (fun a ha => (hvn a ha).all3.2.2)) (bK (by intro c hc; simp only [List.mem_cons, List.not_mem_nil, or_false] at hc; rcases hc with rfl; exact (.sl _ _ (cB pE))))) J <| aA (aX J J) J <| Um J J <| Wn <| aI <| aZ (α := Nat × Nat × (List (List Int))) (fun ⟨i, q, mm⟩ => [(2, .ptr 0 0), (7, outV q 1 (mm.map lstF)), (19, .sl (kd (ns.map nx).length) ((ns.map nx).map xc)), (20, .v (.int .i64 ((ns.map nx).length : Int))), (21, .v (.int .i64 (i : Int)))]) (fun ⟨i, q, mm⟩ => outH q 1 (22) (mm.map lstF) [(1, { cells := [.sl kn (ns.map mc)], sz := 1, elem := (41), st := 0 }), (0, { cells := [.sl k (ss.map stc)], sz := 1, elem := (26), st := 0 })]) (fun ⟨i, q, mm⟩ n => i ≤ ns.length ∧ mm = (ns.take i).map (fun a => mapS ss (nq a)) ∧ 1 < q ∧ q < n) (fun ⟨i, q, mm⟩ => ns.length - i) (0, 2, []) ⟨J, J, J, J, J, trivial⟩ ⟨gG, gG, trivial⟩ ⟨Nat.zero_le _, rfl, om, om⟩ ?_
 rintro ⟨i, q, mm⟩ n hF
 change WC _ _ _ _ _ (_ :: _) (outH _ _ _ _ _) n _
 obtain ⟨hi, hmm, hq, hqn⟩ := hF
 have hml : mm.length = i := by rw [hmm]; simp; omega
 have hnx : (ns.map nx).length = ns.length := List.length_map _
 refine WC.regF (z := 1) J <| aA (bR J J) J <| aT (fun h22 => ?_) (fun h22 => ?_)
 rotate_left
 ·refine Wn <| Fz.env (t := 7) (us := mm.map lstF) [(2, _), (19, _), (20, _), (21, _), (22, _)] ⟨J, J, J, J, J, trivial⟩ J (fun _ r o hr e => by rw [e] at hr; have h0 : getH [(1, { cells := [.sl kn (ns.map mc)], sz := 1, elem := (41), st := 0 }), (0, { cells := [.sl k (ss.map stc)], sz := 1, elem := (26), st := 0 })] q = none := gN om (gN om J); rw [h0] at hr; cases hr) (by decide) (gH (n := 1) (fun _ => rfl)) (cB dlst) <| aS J <| aW <| aQ <| aR J <| Rg 7 J <| aA (bF J J J J J) J <| aA (aO J J gG J J) J ?_
  refine aA (aX J J) J <| Um J J <| aA (aJ J (comp_run (kd (mm.map lstF).length) ss.length mm hC.len om (fun f hf => by rw [hmm] at hf; obtain ⟨a, _, rfl⟩ := List.mem_map.1 hf; exact mapS_ok hC _)) (bK (by intro c hc; simp only [List.mem_cons, List.not_mem_nil, or_false] at hc; rcases hc with rfl | rfl; exact (.v _); exact (.sl _ _ (cB dlst))))) J <| Ua J J <| Ua J J <| Wn <| aK <| post (n := 0) (.inr J) J ?_ qZ
  show _ = jntO ss ns
  unfold jntO
  rw [if_pos hbz, hmm, List.take_of_length_le om]
  rfl
 refine Wn <| Fz.same [(2, _), (7, _), (19, _), (20, _), (21, _), (22, _)] _ ⟨J, J, J, J, J, J, trivial⟩ (fun _ _ h => h) <| aN J <| aD <| aI ?_
 have hm := bP (us := ns.map nx) (i := i) om
 refine Rg 4 J <| aA (bX J J J J J om J) J <| aA (dN (l := .agg (xc ((ns.map nx).getD i default))) J J J) J <| bE (eZ J) J <| aU (cL (cs' := xc ((ns.map nx).getD i default)) J J J g0 J J J J) <| Wn <| aE (z := 7) J <| Um J J <| aA (aO (l := lvMo k ss) J J (by repeat (first | exact g0 | refine g1 om ?_ | refine bH om ?_)) J J) J ?_
 refine aA (aO (l := lvX ((ns.map nx).getD i default)) J J g0 J J) J <| aA (aJ J (mapped_run k ss ((ns.map nx).getD i default) hC (nxs_bd hvn _ hm)) (bK (by intro c hc; simp only [List.mem_cons, List.not_mem_nil, or_false] at hc; rcases hc with rfl | rfl; exact oG; exact oG))) J <| aA (cJ (cs := [_]) (rows := [[_]]) J J (by decide) J J J) J <| gO (outH q 1 (22) (mm.map lstF) [(1, { cells := [.sl kn (ns.map mc)], sz := 1, elem := (41), st := 0 }), (0, { cells := [.sl k (ss.map stc)], sz := 1, elem := (26), st := 0 })]) (Hp.le_skip (gK om (gN om (gN om J))) (Hp.le_skip (gK om (gN om (gN om J))) (Hp.le_refl _))) <| cO (te := ti22) (f := lstF) (q := q) (us := mm) (u := mapS ss ((ns.map nx).getD i default).1) J J J J J (fun _ => rfl) (by decide) (by show (2 * (mm.length + 1) + 256) * 24 ≤ _; omega) om (gN om (gN om J)) (gN om (gN om J)) J <| Ua J J <| Wn <| aF <| Ck [2,7,19,20,21] J <| aE (z := 2) J <| aA (cI (((i + 1 : Nat) : Int)) (aM J J om) om) J <| Um J J <| Wn <| aG <| ⟨⟨i + 1, _, mm ++ [mapS ss ((ns.map nx).getD i default).1]⟩, ⟨J, J, J, J, J, trivial⟩, ?_, ⟨om, ?_, ?_, ?_⟩, by show ns.length - (i + 1) < ns.length - i; omega⟩
 ·exact dJ (fun hne => by rw [eS hne]; exact g0) ⟨(by repeat (first | exact g0 | refine g1 om ?_ | refine bH om ?_)), (by repeat (first | exact g0 | refine g1 om ?_ | refine bH om ?_)), trivial⟩
 ·rw [cX om, List.map_append, ← hmm, mapD (f := nx) om]; rfl
 ·omega
 ·omega
end Go.Proofs.Ytcblgjaomljikaa
namespace Go.Proofs.Ytcblgjaomljikaa
open Go.Ab Go.RowKit
theorem hits_run (k kg : Nat) (ss : List Go.Ab.ST) (s : Int) (goal : List Int) (nn d : Int) (hI : ∀ s, s ∈ ss → IS s) (lg : goal.length < 1099511627776) : Run Try.prog T E0 (.call 13 [lvMo k ss, .v (.int .i64 (s : Int)), lvL kg goal, .v (.int .i64 (nn : Int)), .v (.int .i64 (d : Int))] (hitO ss s goal nn d)) := by
 refine bC Try.func13 J J (dG J) <| Rg 3 J <| bE (eW J J) J <| Ua J J <| Ua J J <| Wn <| aC <| Rg 6 J <| aA (aO (l := lvMo k ss) J J gG J J) J ?_
 refine Um J J <| Um J J <| aA (cJ (cs := [_]) (rows := [[_]]) J J (by decide) J J J) J <| aA (aJ J (qA k kg 0 2 ss goal [] [s] hI lg (by show 0 < _; omega) (by intro a ha; cases ha) (by show 1 < _; omega)) (bK (by intro c hc; simp only [List.mem_cons, List.not_mem_nil, or_false] at hc; rcases hc with rfl | rfl | rfl | rfl; exact oG; exact (lN _ _); exact (.sl _ _ (by simp)); exact (.sl _ _ (by intro r hr c hc; rw [List.mem_singleton] at hr; subst hr; exact dic1 _ c hc))))) J <| Ua J J <| Wn <| aC <| Rg 2 J <| Um J J <| aA (gS J J) J <| aT (fun h35 => ?_) (fun h35 => ?_)
 ·refine Nk [1,2,3,4,5,12,35] J <| aN J <| aC <| Rg 3 J <| Um J J <| Ua J J <| Ua J J <| Wn <| aV <| post (n := 0) (.inr J) J ?_ (dF (.v _) (.v _))
  first | exact (bS (jS h35) h35) | exact (bS (jU ha hrg hnev) (show (7 : Int) ≠ 0 by decide)) | exact (bS (jV ha hrg hevn hul2 h156) (show (3 : Int) ≠ 0 by decide)) | exact gW ha hrg hevn hul2 h156 | (refine (bS (jT ha ?_) (show (6 : Int) ≠ 0 by decide)); omega)
 refine Nk [1,2,3,4,5,12,35] J <| aS J <| aD <| aC ?_
 have ha := Classical.not_not.1 h35
 obtain ⟨hV, hVS, _, hst, _⟩ := ask0 ha
 have hsb := hst s (by simp)
 have hV1 := VMo_1 hV
 have hl40 := hV1.wt.len
 refine Rg 14 J <| Um J J <| aA (bR J J) J <| aT (fun h38 => ?_) (fun h38 => ?_)
 ·refine Um J J <| K1 J J <| K1 J J <| aA (bI J J) J <| Um J J <| K1 J J <| K1 J J <| aA (bI J J) J <| Um J J <| K1 J J <| K1 J J <| aA (bI J J) J <| Nk [1,2,3,4,5,50] J <| aN J <| aC <| Rg 2 J <| Ua J J <| Ua J J <| Wn <| aV <| post (n := 0) (.inr J) J ?_ (dF (.v _) (.v _))
  first | exact (bS (jS h35) h35) | exact (bS (jU ha hrg hnev) (show (7 : Int) ≠ 0 by decide)) | exact (bS (jV ha hrg hevn hul2 h156) (show (3 : Int) ≠ 0 by decide)) | exact gW ha hrg hevn hul2 h156 | (refine (bS (jT ha ?_) (show (6 : Int) ≠ 0 by decide)); omega)
 refine Um J J <| aH J (dQ J) J <| aH J (dW J J) J <| aT (fun h41 => ?_) (fun h41 => ?_)
 ·refine aA (bJ J J) J <| Um J J <| K1 J J <| K1 J J <| aA (bI J J) J <| Um J J <| K1 J J <| K1 J J <| aA (bI J J) J <| Nk [1,2,3,4,5,50] J <| aN J <| aC <| Rg 2 J <| Ua J J <| Ua J J <| Wn <| aV <| post (n := 0) (.inr J) J ?_ (dF (.v _) (.v _))
  first | exact (bS (jS h35) h35) | exact (bS (jU ha hrg hnev) (show (7 : Int) ≠ 0 by decide)) | exact (bS (jV ha hrg hevn hul2 h156) (show (3 : Int) ≠ 0 by decide)) | exact gW ha hrg hevn hul2 h156 | (refine (bS (jT ha ?_) (show (6 : Int) ≠ 0 by decide)); omega)
 refine aA (bJ J J) J <| Um J J <| aH J (dQ J) J <| aH J (bR J J) J <| aT (fun h45 => ?_) (fun h45 => ?_)
 ·refine aA (bJ J J) J <| Um J J <| K1 J J <| K1 J J <| aA (bI J J) J <| Nk [1,2,3,4,5,50] J <| aN J <| aC <| Rg 2 J <| Ua J J <| Ua J J <| Wn <| aV <| post (n := 0) (.inr J) J ?_ (dF (.v _) (.v _))
  first | exact (bS (jS h35) h35) | exact (bS (jU ha hrg hnev) (show (7 : Int) ≠ 0 by decide)) | exact (bS (jV ha hrg hevn hul2 h156) (show (3 : Int) ≠ 0 by decide)) | exact gW ha hrg hevn hul2 h156 | (refine (bS (jT ha ?_) (show (6 : Int) ≠ 0 by decide)); omega)
 refine aA (bJ J J) J <| Um J J <| aH J (dQ J) J <| aH J (dW J J) J <| aT (fun h49 => ?_) (fun h49 => ?_)
 ·refine aA (bJ J J) J <| Nk [1,2,3,4,5,50] J <| aN J <| aC <| Rg 2 J <| Ua J J <| Ua J J <| Wn <| aV <| post (n := 0) (.inr J) J ?_ (dF (.v _) (.v _))
  first | exact (bS (jS h35) h35) | exact (bS (jU ha hrg hnev) (show (7 : Int) ≠ 0 by decide)) | exact (bS (jV ha hrg hevn hul2 h156) (show (3 : Int) ≠ 0 by decide)) | exact gW ha hrg hevn hul2 h156 | (refine (bS (jT ha ?_) (show (6 : Int) ≠ 0 by decide)); omega)
 refine aA (bJ J J) J <| Nk [1,2,3,4,5,50] J <| aS J <| aD <| aC ?_
 have hrg : 0 ≤ nn ∧ nn ≤ 200 ∧ 1 ≤ d ∧ d ≤ 1000 := by omega
 refine Rg 4 J <| aA (bF J J J J J) J <| aA (aO J J gG J J) J ?_
 refine aA (aX J J) J <| Um J J <| Wn <| aI <| aZ (α := Nat) (fun i => [(1, .v (.int .i64 (s : Int))), (2, lvL kg goal), (3, .v (.int .i64 (nn : Int))), (4, .v (.int .i64 (d : Int))), (5, .ptr 0 0), (52, .sl k (ss.map stc)), (53, .v (.int .i64 (ss.length : Int))), (54, .v (.int .i64 (i : Int)))]) (fun i => [(0, { cells := [.sl k (ss.map stc)], sz := 1, elem := (26), st := 0 })]) (fun i n => i ≤ ss.length ∧ (∀ a : Nat, a < i → evB d (brs ss a) = true) ∧ 0 < n) (fun i => ss.length - i) (0) ⟨J, J, J, J, J, J, J, J, trivial⟩ ⟨gG, trivial⟩ ⟨Nat.zero_le _, fun a ha => absurd ha om, om⟩ ?_
 rintro i n hF
 change WC _ _ _ _ _ (_ :: _) (_ :: _) n _
 obtain ⟨hi, hev, hn⟩ := hF
 refine Rg 1 J <| aA (bR J J) J <| aT (fun h55 => ?_) (fun h55 => ?_)
 ·refine Wn <| aN J <| aD <| aI ?_
  have hcl := (hV1.cs _ (bP (us := ss) (i := i) om)).1
  have hvb := brs_VB hV (s := i) om
  have hlb := hvb.len
  refine Rg 4 J <| aA (bX J J J J J om J) J <| aA (dN (l := .agg (stc (ss.getD i default))) J J J) J <| bE (eZ J) J <| aU (cL (cs' := stc (ss.getD i default)) J J J g0 J J J J) <| Wn <| Rg 7 J <| aA (bF J J J J J) J <| aA (aO (l := .sl (ss.getD i default).2.1 ((ss.getD i default).2.2.map chc)) J J gG J J) J ?_
  refine aA (bX (j := 0) J J J J om om J) J <| aA (oFa J J J J J) J <| aA (bD (b := .sl ((ss.getD i default).2.2.getD 0 default).2.1 ((brs ss i).map brc)) (dN J J J) J) J <| aA (aX J J) J <| Um J J <| Nk [1,2,3,4,5,52,53,54,62,63,64] J <| cN <| aZ (α := Nat) (fun j => [(1, .v (.int .i64 (s : Int))), (2, lvL kg goal), (3, .v (.int .i64 (nn : Int))), (4, .v (.int .i64 (d : Int))), (5, .ptr 0 0), (52, .sl k (ss.map stc)), (53, .v (.int .i64 (ss.length : Int))), (54, .v (.int .i64 (i : Int))), (62, .sl ((ss.getD i default).2.2.getD 0 default).2.1 ((brs ss i).map brc)), (63, .v (.int .i64 ((brs ss i).length : Int))), (64, .v (.int .i64 (j : Int)))]) (fun j => [(0, { cells := [.sl k (ss.map stc)], sz := 1, elem := (26), st := 0 })]) (fun j n => j ≤ (brs ss i).length ∧ (∀ b : Nat, b < j → d.tmod ((brs ss i).getD b default).2.2 = 0) ∧ 0 < n) (fun j => (brs ss i).length - j) (0) ⟨J, J, J, J, J, J, J, J, J, J, J, trivial⟩ ⟨gG, trivial⟩ ⟨Nat.zero_le _, fun b hb => absurd hb om, om⟩ ?_
  rintro j n hF
  change WC _ _ _ _ _ (_ :: _) (_ :: _) n _
  obtain ⟨hj, heb, hn2⟩ := hF
  refine Rg 1 J <| aA (bR J J) J <| aT (fun h65 => ?_) (fun h65 => ?_)
  rotate_left
  ·refine Wn <| aS J <| aW <| aQ <| gT J <| aF <| aE (z := 2) J <| aA (cI (((i + 1 : Nat) : Int)) (aM J J om) om) J <| Um J J <| Wn <| aG <| ⟨i + 1, ⟨J, J, J, J, J, J, J, J, trivial⟩, ⟨gG, trivial⟩, ⟨om, fun a ha => ?_, om⟩, by show ss.length - (i + 1) < ss.length - i; omega⟩
   by_cases e : a = i
   ·rw [e]; exact evB_all (fun b hb => heb b om)
   ·exact hev a om
  refine Wn <| aN J <| aD <| aI <| Rg 4 J <| aA (bX J J J J J om J) J <| aA (dN (l := .agg (brc ((brs ss i).getD j default))) J J J) J <| bE (eZ J) J <| aU (cL (cs' := brc ((brs ss i).getD j default)) J J J g0 J J J J) <| Nk [1,2,3,4,5,16,52,53,54,62,63,64] J ?_
  have hb0 : ((brs ss i).getD j default).2.2 ≠ 0 := by have := (hvb.vn j om).1; omega
  refine Rg 6 J <| Um J J <| aA (bF J J J J J) J <| aA (bF J J J J J) J <| aA (aO J J gG J J) J ?_
  refine aA (oRem J J hb0) J <| aA (gS J J) J <| aT (fun h73 => ?_) (fun h73 => ?_)
  rotate_left
  ·refine Nk [1,2,3,4,5,52,53,54,62,63,64,73] J <| cC J <| cP <| aF <| aE (z := 2) J <| aA (cI (((j + 1 : Nat) : Int)) (aM J J om) om) J <| Um J J <| Wn <| aG <| ⟨j + 1, ⟨J, J, J, J, J, J, J, J, J, J, J, trivial⟩, ⟨gG, trivial⟩, ⟨om, fun b hb => ?_, om⟩, by show (brs ss i).length - (j + 1) < (brs ss i).length - j; omega⟩
   by_cases e : b = j
   ·rw [e]; exact Classical.not_not.1 h73
   ·exact heb b om
  refine Nk [1,2,3,4,5,52,53,54,62,63,64,73] J <| bU J ?_
  have hnev := evenB_no (ss := ss) (d := d) (a := i) (j := j) om om h73
  refine Rg 2 J <| Ua J J <| Ua J J <| Wn <| aK <| aP <| bT <| oV <| aP <| bT <| aP <| post (n := 0) (.inr J) J ?_ (dF (.v _) (.v _))
  first | exact (bS (jS h35) h35) | exact (bS (jU ha hrg hnev) (show (7 : Int) ≠ 0 by decide)) | exact (bS (jV ha hrg hevn hul2 h156) (show (3 : Int) ≠ 0 by decide)) | exact gW ha hrg hevn hul2 h156 | (refine (bS (jT ha ?_) (show (6 : Int) ≠ 0 by decide)); omega)
 refine Wn <| aS J <| aW <| aQ <| aR J ?_
 obtain ⟨nK, hnnK⟩ : ∃ z, z = n := ⟨n, rfl⟩
 subst hnnK
 have hevn : evenB ss d = true := List.all_eq_true.2 fun a ha => hev a (by have := List.mem_range.1 ha; omega)
 refine Rg 3 J <| aA (aJ J (jD 1 (by decide)) dD) J <| bE (eZ J) J <| aU (cL (cs' := ivc 1) J J J g0 J J J J) <| Wn <| Rg 5 J <| aA (bF J J J J J) J <| aA (aO J J gG J J) J ?_
 refine aA (aX J J) J <| bE (oMk (a := ss.length) (b := ss.length) J J J J om om (by decide) om (by show 32 * ss.length ≤ _; omega) om) J <| Ua J J <| Nk [1,2,3,4,5,17,18] J <| aC <| Rg 1 J <| Ua J J <| Wn <| aI <| aZ (α := Nat × Nat × (List Int)) (fun ⟨i, q, vs⟩ => [(1, .v (.int .i64 (s : Int))), (2, lvL kg goal), (3, .v (.int .i64 (nn : Int))), (4, .v (.int .i64 (d : Int))), (5, .ptr 0 0), (17, .ptr (nK + 1 + (0 + 1)) 0), (18, .ref q 2 0 ss.length), (19, .v (.int .i64 (i : Int)))]) (fun ⟨i, q, vs⟩ => [(q, { cells := ((vs).map ivc).flatten, sz := 2, elem := (112), st := 0 }), ((nK + 1 + (0 + 1)), { cells := ivc (d ^ i), sz := 2, elem := (112), st := 0 }), (0, { cells := [.sl k (ss.map stc)], sz := 1, elem := (26), st := 0 })]) (fun ⟨i, q, vs⟩ n => (i : Int) ≤ nn ∧ vs = hraw ss goal d i ∧ nK + 2 < q ∧ q < n) (fun ⟨i, q, vs⟩ => nn.toNat - i) (0, (nK + 1 + 3 + (0 + 1 + 1 + 1)), List.replicate ss.length 0) ⟨J, J, J, J, J, J, J, J, trivial⟩ ⟨g0.trans (by rw [List.map_replicate]; rfl), by rw [Int.pow_zero]; exact gG, gG, trivial⟩ ⟨om, rfl, om, om⟩ ?_
 rintro ⟨i, q, vs⟩ n hF
 change WC _ _ _ _ _ (_ :: _) (_ :: _) n _
 obtain ⟨hin, hvs, hq, hqn⟩ := hF
 have hvl : vs.length = ss.length := by rw [hvs]; exact lR _ _ _ _
 refine aI <| aC <| Rg 3 J <| Um J J <| aA (aX J J) J <| Um J J <| Wn <| aI <| aZ (α := Nat × (List Int)) (fun ⟨j, us⟩ => [(1, .v (.int .i64 (s : Int))), (2, lvL kg goal), (3, .v (.int .i64 (nn : Int))), (4, .v (.int .i64 (d : Int))), (5, .ptr 0 0), (17, .ptr (nK + 1 + (0 + 1)) 0), (18, .ref q 2 0 ss.length), (19, .v (.int .i64 (i : Int))), (83, lvL kg goal), (84, .v (.int .i64 (goal.length : Int))), (85, .v (.int .i64 (j : Int)))]) (fun ⟨j, us⟩ => [(q, { cells := ((us).map ivc).flatten, sz := 2, elem := (112), st := 0 }), ((nK + 1 + (0 + 1)), { cells := ivc (d ^ i), sz := 2, elem := (112), st := 0 }), (0, { cells := [.sl k (ss.map stc)], sz := 1, elem := (26), st := 0 })]) (fun ⟨j, us⟩ n => j ≤ goal.length ∧ us = hset (goal.take j) (d ^ i) vs ∧ q < n) (fun ⟨j, us⟩ => goal.length - j) (0, vs) ⟨J, J, J, J, J, J, J, J, J, J, J, trivial⟩ ⟨gG, gG, gG, trivial⟩ ⟨Nat.zero_le _, rfl, om⟩ ?_
 rintro ⟨j, us⟩ n hF
 change WC _ _ _ _ _ (_ :: _) (_ :: _) n _
 obtain ⟨hj, hus, hqn2⟩ := hF
 have hul : us.length = ss.length := by rw [hus, hset_len]; exact hvl
 refine Rg 1 J <| aA (bR J J) J <| aT (fun h86 => ?_) (fun h86 => ?_)
 ·refine Wn <| aN J <| aD <| aI ?_
  have hlt := VSet_lt hVS (i := j) om
  refine Rg 3 J <| aA (bX J J J J J om J) J <| aA (dN J J J) J <| Ua J J <| Nk [1,2,3,4,5,17,18,19,21,83,84,85] J <| aE (z := 5) J <| Um J J <| Um J J <| aA (aO (l := lvI (d ^ i)) J J gG J J) J ?_
  refine aA (cU (j := (goal.getD j default).toNat) J J J J om om J) J <| aU (fF (f := ivc) (us := us) (d ^ i) J J J gG (fun _ => rfl) J J om J) ?_
  refine Wn <| aF <| Ck [1,2,3,4,5,17,18,19,83,84,85] J <| aE (z := 2) J <| aA (cI (((j + 1 : Nat) : Int)) (aM J J om) om) J <| Um J J <| Wn <| aG <| ⟨⟨j + 1, us.set (goal.getD j default).toNat (d ^ i)⟩, ⟨J, J, J, J, J, J, J, J, J, J, J, trivial⟩, ⟨gG, gG, gG, trivial⟩, ⟨om, by rw [hset_succ om, ← hus], om⟩, by show goal.length - (j + 1) < goal.length - j; omega⟩
 refine Wn <| aS J <| aW <| aQ <| aR J <| aC <| Rg 3 J <| Um J J <| Um J J <| aA (dR J J) J <| aT (fun h96 => ?_) (fun h96 => ?_)
 ·refine Nk [1,2,3,4,5,17,18,19,96] J <| aN J <| aW <| after_exitF J <| aQ <| aR J ?_
  have hul2 : us = hval ss goal d nn.toNat := by rw [hus, hvs, List.take_of_length_le (l := goal) om, show nn.toNat = i by omega]; rfl
  refine Rg 10 J <| Um J J <| Um J J <| aA (cU (j := s.toNat) J J J J om om J) J <| aA (bD (b := lvI (us.getD s.toNat default)) (fW (f := ivc) (us := us) J J gG (fun _ => rfl) J (by decide) om J) J) J ?_
  refine aA (aJ J (int_run (us.getD s.toNat default) 1152921504606846976 (by decide)) (bK (by intro c hc; simp only [List.mem_cons, List.not_mem_nil, or_false] at hc; rcases hc with rfl | rfl; exact (.agg _ (gQ _)); exact (.v _)))) J <| Um J J <| aA (dL J J) J <| aA (dL J J) J <| dZ (fun h156 => ?_) (fun h156 => ?_)
  rotate_left
  ·refine Ua J J <| Ua J J <| Nk [27,28] J <| aC <| Rg 2 J <| Um J J <| aA (fN J) J <| Wn <| aN J <| aC <| Rg 2 J <| Ua J J <| Ua J J <| Wn <| aV <| post (n := 0) (.inr J) J ?_ (dF (.v _) (.v _))
   first | exact (bS (jS h35) h35) | exact (bS (jU ha hrg hnev) (show (7 : Int) ≠ 0 by decide)) | exact (bS (jV ha hrg hevn hul2 h156) (show (3 : Int) ≠ 0 by decide)) | exact gW ha hrg hevn hul2 h156 | (refine (bS (jT ha ?_) (show (6 : Int) ≠ 0 by decide)); omega)
  refine Ua J J <| Ua J J <| Nk [27,28] J <| aC <| Rg 2 J <| Um J J <| aA (fN J) J <| Wn <| aS J <| aD <| Rg 3 J <| Um J J <| Ua J J <| Ua J J <| Wn <| aK <| post (n := 0) (.inr J) J ?_ (dF (.v _) (.v _))
  first | exact (bS (jS h35) h35) | exact (bS (jU ha hrg hnev) (show (7 : Int) ≠ 0 by decide)) | exact (bS (jV ha hrg hevn hul2 h156) (show (3 : Int) ≠ 0 by decide)) | exact gW ha hrg hevn hul2 h156 | (refine (bS (jT ha ?_) (show (6 : Int) ≠ 0 by decide)); omega)
 refine Nk [1,2,3,4,5,17,18,19,96] J <| aS J <| aD ?_
 obtain ⟨nJ, hnnJ⟩ : ∃ z, z = n := ⟨n, rfl⟩
 subst hnnJ
 have hub : ∀ x, x ∈ us → 0 ≤ x ∧ x ≤ 8000 ^ i := by rw [hus, hvs, List.take_of_length_le (l := goal) om]; exact hval_bd hV hrg.2.2 i
 refine Rg 4 J <| Um J J <| aA (cI ((ss.length : Int)) (nR J J) om) J <| bE (oMk (a := ss.length) (b := ss.length) J J J J om om (by decide) om (by show 32 * ss.length ≤ _; omega) om) J <| Ua J J <| Wn <| aC <| Rg 4 J <| aA (bF J J J J J) J <| aA (aO J J gG J J) J ?_
 refine aA (aX J J) J <| Um J J <| Nk [1,2,3,4,5,17,18,19,22,101,102,103] J <| aI <| aZ (α := Nat × (List Int)) (fun ⟨t, ws⟩ => [(1, .v (.int .i64 (s : Int))), (2, lvL kg goal), (3, .v (.int .i64 (nn : Int))), (4, .v (.int .i64 (d : Int))), (5, .ptr 0 0), (17, .ptr (nK + 1 + (0 + 1)) 0), (18, .ref q 2 0 ss.length), (19, .v (.int .i64 (i : Int))), (22, .ref (nJ + 1 + 3 + (0 + 1 + 1)) 2 0 ss.length), (101, .sl k (ss.map stc)), (102, .v (.int .i64 (ss.length : Int))), (103, .v (.int .i64 (t : Int)))]) (fun ⟨t, ws⟩ => [((nJ + 1 + 3 + (0 + 1 + 1)), { cells := ((ws).map ivc).flatten, sz := 2, elem := (112), st := 0 }), (q, { cells := ((us).map ivc).flatten, sz := 2, elem := (112), st := 0 }), ((nK + 1 + (0 + 1)), { cells := ivc (d ^ i), sz := 2, elem := (112), st := 0 }), (0, { cells := [.sl k (ss.map stc)], sz := 1, elem := (26), st := 0 })]) (fun ⟨t, ws⟩ n => t ≤ ss.length ∧ ws.length = ss.length ∧ (∀ a : Nat, a < t → ws.getD a default = hsum d (brs ss a) us (brs ss a).length) ∧ (∀ a : Nat, t ≤ a → a < ss.length → ws.getD a default = 0) ∧ nJ + 6 < n) (fun ⟨t, ws⟩ => ss.length - t) (0, List.replicate ss.length 0) ⟨J, J, J, J, J, J, J, J, J, J, J, J, trivial⟩ ⟨g0.trans (by rw [List.map_replicate]; rfl), gG, gG, gG, trivial⟩ ⟨Nat.zero_le _, by simp, fun a ha => absurd ha om, fun a _ ha => rep_get0 ha, om⟩ ?_
 rintro ⟨t, ws⟩ n hF
 change WC _ _ _ _ _ (_ :: _) (_ :: _) n _
 obtain ⟨htl, hwl, hws, hw0, hn8⟩ := hF
 refine Rg 1 J <| aA (bR J J) J <| aT (fun h104 => ?_) (fun h104 => ?_)
 rotate_left
 ·refine Wn <| aS J <| aW <| aQ <| aR J ?_
  have hpl := iG d hrg.2.2 i
  refine eO (z := 7) J kR <| Dm J J <| aL (aO (l := lvI (d ^ i)) J J gG J J) J ?_
  refine Dm J J <| aL (aJ J (jD d om) dD) J <| aL (aJ J (hJ (d ^ i) d (by have := pP (i := i) om hpl; omega) (by have := dE (v := d) om; omega)) (bK (by intro c hc; simp only [List.mem_cons, List.not_mem_nil, or_false] at hc; rcases hc with rfl | rfl; exact (.agg _ (gQ _)); exact (.agg _ (gQ _))))) J <| aL (mZ J) J <| dB (cL (cs' := ivc (d ^ i * d)) J J J gG J J J J) ?_
  refine bO (iS (rn n) (by simp only [List.reverse_cons, List.reverse_nil, List.nil_append, List.cons_append, List.map_cons, List.map_nil, ren, keys, Nat.add_assoc, rn_add, show rn n (nK + 2) = 0 from rN om]; kernel_rfl)) J <| aF <| Ck [1,2,3,4,5,17,18,19] J <| aE (z := 3) J <| Um J J <| aA (cI (((i + 1 : Nat) : Int)) (aM J J om) om) J <| Ua J J <| Wn <| aG <| ⟨⟨i + 1, _, ws⟩, ⟨J, J, J, J, J, J, J, J, trivial⟩, ⟨gG, by rw [Int.pow_succ]; exact gG, gG, trivial⟩, ⟨om, ?_, om, om⟩, by show nn.toNat - (i + 1) < nn.toNat - i; omega⟩
  rw [qW, ← hvs, ← List.take_of_length_le (l := goal) (i := j) om, ← hus]
  refine pL (by rw [hwl, qX]) fun a ha => ?_
  rw [hws a om]
  exact (dX (f := fun t => hsum d (brs ss t) us (brs ss t).length) om).symm
 refine Wn <| aN J <| aD <| aI ?_
 have hcl := (hV1.cs _ (bP (us := ss) (i := t) om)).1
 have hvb := brs_VB hV (s := t) om
 refine Rg 6 J <| Um J J <| aA (bX J J J J J om J) J <| aA (dN (l := .agg (stc (ss.getD t default))) J J J) J <| bE (eZ J) J <| Ua J J <| aU (cL (cs' := stc (ss.getD t default)) J J J g0 J J J J) <| Nk [1,2,3,4,5,17,18,19,22,23,24,101,102,103] J <| Rg 7 J <| aA (bF J J J J J) J <| aA (aO (l := .sl (ss.getD t default).2.1 ((ss.getD t default).2.2.map chc)) J J gG J J) J ?_
 refine aA (bX (j := 0) J J J J om om J) J <| aA (oFa J J J J J) J <| aA (bD (b := .sl ((ss.getD t default).2.2.getD 0 default).2.1 ((brs ss t).map brc)) (dN J J J) J) J <| aA (aX J J) J <| Um J J <| Nk [1,2,3,4,5,17,18,19,22,23,101,102,103,112,113,114] J <| cN <| aZ (α := Nat × (List Int)) (fun ⟨j, w⟩ => [(1, .v (.int .i64 (s : Int))), (2, lvL kg goal), (3, .v (.int .i64 (nn : Int))), (4, .v (.int .i64 (d : Int))), (5, .ptr 0 0), (17, .ptr (nK + 1 + (0 + 1)) 0), (18, .ref q 2 0 ss.length), (19, .v (.int .i64 (i : Int))), (22, .ref (nJ + 1 + 3 + (0 + 1 + 1)) 2 0 ss.length), (23, .v (.int .i64 (t : Int))), (101, .sl k (ss.map stc)), (102, .v (.int .i64 (ss.length : Int))), (103, .v (.int .i64 (t : Int))), (112, .sl ((ss.getD t default).2.2.getD 0 default).2.1 ((brs ss t).map brc)), (113, .v (.int .i64 ((brs ss t).length : Int))), (114, .v (.int .i64 (j : Int)))]) (fun ⟨j, w⟩ => [((nJ + 1 + 3 + (0 + 1 + 1)), { cells := ((w).map ivc).flatten, sz := 2, elem := (112), st := 0 }), (q, { cells := ((us).map ivc).flatten, sz := 2, elem := (112), st := 0 }), ((nK + 1 + (0 + 1)), { cells := ivc (d ^ i), sz := 2, elem := (112), st := 0 }), (0, { cells := [.sl k (ss.map stc)], sz := 1, elem := (26), st := 0 })]) (fun ⟨j, w⟩ n => j ≤ (brs ss t).length ∧ w.length = ss.length ∧ (∀ a : Nat, a < t → w.getD a default = hsum d (brs ss a) us (brs ss a).length) ∧ w.getD t default = hsum d (brs ss t) us j ∧ (∀ a : Nat, t < a → a < ss.length → w.getD a default = 0) ∧ nJ + 6 < n) (fun ⟨j, w⟩ => (brs ss t).length - j) (0, ws) ⟨J, J, J, J, J, J, J, J, J, J, J, J, J, J, J, J, trivial⟩ ⟨gG, gG, gG, gG, trivial⟩ ⟨Nat.zero_le _, hwl, hws, hw0 t om om, fun a ha hb => hw0 a om hb, om⟩ ?_
 rintro ⟨j, w⟩ n hF
 change WC _ _ _ _ _ (_ :: _) (_ :: _) n _
 obtain ⟨hjl, hxl, hxs, hxt, hx0, hn10⟩ := hF
 refine Rg 1 J <| aA (bR J J) J <| aT (fun h115 => ?_) (fun h115 => ?_)
 rotate_left
 ·refine Nk [1,2,3,4,5,17,18,19,22,23,101,102,103,112,113,114,115] J <| aS J <| aW <| aQ <| gT J <| aF <| Ck [1,2,3,4,5,17,18,19,22,101,102,103] J <| aE (z := 2) J <| aA (cI (((t + 1 : Nat) : Int)) (aM J J om) om) J <| Um J J <| Wn <| aG <| ⟨⟨t + 1, w⟩, ⟨J, J, J, J, J, J, J, J, J, J, J, J, trivial⟩, ⟨gG, gG, gG, gG, trivial⟩, ⟨om, hxl, fun a ha => ?_, fun a ha hb => hx0 a om hb, om⟩, by show ss.length - (t + 1) < ss.length - t; omega⟩
  by_cases e : a = t
  ·rw [e, hxt, show j = (brs ss t).length by omega]
  ·exact hxs a om
 refine Nk [1,2,3,4,5,17,18,19,22,23,101,102,103,112,113,114,115] J <| aN J <| aD <| aI <| Rg 4 J <| aA (bX J J J J J om J) J <| aA (dN (l := .agg (brc ((brs ss t).getD j default))) J J J) J <| bE (eZ J) J <| aU (cL (cs' := brc ((brs ss t).getD j default)) J J J g0 J J J J) <| Nk [1,2,3,4,5,17,18,19,22,23,26,101,102,103,112,113,114] J ?_
 have hb0 : ((brs ss t).getD j default).2.2 ≠ 0 := by have := (hvb.vn j om).1; omega
 have hto := hvb.to j om
 obtain ⟨hq8, hw8⟩ := hvb.wgt hrg.2.2 (i := j) om
 have hui := hub _ (bP (us := us) (i := ((brs ss t).getD j default).1.toNat) om)
 have hhs := hsum_bd hvb hrg.2.2 hul hub j om
 have hlb := hvb.len
 obtain ⟨hl1, hl2, hl3⟩ := hits_len (i := i) om hui hw8 hhs om
 rw [← hxt] at hl3
 have hw8' : 0 ≤ d.tdiv ((brs ss t).getD j default).2.2 * ((brs ss t).getD j default).2.1 ∧ d.tdiv ((brs ss t).getD j default).2.2 * ((brs ss t).getD j default).2.1 ≤ 1000 := hw8
 refine eO (z := 25) J kR <| Dm J J <| Dm J J <| Dm J J <| Dm J J <| aL (cU (j := t) J J J J om om J) J <| aL (bD (b := lvI (w.getD t default)) (fW (f := ivc) (us := w) J J gG (fun _ => rfl) J (by decide) om J) J) J ?_
 refine Dm J J <| aL (bF J J J J J) J <| aL (aO J J gG J J) J ?_
 refine aL (cU (j := ((brs ss t).getD j default).1.toNat) J J J J om om J) J <| aL (bD (b := lvI (us.getD ((brs ss t).getD j default).1.toNat default)) (fW (f := ivc) (us := us) J J gG (fun _ => rfl) J (by decide) om J) J) J ?_
 refine Dm J J <| aL (bF J J J J J) J <| aL (bF J J J J J) J <| aL (aO J J gG J J) J ?_
 refine aL (jC J J hb0 om) J <| aL (bF J J J J J) J <| aL (bF J J J J J) J <| aL (aO J J gG J J) J ?_
 refine aL (eJ J J om) J <| aL (bD (b := lvI (wgt d ((brs ss t).getD j default))) (aJ J (jD _ om) dD) J) J <| aL (aJ J (hJ (us.getD ((brs ss t).getD j default).1.toNat default) (wgt d ((brs ss t).getD j default)) om om) (bK (by intro c hc; simp only [List.mem_cons, List.not_mem_nil, or_false] at hc; rcases hc with rfl | rfl; exact (.agg _ (gQ _)); exact (.agg _ (gQ _))))) J <| aL (bD (b := lvI ((w.getD t default) + (us.getD ((brs ss t).getD j default).1.toNat default) * wgt d ((brs ss t).getD j default))) (aJ J (oD (w.getD t default) ((us.getD ((brs ss t).getD j default).1.toNat default) * wgt d ((brs ss t).getD j default)) om (by have := dP (us.getD ((brs ss t).getD j default).1.toNat default) (wgt d ((brs ss t).getD j default)); omega)) (bK (by intro c hc; simp only [List.mem_cons, List.not_mem_nil, or_false] at hc; rcases hc with rfl | rfl; exact (.agg _ (gQ _)); exact (.agg _ (gQ _))))) J) J <| aL (cU (j := t) J J J J om om J) J <| dB (fF (f := ivc) (us := w) ((w.getD t default) + (us.getD ((brs ss t).getD j default).1.toNat default) * wgt d ((brs ss t).getD j default)) J J J gG (fun _ => rfl) J J om J) ?_
 refine bO (iS (rn n) (by simp only [List.reverse_cons, List.reverse_nil, List.nil_append, List.cons_append, List.map_cons, List.map_nil, ren, keys, Nat.add_assoc, rn_add, show rn n q = 0 from rN om, show rn n (nJ + 6) = 0 from rN om]; kernel_rfl)) J <| aF <| Ck [1,2,3,4,5,17,18,19,22,23,101,102,103,112,113,114] J <| aE (z := 2) J <| aA (cI (((j + 1 : Nat) : Int)) (aM J J om) om) J <| Um J J <| Wn <| aG <| ⟨⟨j + 1, w.set t ((w.getD t default) + (us.getD ((brs ss t).getD j default).1.toNat default) * wgt d ((brs ss t).getD j default))⟩, ⟨J, J, J, J, J, J, J, J, J, J, J, J, J, J, J, J, trivial⟩, ⟨gG, gG, gG, gG, trivial⟩, ⟨om, by rw [List.length_set]; exact hxl, fun a ha => by rw [bQ om, if_neg om]; exact hxs a ha, ?_, fun a ha hb => by rw [bQ om, if_neg om]; exact hx0 a ha hb, om⟩, by show (brs ss t).length - (j + 1) < (brs ss t).length - j; omega⟩
 rw [bQ om, if_pos rfl, hxt]; rfl
end Go.Proofs.Ytcblgjaomljikaa
namespace Go.Proofs.Ytcblgjaomljikaa
open Go.Ab Go.RowKit
theorem kI (a b : Int) : Run Try.prog T E0 (.call 126 [.v (.int .i64 (a : Int)), .v (.int .i64 (b : Int))] (lvM (a, b))) := by
 refine bC Try.func126 J J (dG J) <| Rg 1 J <| bE (eZ J) J <| Wn <| Rg 4 J <| Um J J <| Um J J <| aA (eU (cs := mc (a, b)) J J J J J) J <| aU (cL (cs' := mc (a, b)) J J J g0 J J J J) <| Wn <| aK ?_
 exact post (n := 0) (.inr J) J J (by simp)
theorem kJ (a b : Int) : Run Try.prog T E0 (.call 10 [.v (.int .i64 (a : Int)), .v (.int .i64 (b : Int))] (lvM (a, b))) := by
 refine bC Try.func10 J J (dG J) <| Rg 1 J <| bE (eZ J) J <| Wn <| Rg 4 J <| Um J J <| Um J J <| aA (eU (cs := mc (a, b)) J J J J J) J <| aU (cL (cs' := mc (a, b)) J J J g0 J J J J) <| Wn <| aK ?_
 exact post (n := 0) (.inr J) J J (by simp)
theorem pX  : Run Try.prog T E0 (.call 53 [] (lvMo 2 rollS)) := by
 refine bC Try.func53 J J (dG J) <| Rg 1 J <| bE (eZ J) J <| Wn <| Rg 20 J <| aA (aJ J (kI 0 1) dD) J <| aA (aJ J (kI 1 2) dD) J <| aA (eU (cs := brc (0, (1, 2))) J J J J J) J <| aA (aJ J (kI 1 4) dD) J <| aA (eU (cs := brc (1, (1, 4))) J J J J J) J <| aA (aJ J (kI 1 4) dD) J <| aA (eU (cs := brc (2, (1, 4))) J J J J J) J <| aA (bD (b := .sl 2 (rollC.2.2.map brc)) (cJ (cs := [_, _, _, _, _, _, _, _, _]) (rows := [[_, _, _], [_, _, _], [_, _, _]]) J J (by decide) J J J) J) J <| aA (eU (cs := chc rollC) J J J J J) J <| aA (bD (b := .sl 2 ([rollC].map chc)) (cJ (cs := [_, _, _]) (rows := [[_, _, _]]) J J (by decide) J J J) J) J <| aA (eU (cs := stc ((0, 0), (2, [rollC]))) J J J J J) J <| aA (aJ J (rK 1) dD) J <| aA (bD (b := .sl 2 ([lpc 1].map chc)) (cJ (cs := [_, _, _]) (rows := [[_, _, _]]) J J (by decide) J J J) J) J <| aA (eU (cs := stc ((0, 0), (2, [lpc 1]))) J J J J J) J <| aA (aJ J (rK 2) dD) J <| aA (bD (b := .sl 2 ([lpc 2].map chc)) (cJ (cs := [_, _, _]) (rows := [[_, _, _]]) J J (by decide) J J J) J) J <| aA (eU (cs := stc ((0, 1), (2, [lpc 2]))) J J J J J) J <| aA (bD (b := .sl 2 (rollS.map stc)) (cJ (cs := [_, _, _, _, _, _, _, _, _]) (rows := [[_, _, _], [_, _, _], [_, _, _]]) J J (by decide) J J J) J) J <| aA (eU (cs := [.sl 2 (rollS.map stc)]) J J J J J) J ?_
 refine aU (cL (cs' := [.sl 2 (rollS.map stc)]) J J J g0 J J J J) <| Nk [0] J <| aK ?_
 exact post (n := 0) (.inr J) J J oG
theorem eG  : Run Try.prog T E0 (.call 8 [] (.v (.bool true))) := by
 refine bC Try.func8 J J (dG J) <| Rg 1 J <| Ua J J <| Wn <| Rg 10 J <| aA (aJ J (pX) dD) J <| aA (aJ J (kJ 1 3) dD) J <| aA (aJ J (kJ 1 2) dD) J <| aA (bD (b := .sl 2 (([(1, 3), (1, 2)] : List NM).map mc)) (cJ (cs := [_, _, _, _]) (rows := [[_, _], [_, _]]) J J (by decide) J J J) J) J <| aA (bD (b := .tup [lvL (kd2 2) [0, 0, 1], .v (.int .i64 0)]) (aJ J (lG 2 2 rollS 0 [(1, 3), (1, 2)] roll_is (by decide) (iv_small _ (by decide))) (bK (by intro c hc; simp only [List.mem_cons, List.not_mem_nil, or_false] at hc; rcases hc with rfl | rfl | rfl; exact oG; exact (.v _); exact (.sl _ _ (cB pE (us := [(1, 3), (1, 2)])))))) roll_run1) J <| Um J J <| aA (dL J J) J <| aA (dL J J) J <| Ua J J <| Ua J J <| Wn <| Rg 9 J <| aA (aJ J (pX) dD) J <| aA (aJ J (kJ 3 4) dD) J <| aA (bD (b := .sl 2 (([(3, 4)] : List NM).map mc)) (cJ (cs := [_, _]) (rows := [[_, _]]) J J (by decide) J J J) J) J <| aA (bD (b := .tup [lvL (kd2 1) [0, 2], .v (.int .i64 0)]) (aJ J (lG 2 2 rollS 0 [(3, 4)] roll_is (by decide) (iv_small _ (by decide))) (bK (by intro c hc; simp only [List.mem_cons, List.not_mem_nil, or_false] at hc; rcases hc with rfl | rfl | rfl; exact oG; exact (.v _); exact (.sl _ _ (cB pE (us := [(3, 4)])))))) roll_run2) J <| Um J J <| aA (dL J J) J <| aA (dL J J) J ?_
 refine Ua J J <| Ua J J <| Nk [1,2,3,4] J <| Rg 8 J <| aA (aJ J (pX) dD) J <| aA (bD (b := lvL 2 [2]) (cJ (cs := [_]) (rows := [[_]]) J J (by decide) J J J) J) J <| aA (bD (b := .tup [.v (.int .i64 6), .v (.int .i64 0)]) (aJ J (hits_run 2 2 rollS 0 [2] 2 4 roll_is (by decide)) (bK (by intro c hc; simp only [List.mem_cons, List.not_mem_nil, or_false] at hc; rcases hc with rfl | rfl | rfl | rfl | rfl; exact oG; exact (.v _); exact (lN _ _); exact (.v _); exact (.v _)))) roll_hit) J <| Um J J <| aA (dL J J) J <| aA (dL J J) J <| Ua J J <| Ua J J <| Wn <| Rg 25 J <| Um J J <| aA (dR J J) J <| aT (fun h29 => ?_) (fun h29 => ?_)
 rotate_left
 ·refine Um J J <| K1 J J <| K1 J J <| K1 J J <| aA (bJ J J) J <| Um J J <| K1 J J <| K1 J J <| aA (bJ J J) J <| Um J J <| K1 J J <| K1 J J <| K1 J J <| aA (bJ J J) J <| Um J J <| K1 J J <| K1 J J <| aA (bJ J J) J <| Um J J <| K1 J J <| K1 J J <| aA (bJ J J) J <| Ua J J <| cM ?_
  refine Ck [0] J <| aK ?_
  first | exact post (n := 0) (.inr rfl) rfl rfl (by simp) | (exfalso; omega) | (exfalso; simp_all)
 refine Um J J <| aH J (dQ J) J <| aH J (bD (b := lvL 2 [0, 0, 1]) (cJ (cs := [_, _, _]) (rows := [[_], [_], [_]]) J J (by decide) J J J) J) J <| aH J (bD (b := .v (.bool true)) (aJ J (leq_run (kd2 2) 2 [0, 0, 1] [0, 0, 1] (by decide)) (bK (by intro c hc; simp only [List.mem_cons, List.not_mem_nil, or_false] at hc; rcases hc with rfl | rfl; exact (lN _ _); exact (lN _ _)))) J) J <| aA (bI J J) J <| Um J J <| dZ (fun h35 => ?_) (fun h35 => ?_)
 rotate_left
 ·refine K1 J J <| K1 J J <| aA (bJ J J) J <| Um J J <| K1 J J <| K1 J J <| K1 J J <| aA (bJ J J) J <| Um J J <| K1 J J <| K1 J J <| aA (bJ J J) J <| Um J J <| K1 J J <| K1 J J <| aA (bJ J J) J <| Ua J J <| Nk [0] J <| aK ?_
  first | exact post (n := 0) (.inr rfl) rfl rfl (by simp) | (exfalso; omega) | (exfalso; simp_all)
 refine aH J (dQ J) J <| aH J (dR J J) J <| aT (fun h37 => ?_) (fun h37 => ?_)
 rotate_left
 ·refine aA (bI J J) J <| Um J J <| K1 J J <| K1 J J <| K1 J J <| aA (bJ J J) J <| Um J J <| K1 J J <| K1 J J <| aA (bJ J J) J <| Um J J <| K1 J J <| K1 J J <| aA (bJ J J) J <| Ua J J <| Nk [0] J <| aK ?_
  first | exact post (n := 0) (.inr rfl) rfl rfl (by simp) | (exfalso; omega) | (exfalso; simp_all)
 refine aA (bI J J) J <| Um J J <| aH J (dQ J) J <| aH J (bD (b := lvL 2 [0, 2]) (cJ (cs := [_, _]) (rows := [[_], [_]]) J J (by decide) J J J) J) J <| aH J (bD (b := .v (.bool true)) (aJ J (leq_run (kd2 1) 2 [0, 2] [0, 2] (by decide)) (bK (by intro c hc; simp only [List.mem_cons, List.not_mem_nil, or_false] at hc; rcases hc with rfl | rfl; exact (lN _ _); exact (lN _ _)))) J) J <| aA (bI J J) J <| Um J J <| dZ (fun h44 => ?_) (fun h44 => ?_)
 rotate_left
 ·refine K1 J J <| K1 J J <| aA (bJ J J) J <| Um J J <| K1 J J <| K1 J J <| aA (bJ J J) J <| Ua J J <| Nk [0] J <| aK ?_
  first | exact post (n := 0) (.inr rfl) rfl rfl (by simp) | (exfalso; omega) | (exfalso; simp_all)
 refine aH J (dQ J) J <| aH J (dR J J) J <| aT (fun h46 => ?_) (fun h46 => ?_)
 ·refine aA (bI J J) J <| Um J J <| aH J (dQ J) J <| aH J (dR J J) J <| aA (bI J J) J <| Ua J J <| Nk [0] J <| aK ?_
  first | exact post (n := 0) (.inr rfl) rfl rfl (by simp) | (exfalso; omega) | (exfalso; simp_all)
 refine aA (bI J J) J <| Um J J <| K1 J J <| K1 J J <| aA (bJ J J) J <| Ua J J <| Nk [0] J <| aK ?_
 first | exact post (n := 0) (.inr rfl) rfl rfl (by simp) | (exfalso; omega) | (exfalso; simp_all)
end Go.Proofs.Ytcblgjaomljikaa
namespace Go.Proofs.Ytcblgjaomljikaa
open Go.Ab Go.RowKit
theorem f12_run (z : Int) (hz : 0 ≤ z ∧ z ≤ 12) : Run Try.prog T E0 (.call 9 [.v (.int .i64 (z : Int)), .v (.int .i64 (12 : Int))] (.tup [lvM (f12 z), .v (.int .i64 0)])) := by
 refine bC Try.func9 J J (dG J) <| Rg 2 J <| bE (eZ J) J <| Ua J J <| Wn <| aC <| Rg 2 J <| Um J J <| aA (bD (b := .v (.bool false)) (dR J J) J) J <| Wn <| aS J <| aD <| Rg 10 J <| Um J J <| aA (aJ J (oP z (by unfold I64; omega)) dD) J <| Um J J <| aA (aJ J (oP 12 (by unfold I64; omega)) dD) J <| aA (aJ J (nmake_run z 12 (by decide) (by have := len30_le z; have := dE (v := z) om; omega) (by have := len30_le 12; have := dE (v := 12) (by decide); omega)) dD) J <| aA (bD (b := .tup [lvM (f12 z), .v (.int .i64 0)]) (aJ J (nnum_run (Rat.divInt z 12)) dD) (fC hz).lvO) J <| aA (dL J J) J <| aA (dL J J) J <| aU (cL (cs' := mc (f12 z)) J J J g0 J J J J) <| Ua J J <| cM ?_
 refine aK ?_
 exact post (n := 0) (.inr J) J J (dF oG (.v _))
theorem simclock_run (kk a nn : Int) (kl : Nat) (ds : List Int) : Run Try.prog T E0 (.call 3 [.v (.int .i64 (kk : Int)), .v (.int .i64 (a : Int)), .v (.int .i64 (nn : Int)), lvL kl ds] (.v (.bool true))) := by
 refine bC Try.func3 J J (dG J) <| Rg 1 J <| Ua J J <| Wn <| aC <| Rg 27 J <| Um J J <| aA (bR J J) J <| aT (fun h31 => ?_) (fun h31 => ?_)
 ·refine Um J J <| K1 J J <| K1 J J <| aA (bI J J) J <| Um J J <| K1 J J <| K1 J J <| aA (bI J J) J <| Um J J <| K1 J J <| K1 J J <| aA (bI J J) J <| Um J J <| K1 J J <| K1 J J <| aA (bI J J) J <| Um J J <| K1 J J <| K1 J J <| aA (bI J J) J <| Um J J <| K1 J J <| K1 J J <| K1 J J ?_
  refine aA (bI J J) J <| Nk [0,1,2,3,56] J <| aN J <| aC <| Rg 2 J <| aA (aJ J (eG) dD) J <| Ua J J <| Wn <| aV <| post (n := 0) (.inr J) J ?_ dD
  rfl
 refine Um J J <| aH J (dQ J) J <| aH J (dW J J) J <| aT (fun h34 => ?_) (fun h34 => ?_)
 ·refine aA (bJ J J) J <| Um J J <| K1 J J <| K1 J J <| aA (bI J J) J <| Um J J <| K1 J J <| K1 J J <| aA (bI J J) J <| Um J J <| K1 J J <| K1 J J <| aA (bI J J) J <| Um J J <| K1 J J <| K1 J J <| aA (bI J J) J <| Um J J <| K1 J J <| K1 J J <| K1 J J <| aA (bI J J) J <| Nk [0,1,2,3,56] J ?_
  refine aN J <| aC <| Rg 2 J <| aA (aJ J (eG) dD) J <| Ua J J <| Wn <| aV ?_
  exact post (n := 0) (.inr J) J J (by simp)
 refine aA (bJ J J) J <| Um J J <| aH J (dQ J) J <| aH J (bR J J) J <| aT (fun h38 => ?_) (fun h38 => ?_)
 ·refine aA (bJ J J) J <| Um J J <| K1 J J <| K1 J J <| aA (bI J J) J <| Um J J <| K1 J J <| K1 J J <| aA (bI J J) J <| Um J J <| K1 J J <| K1 J J <| aA (bI J J) J <| Um J J <| K1 J J <| K1 J J <| K1 J J <| aA (bI J J) J <| Nk [0,1,2,3,56] J <| aN J <| aC <| Rg 2 J <| aA (aJ J (eG) dD) J ?_
  refine Ua J J <| Wn <| aV ?_
  exact post (n := 0) (.inr J) J J (by simp)
 refine aA (bJ J J) J <| Um J J <| aH J (dQ J) J <| aH J (dW J J) J <| aT (fun h42 => ?_) (fun h42 => ?_)
 ·refine aA (bJ J J) J <| Um J J <| K1 J J <| K1 J J <| aA (bI J J) J <| Um J J <| K1 J J <| K1 J J <| aA (bI J J) J <| Um J J <| K1 J J <| K1 J J <| K1 J J <| aA (bI J J) J <| Nk [0,1,2,3,56] J <| aN J <| aC <| Rg 2 J <| aA (aJ J (eG) dD) J <| Ua J J <| Wn <| aV ?_
  exact post (n := 0) (.inr J) J J (by simp)
 refine aA (bJ J J) J <| Um J J <| aH J (dQ J) J <| aH J (bR J J) J <| aT (fun h46 => ?_) (fun h46 => ?_)
 ·refine aA (bJ J J) J <| Um J J <| K1 J J <| K1 J J <| aA (bI J J) J <| Um J J <| K1 J J <| K1 J J <| K1 J J <| aA (bI J J) J <| Nk [0,1,2,3,56] J <| aN J <| aC <| Rg 2 J <| aA (aJ J (eG) dD) J <| Ua J J <| Wn <| aV ?_
  exact post (n := 0) (.inr J) J J (by simp)
 refine aA (bJ J J) J <| Um J J <| aH J (dQ J) J <| aH J (dW J J) J <| aT (fun h50 => ?_) (fun h50 => ?_)
 ·refine aA (bJ J J) J <| Um J J <| K1 J J <| K1 J J <| K1 J J <| aA (bI J J) J <| Nk [0,1,2,3,56] J <| aN J <| aC <| Rg 2 J <| aA (aJ J (eG) dD) J <| Ua J J <| Wn <| aV ?_
  exact post (n := 0) (.inr J) J J (by simp)
 refine aA (bJ J J) J <| Um J J <| aH J (dQ J) J <| aH J (aX J J) J <| aH J (dW J J) J <| aT (fun h55 => ?_) (fun h55 => ?_)
 ·refine aA (bJ J J) J <| Nk [0,1,2,3,56] J <| aN J <| aC <| Rg 2 J <| aA (aJ J (eG) dD) J <| Ua J J <| Wn <| aV ?_
  exact post (n := 0) (.inr J) J J (by simp)
 refine aA (bJ J J) J <| Nk [0,1,2,3,56] J <| aS J <| aD ?_
 obtain ⟨K, rfl⟩ : ∃ K : Nat, kk = (K : Int) := ⟨kk.toNat, om⟩
 have hK : 2 ≤ K ∧ K ≤ 40 := by omega
 have ha : 1 ≤ a ∧ a ≤ 11 := by omega
 have hn16 : 0 ≤ nn ∧ nn ≤ 16 := by omega
 have hdl : ds.length ≤ 200 := by omega
 have hIS := clk_is (K := K) (a := a) hK ha
 refine Rg 3 J <| aA (eU (cs := [.sl 0 []]) J J J J J) J <| bE (eZ J) J <| aU (cL (cs' := [.sl 0 []]) J J J g0 J J J J) <| Wn <| Rg 8 J <| Um J J <| aA (aJ J (f12_run a om) dD) J <| Um J J <| aA (dL J J) J <| aA (dL J J) J <| bE (eZ J) J <| aU (cL (cs' := mc (f12 a)) J J J g0 J J J J) <| Ua J J <| Wn <| Rg 9 J <| Um J J <| aA (bM J J om) J <| aA (aJ J (f12_run (12 - a) om) dD) J <| Um J J <| aA (dL J J) J <| aA (dL J J) J <| bE (eZ J) J <| aU (cL (cs' := mc (f12 (12 - a))) J J J g0 J J J J) ?_
 refine Ua J J <| Nk [0,1,2,3,9,10,12] J <| aC <| Rg 2 J <| Um J J <| Um J J <| Wn <| aI <| aZ (α := Nat × Nat) (fun ⟨i, q⟩ => [(0, .v (.int .i64 (K : Int))), (1, .v (.int .i64 (a : Int))), (2, .v (.int .i64 (nn : Int))), (3, lvL kl ds), (9, .ptr 29 0), (10, .ptr 36 0), (12, .ptr 45 0), (70, .v (.int .i64 (K : Int))), (71, .v (.int .i64 (i : Int)))]) (fun ⟨i, q⟩ => outH q 3 (40) ((tab i (clkT K a)).map stc) [(45, { cells := mc (f12 (12 - a)), sz := 2, elem := (28), st := 0 }), (36, { cells := mc (f12 a), sz := 2, elem := (28), st := 0 }), (29, { cells := [outV q 3 ((tab i (clkT K a)).map stc)], sz := 1, elem := (26), st := 0 })]) (fun ⟨i, q⟩ n => i ≤ K ∧ 45 < q ∧ q < n) (fun ⟨i, q⟩ => K - i) (0, 46) ⟨J, J, J, J, J, J, J, J, J, trivial⟩ ⟨(by repeat (first | exact g0 | refine g1 om ?_ | refine bH om ?_)), (by repeat (first | exact g0 | refine g1 om ?_ | refine bH om ?_)), (by repeat (first | exact g0 | refine g1 om ?_ | refine bH om ?_)), trivial⟩ ⟨Nat.zero_le _, om, om⟩ ?_
 rintro ⟨i, q⟩ n hF
 change WC _ _ _ _ _ (_ :: _) (outH _ _ _ _ _) n _
 obtain ⟨hi, hq, hqn⟩ := hF
 refine WC.regF (z := 1) J <| aA (bR J J) J <| aT (fun h72 => ?_) (fun h72 => ?_)
 ·refine Wn <| Fz.same [(0, _), (1, _), (2, _), (3, _), (9, _), (10, _), (12, _), (70, _), (71, _), (72, _)] _ ⟨J, J, J, J, J, J, J, J, J, J, trivial⟩ (fun _ _ h => h) <| aN J <| aD <| aI <| Rg 2 J <| Um J J <| Ua J J <| Wn <| bV (z := 12) J kR <| aL (aJ J (kJ 0 1) dD) J <| Dm J J <| aL (aO (l := lvM (f12 a)) J J (by repeat (first | exact g0 | refine g1 om ?_ | refine bH om ?_)) J J) J ?_
  refine aL (eU (cs := brc ((i : Int), f12 a)) J J J J J) J <| Dm J J <| aL (cI (((i + 1 : Nat) : Int)) (aM J J om) om) J <| aL (aO (l := lvM (f12 (12 - a))) J J (by repeat (first | exact g0 | refine g1 om ?_ | refine bH om ?_)) J J) J ?_
  refine aL (eU (cs := brc (((i + 1 : Nat) : Int), f12 (12 - a))) J J J J J) J <| aL (bD (b := .sl 2 (([((i : Int), f12 a), (((i + 1 : Nat) : Int), f12 (12 - a))] : List BR).map brc)) (cJ (cs := [_, _, _, _, _, _]) (rows := [[_, _, _], [_, _, _]]) J J (by decide) J J J) J) J <| aL (bD (b := lvC ((0, 1), (2, [((i : Int), f12 a), (((i + 1 : Nat) : Int), f12 (12 - a))]))) (eU (cs := [_, _, _]) J J J J J) J) J <| WD.S (eZ J) J <| dB (cL (cs' := chc ((0, 1), (2, [((i : Int), f12 a), (((i + 1 : Nat) : Int), f12 (12 - a))]))) J J J g0 J J J J) <| bO (iS (rn n) (by simp only [List.reverse_cons, List.reverse_nil, List.nil_append, List.cons_append, List.map_cons, List.map_nil, ren, keys, Nat.add_assoc, rn_add, show rn n 36 = 0 from rN om, show rn n 45 = 0 from rN om]; kernel_rfl)) J <| Ck [0,1,2,3,9,10,12,14,15,70,71] J <| aC <| Rg 4 J <| Um J J <| Um J J <| aA (bM J J om) J <| aA (dR J J) J <| aT (fun h87 => ?_) (fun h87 => ?_)
  rotate_left
  ·refine Nk [0,1,2,3,9,10,12,14,15,70,71,87] J <| aS J <| aD <| aE (z := 9) J <| aA (bF J J J J J) J <| aA (aO J J (by repeat (first | exact g0 | refine g1 om ?_ | refine bH om ?_)) J J) J ?_
   refine aA (bD (b := lvC (clkC K a i)) (aO (l := lvC ((0, 1), (2, [((i : Int), f12 a), (((i + 1 : Nat) : Int), f12 (12 - a))]))) J J (by repeat (first | exact g0 | refine g1 om ?_ | refine bH om ?_)) J J) (clkC_F h87)) J ?_
   refine aA (bD (b := .sl 2 ([clkC K a i].map chc)) (cJ (cs := [_, _, _]) (rows := [[_, _, _]]) J J (by decide) J J J) J) J <| aA (bD (b := .agg (stc (clkT K a i))) (eU (cs := [_, _, _]) J J J J J) J) J <| aA (bD (b := .sl 2 ([clkT K a i].map stc)) (cJ (cs := [_, _, _]) (rows := [[_, _, _]]) J J (by decide) J J J) J) J <| gO (outH q 3 (40) ((tab i (clkT K a)).map stc) [(45, { cells := mc (f12 (12 - a)), sz := 2, elem := (28), st := 0 }), (36, { cells := mc (f12 a), sz := 2, elem := (28), st := 0 }), (29, { cells := [outV q 3 ((tab i (clkT K a)).map stc)], sz := 1, elem := (26), st := 0 })]) (subsM.get (dJ (q := q) (sz := 3) (el := (40)) (us := (tab i (clkT K a)).map stc) (h := [(45, { cells := mc (f12 (12 - a)), sz := 2, elem := (28), st := 0 }), (36, { cells := mc (f12 a), sz := 2, elem := (28), st := 0 }), (29, { cells := [outV q 3 ((tab i (clkT K a)).map stc)], sz := 1, elem := (26), st := 0 })]) (fun hne => by rw [eS hne]; repeat (first | exact g0 | refine g1 om ?_ | refine bH om ?_)) ⟨(by repeat (first | exact g0 | refine g1 om ?_ | refine bH om ?_)), (by repeat (first | exact g0 | refine g1 om ?_ | refine bH om ?_)), (by repeat (first | exact g0 | refine g1 om ?_ | refine bH om ?_)), trivial⟩)) ?_
   refine cO (te := ti40) (f := stc) (q := q) (us := (tab i (clkT K a))) (u := clkT K a i) J J J J J (fun _ => rfl) (by decide) (by show (2 * (((tab i (clkT K a))).length + 1) + 256) * 40 ≤ _; rw [kU]; omega) (by rw [kU]; omega) (gN om (gN om (gN om J))) (gN om (gN om (gN om J))) J <| aA (bF J J J J J) J <| aU (oStV J J J J J (by repeat (first | exact g0 | refine g1 om ?_ | refine bH om ?_))) ?_
   refine Wn <| aF <| Ck [0,1,2,3,9,10,12,70,71] J <| aE (z := 2) J <| aA (cI (((i + 1 : Nat) : Int)) (aM J J om) om) J <| Um J J <| Wn <| aG ?_
   have e1 : tab (i + 1) (clkT K a) = (tab i (clkT K a)) ++ [clkT K a i] := tab_succ _
   refine ⟨⟨i + 1, n + 1 + 2 + 12 + 4 + 6⟩, ⟨J, J, J, J, J, J, J, J, J, trivial⟩, by dsimp only; rw [e1]; exact dJ (fun hne => by rw [eS hne]; repeat (first | exact g0 | refine g1 om ?_ | refine bH om ?_)) ⟨(by repeat (first | exact g0 | refine g1 om ?_ | refine bH om ?_)), (by repeat (first | exact g0 | refine g1 om ?_ | refine bH om ?_)), (by repeat (first | exact g0 | refine g1 om ?_ | refine bH om ?_)), trivial⟩, ⟨om, om, om⟩, by show K - (i + 1) < K - i; omega⟩
  refine Nk [0,1,2,3,9,10,12,14,15,70,71,87] J <| aN J <| Rg 8 J <| aA (aO (l := lvM (f12 (12 - a))) J J (by repeat (first | exact g0 | refine g1 om ?_ | refine bH om ?_)) J J) J ?_
  refine aA (eU (cs := brc (0, f12 (12 - a))) J J J J J) J <| Um J J <| aA (aO (l := lvM (f12 a)) J J (by repeat (first | exact g0 | refine g1 om ?_ | refine bH om ?_)) J J) J ?_
  refine aA (eU (cs := brc ((i : Int), f12 a)) J J J J J) J <| aA (bD (b := .sl 2 (([(0, f12 (12 - a)), ((i : Int), f12 a)] : List BR).map brc)) (cJ (cs := [_, _, _, _, _, _]) (rows := [[_, _, _], [_, _, _]]) J J (by decide) J J J) J) J <| aA (bF J J J J J) J <| aU (cL (cs' := chc ((0, 1), (2, [(0, f12 (12 - a)), ((i : Int), f12 a)]))) J J J g0 J J J J) <| Nk [0,1,2,3,9,10,12,15,70,71] J <| aE (z := 9) J <| aA (bF J J J J J) J <| aA (aO J J (by repeat (first | exact g0 | refine g1 om ?_ | refine bH om ?_)) J J) J ?_
  refine aA (bD (b := lvC (clkC K a i)) (aO (l := lvC ((0, 1), (2, [(0, f12 (12 - a)), ((i : Int), f12 a)]))) J J (by repeat (first | exact g0 | refine g1 om ?_ | refine bH om ?_)) J J) (clkC_T h87)) J ?_
  refine aA (bD (b := .sl 2 ([clkC K a i].map chc)) (cJ (cs := [_, _, _]) (rows := [[_, _, _]]) J J (by decide) J J J) J) J <| aA (bD (b := .agg (stc (clkT K a i))) (eU (cs := [_, _, _]) J J J J J) J) J <| aA (bD (b := .sl 2 ([clkT K a i].map stc)) (cJ (cs := [_, _, _]) (rows := [[_, _, _]]) J J (by decide) J J J) J) J <| gO (outH q 3 (40) ((tab i (clkT K a)).map stc) [(45, { cells := mc (f12 (12 - a)), sz := 2, elem := (28), st := 0 }), (36, { cells := mc (f12 a), sz := 2, elem := (28), st := 0 }), (29, { cells := [outV q 3 ((tab i (clkT K a)).map stc)], sz := 1, elem := (26), st := 0 })]) (subsM.get (dJ (q := q) (sz := 3) (el := (40)) (us := (tab i (clkT K a)).map stc) (h := [(45, { cells := mc (f12 (12 - a)), sz := 2, elem := (28), st := 0 }), (36, { cells := mc (f12 a), sz := 2, elem := (28), st := 0 }), (29, { cells := [outV q 3 ((tab i (clkT K a)).map stc)], sz := 1, elem := (26), st := 0 })]) (fun hne => by rw [eS hne]; repeat (first | exact g0 | refine g1 om ?_ | refine bH om ?_)) ⟨(by repeat (first | exact g0 | refine g1 om ?_ | refine bH om ?_)), (by repeat (first | exact g0 | refine g1 om ?_ | refine bH om ?_)), (by repeat (first | exact g0 | refine g1 om ?_ | refine bH om ?_)), trivial⟩)) ?_
  refine cO (te := ti40) (f := stc) (q := q) (us := (tab i (clkT K a))) (u := clkT K a i) J J J J J (fun _ => rfl) (by decide) (by show (2 * (((tab i (clkT K a))).length + 1) + 256) * 40 ≤ _; rw [kU]; omega) (by rw [kU]; omega) (gN om (gN om (gN om J))) (gN om (gN om (gN om J))) J <| aA (bF J J J J J) J <| aU (oStV J J J J J (by repeat (first | exact g0 | refine g1 om ?_ | refine bH om ?_))) ?_
  refine Wn <| aF <| Ck [0,1,2,3,9,10,12,70,71] J <| aE (z := 2) J <| aA (cI (((i + 1 : Nat) : Int)) (aM J J om) om) J <| Um J J <| Wn <| aG ?_
  have e1 : tab (i + 1) (clkT K a) = (tab i (clkT K a)) ++ [clkT K a i] := tab_succ _
  refine ⟨⟨i + 1, n + 1 + 2 + 12 + 4 + 8 + 6⟩, ⟨J, J, J, J, J, J, J, J, J, trivial⟩, by dsimp only; rw [e1]; exact dJ (fun hne => by rw [eS hne]; repeat (first | exact g0 | refine g1 om ?_ | refine bH om ?_)) ⟨(by repeat (first | exact g0 | refine g1 om ?_ | refine bH om ?_)), (by repeat (first | exact g0 | refine g1 om ?_ | refine bH om ?_)), (by repeat (first | exact g0 | refine g1 om ?_ | refine bH om ?_)), trivial⟩, ⟨om, om, om⟩, by show K - (i + 1) < K - i; omega⟩
 refine cM ?_
 have hiz : K = i := by omega
 subst hiz
 refine Fz.weakH (outH q 3 (40) ((tab K (clkT K a)).map stc) ((29, { cells := [] ++ [outV q 3 ((tab K (clkT K a)).map stc)], sz := 1, elem := (26), st := 0 }) :: [])) (subsM.get (dJ (fun hne => by rw [eS hne]; repeat (first | exact g0 | refine g1 om ?_ | refine bH om ?_)) ⟨(by repeat (first | exact g0 | refine g1 om ?_ | refine bH om ?_)), trivial⟩)) ?_
 refine Fz.cellR (A := []) [(0, _), (1, _), (2, _), (3, _), (9, _), (10, _), (12, _), (70, _), (71, _), (72, _)] ⟨J, J, J, J, J, J, J, J, J, J, trivial⟩ om (by decide) (gH (f := stc) (n := 3) fun _ => rfl) (cB (f := stc) pF) J ?_
 rw [outR_kd]
 change _
 refine aS J <| aW <| aQ <| aR J <| Rg 1 J <| Ua J J <| Wn <| Rg 1 J <| Ua J J <| Wn <| aC <| Rg 3 J <| Um J J <| aA (aX J J) J <| Um J J <| Nk [0,1,2,9,16,17,104,105,106] J <| aI <| aZ (α := Nat × Nat × (List NM) × Int) (fun ⟨j, p, fs, w⟩ => [(0, .v (.int .i64 (K : Int))), (1, .v (.int .i64 (a : Int))), (2, .v (.int .i64 (nn : Int))), (9, .ptr 29 0), (16, outV p 2 (fs.map mc)), (17, .v (.int .i64 (w : Int))), (104, lvL kl ds), (105, .v (.int .i64 (ds.length : Int))), (106, .v (.int .i64 (j : Int)))]) (fun ⟨j, p, fs, w⟩ => outH p 2 (28) (fs.map mc) [(29, { cells := [.sl (kd (clkM K a).length) ((clkM K a).map stc)], sz := 1, elem := (26), st := 0 })]) (fun ⟨j, p, fs, w⟩ n => j ≤ ds.length ∧ fs = (ds.take j).map f12 ∧ w = (ds.take j).foldl (stepC K a) 0 ∧ (∀ d, d ∈ ds.take j → 0 ≤ d ∧ d ≤ 11) ∧ 29 < p ∧ p < n ∧ (0 ≤ w ∧ w < (K : Int))) (fun ⟨j, p, fs, w⟩ => ds.length - j) (0, 30, [], 0) ⟨J, J, J, J, J, J, J, J, J, trivial⟩ ⟨(by repeat (first | exact g0 | refine g1 om ?_ | refine bH om ?_)), trivial⟩ ⟨Nat.zero_le _, rfl, rfl, fun d hd => by simp at hd, om, om, om⟩ ?_
 rintro ⟨j, p, fs, w⟩ n hF
 change WC _ _ _ _ _ (_ :: _) (outH _ _ _ _ _) n _
 obtain ⟨hj, hfs, hw, hdr, hp, hpn, hwb⟩ := hF
 have hfl : fs.length = j := by rw [hfs]; simp; omega
 refine WC.regF (z := 1) J <| aA (bR J J) J <| aT (fun h107 => ?_) (fun h107 => ?_)
 rotate_left
 ·refine cM ?_
  have hjl : j = ds.length := by omega
  rw [List.take_of_length_le om] at hfs hw hdr
  subst hfs
  subst hw
  refine Fz.env (t := 16) (us := (ds.map f12).map mc) [(0, _), (1, _), (2, _), (9, _), (17, _), (104, _), (105, _), (106, _), (107, _)] ⟨J, J, J, J, J, J, J, J, J, trivial⟩ J (fun _ r o hr e => by rw [e] at hr; have h0 : getH [(29, { cells := [.sl (kd (clkM K a).length) ((clkM K a).map stc)], sz := 1, elem := (26), st := 0 })] p = none := gN om rfl; rw [h0] at hr; cases hr) (by decide) (gH (f := mc) (n := 2) fun _ => rfl) (cB pE) <| aS J <| aW <| aQ <| aR J ?_
  have hIV : IV (ds.map f12) := fun x hx => by obtain ⟨d, hd, rfl⟩ := List.mem_map.1 hx; have := (fC (z := d) (by have := hdr d hd; omega)).vn.all3; exact ⟨this.1, this.2.1⟩
  have hfl : (ds.map f12).length < 1099511627776 := by rw [List.length_map]; omega
  refine Rg 8 J <| aA (aO (l := lvMo (kd (clkM K a).length) (clkM K a)) J J gG J J) J ?_
  refine Um J J <| aA (bD (b := .tup [lvL (kd2 (ds.map f12).length) (runL (clkM K a) 0 ((ds.map f12).map nq)), .v (.int .i64 0)]) (aJ J (lG (kd (clkM K a).length) (kd ((ds.map f12).map mc).length) (clkM K a) 0 (ds.map f12) hIS hfl hIV) (bK (by intro c hc; simp only [List.mem_cons, List.not_mem_nil, or_false] at hc; rcases hc with rfl | rfl | rfl; exact oG; exact (.v _); exact (.sl _ _ (cB pE))))) (clk_runO hK ha hdl hdr)) J <| Um J J <| aA (dL J J) J <| aA (dL J J) J <| Ua J J <| Ua J J <| Nk [0,1,2,9,16,17,22,23] J <| Rg 8 J <| aA (aO (l := lvMo (kd (clkM K a).length) (clkM K a)) J J gG J J) J ?_
  refine Um J J <| aA (bD (b := .tup [lvL 1 (cmpL K ((ds.map f12).map fun a_1 => mapS (clkM K a) (nq a_1))), .v (.int .i64 0)]) (aJ J (joint_run (kd (clkM K a).length) (kd ((ds.map f12).map mc).length) (clkM K a) (ds.map f12) hIS hfl hIV) (bK (by intro c hc; simp only [List.mem_cons, List.not_mem_nil, or_false] at hc; rcases hc with rfl | rfl; exact oG; exact (.sl _ _ (cB pE))))) (clk_jntO hK ha hdl hdr)) J <| Um J J <| aA (dL J J) J <| aA (dL J J) J <| Ua J J <| Ua J J <| Nk [0,1,2,9,16,17,22,23,24,25] J <| Rg 9 J <| aA (aO (l := lvMo (kd (clkM K a).length) (clkM K a)) J J gG J J) J ?_
  refine aA (bD (b := lvL 2 [1]) (cJ (cs := [_]) (rows := [[_]]) J J (by decide) J J J) J) J <| Um J J <| aA (bD (b := .tup [.v (.int .i64 ((12 ^ nn.toNat) - (a ^ nn.toNat))), .v (.int .i64 0)]) (aJ J (hits_run (kd (clkM K a).length) 2 (clkM K a) 0 [1] nn 12 hIS (by show 1 < _; omega)) (bK (by intro c hc; simp only [List.mem_cons, List.not_mem_nil, or_false] at hc; rcases hc with rfl | rfl | rfl | rfl | rfl; exact oG; exact (.v _); exact (lN _ _); exact (.v _); exact (.v _)))) (clk_hitO hK ha hn16)) J <| Um J J <| aA (dL J J) J <| aA (dL J J) J <| Ua J J <| Ua J J <| Nk [0,1,2,16,17,22,23,24,25,26,27] J <| Rg 2 J <| Ua J J <| Ua J J <| Wn <| aC <| Rg 2 J <| Um J J <| Um J J <| Nk [0,1,16,17,22,23,24,25,26,27,28,29,159,160] J <| aI <| aZ (α := Nat × Int × Int) (fun ⟨i, x, y⟩ => [(0, .v (.int .i64 (K : Int))), (1, .v (.int .i64 (a : Int))), (16, .sl (kd ((ds.map f12).map mc).length) ((ds.map f12).map mc)), (17, .v (.int .i64 ((ds.foldl (stepC K a) 0) : Int))), (22, lvL (kd2 (ds.map f12).length) (runL (clkM K a) 0 ((ds.map f12).map nq))), (23, .v (.int .i64 (0 : Int))), (24, lvL 1 (cmpL K ((ds.map f12).map fun a_1 => mapS (clkM K a) (nq a_1)))), (25, .v (.int .i64 (0 : Int))), (26, .v (.int .i64 (((12 ^ nn.toNat) - (a ^ nn.toNat)) : Int))), (27, .v (.int .i64 (0 : Int))), (28, .v (.int .i64 (x : Int))), (29, .v (.int .i64 (y : Int))), (159, .v (.int .i64 (nn : Int))), (160, .v (.int .i64 (i : Int)))]) (fun ⟨i, x, y⟩ => []) (fun ⟨i, x, y⟩ n => (i : Int) ≤ nn ∧ x = 12 ^ i ∧ y = a ^ i) (fun ⟨i, x, y⟩ => nn.toNat - i) (0, 1, 1) ⟨J, J, J, J, J, J, J, J, J, J, J, J, J, J, trivial⟩ trivial ⟨om, (Int.pow_zero _).symm, (Int.pow_zero _).symm⟩ ?_
  rintro ⟨i, x, y⟩ n hF
  change WC _ _ _ _ _ (_ :: _) ([]) n _
  obtain ⟨hin, hx, hy⟩ := hF
  have hp12 := pow_12 i om
  have hpa := oF ha i
  refine Rg 1 J <| aA (bR J J) J <| aT (fun h161 => ?_) (fun h161 => ?_)
  ·refine Nk [0,1,16,17,22,23,24,25,26,27,28,29,159,160,161] J <| aN J <| aD <| aI ?_
   have hxy : 0 ≤ y * a ∧ y * a ≤ 184884258895036416 * 11 := by rw [hy]; exact clk_mul ha hin hn16
   refine aE (z := 7) J <| Um J J <| aA (cI ((x * 12)) (eJ J J om) J) J <| Um J J <| Um J J <| aA (eJ J J om) J <| Ua J J <| Ua J J <| Wn <| aF <| Ck [0,1,16,17,22,23,24,25,26,27,28,29,159,160] J <| aE (z := 2) J <| aA (cI (((i + 1 : Nat) : Int)) (aM J J om) om) J <| Um J J <| Wn <| aG <| ⟨⟨i + 1, x * 12, y * a⟩, ⟨J, J, J, J, J, J, J, J, J, J, J, J, J, J, trivial⟩, trivial, ⟨om, by rw [hx, Int.pow_succ], by rw [hy, Int.pow_succ]⟩, by show nn.toNat - (i + 1) < nn.toNat - i; omega⟩
  refine Nk [0,1,16,17,22,23,24,25,26,27,28,29,159,160,161] J <| aS J <| aW <| aQ <| aR J <| Ck [0,16,17,22,23,24,25,26,27,28,29] J ?_
  have hi2 : i = nn.toNat := by omega
  rw [hi2] at hx hy hp12 hpa
  refine Rg 51 J <| Um J J <| aA (bD (b := .v (.bool true)) (dR J J) (by simp)) J <| Um J J <| aH J (dQ J) J <| aH J (aX J J) J <| aH J (dQ J) J <| aH J (aX J J) J <| aH J (aM J J om) J <| aH J (bD (b := .v (.bool true)) (dR J J) (by rw [pZ, List.length_map]; simp)) J <| aA (bI J J) J <| Um J J <| aH J (dQ J) J <| aH J (dQ J) J <| aH J (aX J J) J <| aH J (bX (j := ds.length) J J J J (by rw [List.length_map]) (by rw [pZ]; simp) J) J <| aH J (cI ((ds.foldl (stepC K a) 0)) (dN J J J) (clk_end hK ha hdr)) J <| aH J (dQ J) J <| aH J (bD (b := .v (.bool true)) (dR J J) (by simp)) J <| aA (bI J J) J <| Um J J <| aH J (dQ J) J <| aH J (bD (b := .v (.bool true)) (dR J J) (by simp)) J <| aA (bI J J) J ?_
  refine Um J J <| aH J (dQ J) J <| aH J (aX J J) J <| aH J (dQ J) J <| aH J (bD (b := .v (.bool true)) (dR J J) (by rw [cmpL_len]; simp)) J <| aA (bI J J) J <| Um J J <| aH J (dQ J) J <| aH J (bX (j := 0) J J J J om (by rw [cmpL_len]; omega) J) J <| aH J (cI ((ds.foldl (stepC K a) 0)) (dN J J J) (clk_jnt hK ha hdr)) J <| aH J (dQ J) J <| aH J (bD (b := .v (.bool true)) (dR J J) (by simp)) J <| aA (bI J J) J <| Um J J <| aH J (dQ J) J <| aH J (bD (b := .v (.bool true)) (dR J J) (by simp)) J <| aA (bI J J) J <| Um J J <| aH J (dQ J) J <| aH J (dQ J) J <| aH J (dQ J) J <| aH J (cI ((x - y)) (bM J J om) J) J <| aH J (bD (b := .v (.bool true)) (dR J J) (by rw [hx, hy]; simp)) J <| aA (bI J J) J ?_
  refine Um J J <| aH J (aJ J (eG) dD) J <| aA (bI J J) J <| Ua J J <| Nk [8] J <| aK ?_
  exact post (n := 0) (.inr J) J J (by simp)
 refine Wn <| Fz.same [(0, _), (1, _), (2, _), (9, _), (16, _), (17, _), (104, _), (105, _), (106, _), (107, _)] _ ⟨J, J, J, J, J, J, J, J, J, J, trivial⟩ (fun _ _ h => h) <| aN J <| aD <| aI <| Rg 3 J <| aA (bX J J J J J om J) J <| aA (dN J J J) J <| Ua J J <| Wn <| aC <| Rg 6 J <| Um J J <| aA (bR J J) J <| aT (fun h111 => ?_) (fun h111 => ?_)
 ·refine Um J J <| K1 J J <| K1 J J <| aA (bI J J) J <| Nk [0,1,2,9,16,17,19,104,105,106,113,114,115] J <| aN J <| aC <| Rg 2 J <| aA (aJ J (eG) dD) J <| Ua J J <| Nk [8] J <| aV <| aP <| bT <| aP ?_
  exact post (n := 0) (.inr J) J J (by simp)
 refine Um J J <| aH J (dQ J) J <| aH J (dW J J) J <| aT (fun h114 => ?_) (fun h114 => ?_)
 ·refine aA (bJ J J) J <| Nk [0,1,2,9,16,17,19,104,105,106,113,114,115] J <| aN J <| aC <| Rg 2 J <| aA (aJ J (eG) dD) J <| Ua J J <| Nk [8] J <| aV <| aP <| bT <| aP ?_
  exact post (n := 0) (.inr J) J J (by simp)
 refine aA (bJ J J) J <| Nk [0,1,2,9,16,17,19,104,105,106,113,114,115] J <| aS J <| aD <| Rg 8 J <| Um J J <| aA (aJ J (f12_run (ds.getD j default) om) dD) J <| Um J J <| aA (dL J J) J <| aA (dL J J) J <| bE (eZ J) J <| aU (cL (cs' := mc (f12 (ds.getD j default))) J J J g0 J J J J) <| Ua J J <| Nk [0,1,2,9,16,17,19,20,104,105,106,113,114] J <| Rg 5 J <| Um J J <| aA (aO (l := lvM (f12 (ds.getD j default))) J J (by repeat (first | exact g0 | refine g1 om ?_ | refine bH om ?_)) J J) J ?_
 refine aA (cJ (cs := [_, _]) (rows := [[_, _]]) J J (by decide) J J J) J <| gO (outH p 2 (28) (fs.map mc) [(29, { cells := [.sl (kd (clkM K a).length) ((clkM K a).map stc)], sz := 1, elem := (26), st := 0 })]) (Hp.le_skip (gK om (gN om J)) (Hp.le_skip (gK om (gN om J)) (Hp.le_refl _))) <| cO (te := ti28) (f := mc) (q := p) (us := fs) (u := f12 (ds.getD j default)) J J J J J (fun _ => rfl) (by decide) (by show (2 * (fs.length + 1) + 256) * 16 ≤ _; omega) om (gN om J) (gN om J) J <| Ua J J <| Nk [0,1,2,9,16,17,19,104,105,106,113,114] J <| Rg 4 J <| Um J J <| Um J J <| aA (bM J J om) J <| aA (dR J J) J <| aT (fun h129 => ?_) (fun h129 => ?_)
 ·refine Nk [0,1,2,9,16,17,19,104,105,106,113,114,129] J <| bU J <| Rg 4 J <| Um J J <| Um J J <| aA (bM J J om) J <| aA (bR J J) J <| aT (fun h133 => ?_) (fun h133 => ?_)
  rotate_left
  ·refine Nk [0,1,2,9,16,17,104,105,106,113,114,133] J <| cC J <| cP <| aF <| aE (z := 2) J <| aA (cI (((j + 1 : Nat) : Int)) (aM J J om) om) J <| Um J J <| Wn <| aG <| ⟨⟨j + 1, _, fs ++ [f12 (ds.getD j default)], w⟩, ⟨J, J, J, J, J, J, J, J, J, trivial⟩, dJ (fun hne => by rw [eS hne]; exact g0) ⟨(by repeat (first | exact g0 | refine g1 om ?_ | refine bH om ?_)), trivial⟩, ⟨om, by rw [jK om, ← hfs], ?_, jI om hdr ⟨om, om⟩, om, om, om⟩, by show ds.length - (j + 1) < ds.length - j; omega⟩
   rw [jJ om, ← hw]
   unfold stepC
   rw [if_pos om, if_neg om]
  refine Nk [0,1,2,9,16,17,104,105,106,113,114,133] J <| bU J <| aE (z := 1) J <| Ua J J <| Wn <| aF <| aE (z := 2) J <| aA (cI (((j + 1 : Nat) : Int)) (aM J J om) om) J <| Um J J <| Wn <| aG <| ⟨⟨j + 1, _, fs ++ [f12 (ds.getD j default)], 0⟩, ⟨J, J, J, J, J, J, J, J, J, trivial⟩, dJ (fun hne => by rw [eS hne]; exact g0) ⟨(by repeat (first | exact g0 | refine g1 om ?_ | refine bH om ?_)), trivial⟩, ⟨om, by rw [jK om, ← hfs], ?_, jI om hdr ⟨om, om⟩, om, om, om⟩, by show ds.length - (j + 1) < ds.length - j; omega⟩
  rw [jJ om, ← hw]
  unfold stepC
  rw [if_pos om, if_pos om]
 refine Nk [0,1,2,9,16,17,19,104,105,106,113,114,129] J <| cC J <| Rg 3 J <| Um J J <| Um J J <| aA (fH J J) J <| aT (fun h136 => ?_) (fun h136 => ?_)
 rotate_left
 ·refine Nk [0,1,2,9,16,17,104,105,106,113,114,136] J <| cC J <| cP <| aF <| aE (z := 2) J <| aA (cI (((j + 1 : Nat) : Int)) (aM J J om) om) J <| Um J J <| Wn <| aG <| ⟨⟨j + 1, _, fs ++ [f12 (ds.getD j default)], w⟩, ⟨J, J, J, J, J, J, J, J, J, trivial⟩, dJ (fun hne => by rw [eS hne]; exact g0) ⟨(by repeat (first | exact g0 | refine g1 om ?_ | refine bH om ?_)), trivial⟩, ⟨om, by rw [jK om, ← hfs], ?_, jI om hdr ⟨om, om⟩, om, om, om⟩, by show ds.length - (j + 1) < ds.length - j; omega⟩
  rw [jJ om, ← hw]
  unfold stepC
  rw [if_neg om, if_pos om]
 refine Nk [0,1,2,9,16,17,104,105,106,113,114,136] J <| bU J <| aE (z := 3) J <| Um J J <| aA (cI ((w + 1)) (aM J J om) om) J <| Ua J J <| Wn <| aF <| aE (z := 2) J <| aA (cI (((j + 1 : Nat) : Int)) (aM J J om) om) J <| Um J J <| Wn <| aG <| ⟨⟨j + 1, _, fs ++ [f12 (ds.getD j default)], (w + 1)⟩, ⟨J, J, J, J, J, J, J, J, J, trivial⟩, dJ (fun hne => by rw [eS hne]; exact g0) ⟨(by repeat (first | exact g0 | refine g1 om ?_ | refine bH om ?_)), trivial⟩, ⟨om, by rw [jK om, ← hfs], ?_, jI om hdr ⟨om, om⟩, om, om, om⟩, by show ds.length - (j + 1) < ds.length - j; omega⟩
 rw [jJ om, ← hw]
 unfold stepC
 rw [if_neg om, if_neg om]
end Go.Proofs.Ytcblgjaomljikaa
