/- Part E of the proof of discountBest_holds: what it rests on. No condition. -/
import Derived.Test.YtahljdjhhapngaaGreatLawD
set_option linter.unusedVariables false
set_option linter.unusedSimpArgs false
set_option maxRecDepth 100000
set_option maxHeartbeats 8000000
namespace Go.Proofs.YtahljdjhhapngaaGreat
open Go.Ab Go.RowKit
theorem rsub_run (x y : X) (hx : Bd 34359738368 x.1) (hy : Bd 34359738368 y.1) : Run Tryz.prog T E0 (.call 82 [lvX x, lvX y] (lvX (xadd x (xneg y)))) := by
 refine bF Tryz.func82 J J (dH J) <| Rg 3 J <| aY (dK J J) J <| aY (dK J J) J <| aY (dQ J) J <| Wn <| bG (z := 5) J kR <| aC (aM (l := lvX x) J J (by repeat (first | exact g0 | refine g1 (by decide) ?_)) J J) J ?_
 refine aC (aM (l := lvX y) J J (by repeat (first | exact g0 | refine g1 (by decide) ?_)) J J) J ?_
 refine aC (aK J (kI y) dD) J <| aC (aK J (jM x (xneg y) (hx.mono (by decide)) (hy.neg.mono (by decide))) dD) J <| cA (cE (cs' := xc (xadd x (xneg y))) J J J (by repeat (first | exact g0 | refine g1 (by decide) ?_)) J J J J) ?_
 refine bD (aP kR) J <| aQ <| post (n := 0) (.inr J) J ?_ dD
 rfl
theorem rcmp_run (x y : X) (hx : Bd 34359738368 x.1) (hy : Bd 34359738368 y.1) : Run Tryz.prog T E0 (.call 76 [lvX x, lvX y] (.v (.int .i64 (x.1 - y.1).num.sign))) := by
 refine bF Tryz.func76 J J (dH J) <| Rg 3 J <| aY (dK J J) J <| aY (dK J J) J <| Ua J J <| Wn <| Rg 5 J <| aA (aM (l := lvX x) J J (by repeat (first | exact g0 | refine g1 (by decide) ?_)) J J) J ?_
 refine aA (aM (l := lvX y) J J (by repeat (first | exact g0 | refine g1 (by decide) ?_)) J J) J ?_
 refine aA (aK J (rsub_run x y hx hy) dD) J <| aA (bM (b := .v (.int .i64 (x.1 - y.1).num.sign)) (aK J (jB (xadd x (xneg y))) dD) (by rw [show (xadd x (xneg y)).1 = x.1 - y.1 from (Rat.sub_eq_add_neg _ _).symm])) J <| Ua J J <| Wn <| aQ <| post (n := 0) (.inr J) J ?_ dD
 rfl
theorem mchoice_run (m : Nat) (c : CH) (hI : IC c) (hm : m < 1000000) : Run Tryz.prog T E0 (.call 120 [.v (.int .i64 (m : Int)), lvC c] (.v (.bool (VC m c)))) := by
 refine bF Tryz.func120 J J (dH J) <| Rg 2 J <| aY (dK J J) J <| Ua J J <| Wn <| aB <| Rg 16 J <| aA (bC J J J J J) J <| aA (aM (l := lvM c.1) J J (by repeat (first | exact g0 | refine g1 (by decide) ?_)) J J) J ?_
 refine aA (aK J (lF c.1 hI.1 hI.2.1) dD) J <| eH (fun h11 => ?_) (fun h11 => ?_)
 rotate_left
 ·refine aA (dO J) J <| Um J J <| K1 J J <| K1 J J <| K1 J J <| K1 J J <| aA (bH J J) J <| Um J J <| K1 J J <| K1 J J <| K1 J J <| K1 J J <| aA (bH J J) J <| Nk [0,3,24] J <| aT J <| aB <| Rg 1 J <| Ua J J <| Wn <| bB <| post (n := 0) (.inr J) J ?_ dD
  exact congrArg (fun z => LV.v (.bool z)) (show false = VC m c from (VC_no1 h11).symm)
 refine aA (dO J) J <| Um J J <| aI J (bC J J J J J) J <| aI J (aM J J (by repeat (first | exact g0 | refine g1 (by decide) ?_)) J J) J ?_
 refine aI J (bA J J) J <| aI J (bP J J) J <| aX (fun h17 => ?_) (fun h17 => ?_)
 ·refine aA (bL J J) J <| Um J J <| K1 J J <| K1 J J <| K1 J J <| K1 J J <| aA (bH J J) J <| Nk [0,3,24] J <| aT J <| aB <| Rg 1 J <| Ua J J <| Wn <| bB <| post (n := 0) (.inr J) J ?_ dD
  exact congrArg (fun z => LV.v (.bool z)) (show false = VC m c from (VC_no2 om).symm)
 refine aA (bL J J) J <| Um J J <| aI J (bC J J J J J) J <| aI J (aM J J (by repeat (first | exact g0 | refine g1 (by decide) ?_)) J J) J ?_
 refine aI J (bA J J) J <| aI J (dU J J) J <| aX (fun h23 => ?_) (fun h23 => ?_)
 ·refine aA (bL J J) J <| Nk [0,3,24] J <| aT J <| aB <| Rg 1 J <| Ua J J <| Wn <| bB <| post (n := 0) (.inr J) J ?_ dD
  exact congrArg (fun z => LV.v (.bool z)) (show false = VC m c from (VC_no2 om).symm)
 refine aA (bL J J) J <| Nk [0,3,24] J <| aU J <| aF <| Rg 1 J <| aY (dQ J) J <| Wn <| Rg 1 J <| Ua J J <| Wn <| aB <| Rg 4 J <| aA (bC J J J J J) J <| aA (aM J J (by repeat (first | exact g0 | refine g1 (by decide) ?_)) J J) J ?_
 refine aA (bA J J) J <| Um J J <| Wn <| aJ <| aW (α := Nat × X) (fun ⟨i, s⟩ => [(0, .v (.int .i64 (m : Int))), (5, .ptr 18 0), (6, .v (.int .i64 (lastB c.2.2 i))), (26, .sl c.2.1 (c.2.2.map brc)), (27, .v (.int .i64 (c.2.2.length : Int))), (28, .v (.int .i64 (i : Int)))]) (fun ⟨i, s⟩ => [(18, { cells := xc (s), sz := 4, elem := 102, st := 0 })]) (fun ⟨i, s⟩ n => i ≤ c.2.2.length ∧ s.1 = psum c.2.2 i ∧ (∀ j, j < i → okB m c.2.2 j = true) ∧ 18 < n) (fun ⟨i, s⟩ => c.2.2.length - i) (0, x0) ⟨J, J, J, J, J, J, trivial⟩ ⟨(by repeat (first | exact g0 | refine g1 (by decide) ?_)), trivial⟩ ⟨Nat.zero_le _, rfl, fun j hj => absurd hj om, om⟩ ?_
 rintro ⟨i, s⟩ n hF
 change WC _ _ _ _ _ (_ :: _) (_ :: _) n _
 obtain ⟨hi, hs, hok, hn⟩ := hF
 refine Rg 1 J <| aA (bP J J) J <| aX (fun h29 => ?_) (fun h29 => ?_)
 rotate_left
 ·refine Wn <| aU J <| aV <| aR <| aO J ?_
  have hok' : ∀ j, j < c.2.2.length → okB m c.2.2 j = true := fun j hj => hok j om
  have hsb := mP (bs := c.2.2) i om (fun j hj => (nP (hok j hj)).1)
  have hil : i = c.2.2.length := by omega
  refine bG (z := 5) J kR <| aC (aM (l := lvX s) J J gG J J) J ?_
  refine aC (aK J (jD 1 (by unfold I64; omega)) dD) J <| aC (aK J (rcmp_run s (xint 1) (by rw [hs]; exact hsb.mono om) (Bd1.mono (by decide))) dD) J <| aC (bM (b := .v (.bool (decide (psum c.2.2 c.2.2.length = 1)))) (eI J J) (congrArg (fun z => LV.v (.bool z)) (decide_eq_decide.2 (by rw [show (s.1 - (xint 1).1) = psum c.2.2 c.2.2.length - 1 by rw [hs, hil]; rfl]; exact sign_one)))) J <| aC (gP J) J <| bD (aP kR) J <| aQ <| post (n := 0) (.inr J) J ?_ dD
  exact congrArg (fun z => LV.v (.bool z)) (show decide (psum c.2.2 c.2.2.length = 1) = VC m c from (VC_yes h11 om om hok').symm)
 refine Wn <| aT J <| aF <| aJ ?_
 have hIb := hI.2.2 _ (bE (us := c.2.2) (i := i) om)
 refine Rg 4 J <| aA (bO J J J J J om J) J <| aA (dF (l := .agg [_, _, _]) J J J) J <| aY (dQ J) J <| aZ (cE (cs' := [_, _, _]) J J J gG J J J J) ?_
 refine Wn <| aB <| Rg 22 J <| aA (bC J J J J J) J <| aA (aM J J gG J J) J ?_
 refine Um J J <| aA (nO J J) J <| aX (fun h35 => ?_) (fun h35 => ?_)
 ·refine Um J J <| K1 J J <| K1 J J <| K1 J J <| K1 J J <| aA (bH J J) J <| Um J J <| K1 J J <| K1 J J <| K1 J J <| K1 J J <| aA (bH J J) J <| Um J J <| K1 J J <| K1 J J <| K1 J J <| K1 J J <| aA (bH J J) J <| Nk [0,5,8,26,27,28,37,38,39,40,43,44,45,46,49,50,51,52,53] J <| aT J <| aB <| Rg 1 J <| Ua J J ?_
  refine Nk [4] J <| bB <| aN <| bJ <| aN <| post (n := 0) (.inr J) J ?_ dD
  exact congrArg (fun z => LV.v (.bool z)) (show false = VC m c from (jE (i := i) om (jL (.inl om))).symm)
 refine Um J J <| aI J (bC J J J J J) J <| aI J (aM J J gG J J) J ?_
 refine aI J (eG J) J <| aI J (gW J J) J <| aX (fun h40 => ?_) (fun h40 => ?_)
 ·refine aA (bL J J) J <| Um J J <| K1 J J <| K1 J J <| K1 J J <| K1 J J <| aA (bH J J) J <| Um J J <| K1 J J <| K1 J J <| K1 J J <| K1 J J <| aA (bH J J) J <| Nk [0,5,8,26,27,28,37,38,39,40,43,44,45,46,49,50,51,52,53] J <| aT J <| aB <| Rg 1 J <| Ua J J <| Nk [4] J <| bB <| aN <| bJ ?_
  refine aN <| post (n := 0) (.inr J) J ?_ dD
  exact congrArg (fun z => LV.v (.bool z)) (show false = VC m c from (jE (i := i) om (jL (.inr (.inl om)))).symm)
 refine aA (bL J J) J <| Um J J <| aI J (bC J J J J J) J <| aI J (aM (l := lvM (c.2.2.getD i default).2) J J gG J J) J ?_
 refine aI J (aK J (lF (c.2.2.getD i default).2 hIb.2.1 hIb.2.2) dD) J <| eH (fun h45 => ?_) (fun h45 => ?_)
 rotate_left
 ·refine aI J (dO J) J <| aA (bL J J) J <| Um J J <| K1 J J <| K1 J J <| K1 J J <| K1 J J <| aA (bH J J) J <| Nk [0,5,8,26,27,28,37,38,39,40,43,44,45,46,49,50,51,52,53] J <| aT J <| aB <| Rg 1 J <| Ua J J <| Nk [4] J <| bB <| aN <| bJ <| aN <| post (n := 0) (.inr J) J ?_ dD
  exact congrArg (fun z => LV.v (.bool z)) (show false = VC m c from (jE (i := i) om (jL (.inr (.inr (.inl h45))))).symm)
 refine aI J (dO J) J <| aA (bL J J) J <| Um J J <| aI J (bC J J J J J) J <| aI J (bC J J J J J) J <| aI J (aM J J gG J J) J ?_
 refine aI J (nO J J) J <| aX (fun h52 => ?_) (fun h52 => ?_)
 ·refine aA (bL J J) J <| Nk [0,5,8,26,27,28,37,38,39,40,43,44,45,46,49,50,51,52,53] J <| aT J <| aB <| Rg 1 J <| Ua J J <| Nk [4] J <| bB <| aN <| bJ <| aN <| post (n := 0) (.inr J) J ?_ dD
  exact congrArg (fun z => LV.v (.bool z)) (show false = VC m c from (jE (i := i) om (jL (.inr (.inr (.inr om))))).symm)
 refine aA (bL J J) J <| Nk [0,5,8,26,27,28,37,38,39,40,43,44,45,46,49,50,51,52,53] J <| aU J <| aF ?_
 have hvb : VN (c.2.2.getD i default).2 := of_decide_eq_true h45
 have hokI : okB m c.2.2 i = true := okB_yes om om h45 om
 have hsb := mP (bs := c.2.2) i om (fun j hj => (nP (hok j hj)).1)
 refine Rg 3 J <| aA (bC J J J J J) J <| aA (aM J J gG J J) J ?_
 refine Ua J J <| Nk [0,5,6,8,26,27,28,37,38,39,40,43,44,45,46,49,50,51,52] J <| cM (z := 6) J kR <| aC (aM (l := lvX s) J J gG J J) J ?_
 refine aC (bC J J J J J) J <| aC (aM (l := lvM (c.2.2.getD i default).2) J J gG J J) J ?_
 refine aC (bM (b := lvX (nx (c.2.2.getD i default).2)) (aK J (iJ (c.2.2.getD i default).2 hIb.2.1 hIb.2.2 (by have := hvb.1; omega)) dD) J) J <| aC (aK J (jM s (nx (c.2.2.getD i default).2) (by rw [hs]; exact hsb.mono om) (hvb.bd.mono (by decide))) dD) J <| cA (cE (cs' := xc (xadd s (nx (c.2.2.getD i default).2))) J J J gG J J J J) ?_
 refine bD (aP kR) J <| aE <| Ck [0,5,6,26,27,28,37,38,39,40,43,44,45,46,49,50,51,52] J <| aG (z := 2) J <| aA (cI (((i + 1 : Nat) : Int)) (aS J J om) om) J <| Um J J <| Wn <| aD <| ⟨⟨i + 1, xadd s (nx (c.2.2.getD i default).2)⟩, ⟨J, J, J, J, J, J, trivial⟩, ⟨gG, trivial⟩, ⟨om, by rw [psum, ← hs]; rfl, fun j hj => ?_, om⟩, by show c.2.2.length - (i + 1) < c.2.2.length - i; omega⟩
 by_cases e : j = i
 ·rw [e]; exact hokI
 ·exact hok j om
end Go.Proofs.YtahljdjhhapngaaGreat
namespace Go.Proofs.YtahljdjhhapngaaGreat
open Go.Ab Go.RowKit
theorem qchoice_run (m : Nat) (c : CH) (hI : IC c) (hm : m < 1000000) : Run Tryz.prog T E0 (.call 63 [lvC c, .v (.int .i64 (m : Int))] (.v (.bool (VC m c)))) := by
 refine bF Tryz.func63 J J (dH J) <| Rg 2 J <| aY (dK J J) J <| Ua J J <| Wn <| aB <| Rg 16 J <| aA (bC J J J J J) J <| aA (aM (l := lvM c.1) J J (by repeat (first | exact g0 | refine g1 (by decide) ?_)) J J) J ?_
 refine aA (aK J (iI c.1 hI.1 hI.2.1) dD) J <| eH (fun h10 => ?_) (fun h10 => ?_)
 rotate_left
 ·refine aA (dO J) J <| Um J J <| K1 J J <| K1 J J <| K1 J J <| K1 J J <| aA (bH J J) J <| Um J J <| K1 J J <| K1 J J <| K1 J J <| K1 J J <| aA (bH J J) J <| Nk [1,2,23] J <| aT J <| aB <| Rg 1 J <| Ua J J <| Wn <| bB <| post (n := 0) (.inr J) J ?_ dD
  exact congrArg (fun z => LV.v (.bool z)) (show false = VC m c from (VC_no1 h10).symm)
 refine aA (dO J) J <| Um J J <| aI J (bC J J J J J) J <| aI J (aM J J (by repeat (first | exact g0 | refine g1 (by decide) ?_)) J J) J ?_
 refine aI J (bA J J) J <| aI J (bP J J) J <| aX (fun h16 => ?_) (fun h16 => ?_)
 ·refine aA (bL J J) J <| Um J J <| K1 J J <| K1 J J <| K1 J J <| K1 J J <| aA (bH J J) J <| Nk [1,2,23] J <| aT J <| aB <| Rg 1 J <| Ua J J <| Wn <| bB <| post (n := 0) (.inr J) J ?_ dD
  exact congrArg (fun z => LV.v (.bool z)) (show false = VC m c from (VC_no2 om).symm)
 refine aA (bL J J) J <| Um J J <| aI J (bC J J J J J) J <| aI J (aM J J (by repeat (first | exact g0 | refine g1 (by decide) ?_)) J J) J ?_
 refine aI J (bA J J) J <| aI J (dU J J) J <| aX (fun h22 => ?_) (fun h22 => ?_)
 ·refine aA (bL J J) J <| Nk [1,2,23] J <| aT J <| aB <| Rg 1 J <| Ua J J <| Wn <| bB <| post (n := 0) (.inr J) J ?_ dD
  exact congrArg (fun z => LV.v (.bool z)) (show false = VC m c from (VC_no2 om).symm)
 refine aA (bL J J) J <| Nk [1,2,23] J <| aU J <| aF <| Rg 3 J <| aA (bM (b := lvQ 0) (aK J (fW 0 (by unfold I64; omega)) dD) J) J <| aY (dQ J) J <| aZ (cE (cs' := qc 0) J J J g0 J J J J) <| Wn <| aB <| Rg 4 J <| aA (bC J J J J J) J <| aA (aM J J (by repeat (first | exact g0 | refine g1 (by decide) ?_)) J J) J ?_
 refine aA (bA J J) J <| Um J J <| Wn <| aJ <| aW (α := Nat × Rat) (fun ⟨i, s⟩ => [(1, .v (.int .i64 (m : Int))), (2, .ptr 0 0), (5, .ptr 19 0), (26, .sl c.2.1 (c.2.2.map brc)), (27, .v (.int .i64 (c.2.2.length : Int))), (28, .v (.int .i64 (i : Int)))]) (fun ⟨i, s⟩ => [(19, { cells := qc (s), sz := 6, elem := 39, st := 0 }), (0, { cells := chc c, sz := 3, elem := (57), st := 0 })]) (fun ⟨i, s⟩ n => i ≤ c.2.2.length ∧ s = psum c.2.2 i ∧ (∀ j, j < i → okB m c.2.2 j = true) ∧ 19 < n) (fun ⟨i, s⟩ => c.2.2.length - i) (0, 0) ⟨J, J, J, J, J, J, trivial⟩ ⟨(by repeat (first | exact g0 | refine g1 (by decide) ?_)), (by repeat (first | exact g0 | refine g1 (by decide) ?_)), trivial⟩ ⟨Nat.zero_le _, rfl, fun j hj => absurd hj om, om⟩ ?_
 rintro ⟨i, s⟩ n hF
 change WC _ _ _ _ _ (_ :: _) (_ :: _) n _
 obtain ⟨hi, hs, hok, hn⟩ := hF
 refine Rg 1 J <| aA (bP J J) J <| aX (fun h29 => ?_) (fun h29 => ?_)
 rotate_left
 ·refine Wn <| aU J <| aV <| aR <| aO J ?_
  have hok' : ∀ j, j < c.2.2.length → okB m c.2.2 j = true := fun j hj => hok j om
  have hsb := mP (bs := c.2.2) i om (fun j hj => (nP (hok j hj)).1)
  have hil : i = c.2.2.length := by omega
  refine bG (z := 5) J kR <| aC (aM (l := lvQ s) J J gG J J) J ?_
  refine aC (bM (b := lvQ 1) (aK J (fW 1 (by unfold I64; omega)) dD) J) J <| aC (aK J (pZ s 1 (by rw [hs]; exact hsb.mono om) (Bd1.mono (by decide))) dD) J <| aC (bM (b := .v (.bool (decide (psum c.2.2 c.2.2.length = 1)))) (eI J J) (congrArg (fun z => LV.v (.bool z)) (decide_eq_decide.2 (by rw [hs, hil]; exact sign_one)))) J <| aC (gP J) J <| bD (aP kR) J <| aQ <| post (n := 0) (.inr J) J ?_ dD
  exact congrArg (fun z => LV.v (.bool z)) (show decide (psum c.2.2 c.2.2.length = 1) = VC m c from (VC_yes h10 om om hok').symm)
 refine Wn <| aT J <| aF <| aJ ?_
 have hIb := hI.2.2 _ (bE (us := c.2.2) (i := i) om)
 have hlo := okB_lo i hok
 have hl0 : 0 < i → lastB c.2.2 i = (c.2.2.getD (i - 1) default).1 := lastB_pos
 have hl1 : ¬ 0 < i → lastB c.2.2 i = -1 := fun h => by rw [show i = 0 by omega]; rfl
 refine Rg 6 J <| Um J J <| aA (bO J J J J J om J) J <| aA (dF (l := .agg [_, _, _]) J J J) J <| aY (dQ J) J <| Ua J J <| aZ (cE (cs' := [_, _, _]) J J J gG J J J J) ?_
 refine Wn <| aB <| bG (z := 37) J kR <| aC (bC J J J J J) J <| aC (aM J J gG J J) J ?_
 refine aC (bP J J) J <| kO (fun h35 => ?_) (fun h35 => ?_)
 ·refine Dm J J <| cH J J <| cH J J <| cH J J <| cH J J <| aC (bH J J) J <| Dm J J <| cH J J <| cH J J <| cH J J <| cH J J <| cH J J <| cH J J <| cH J J <| cH J J <| cH J J <| cH J J <| cH J J <| cH J J <| cH J J <| cH J J <| aC (bH J J) J <| Dm J J <| cH J J ?_
  refine cH J J <| cH J J <| cH J J <| aC (bH J J) J <| Dm J J <| cH J J <| cH J J <| cH J J <| cH J J <| aC (bH J J) J <| bD (aP kR) J <| Ck [1,2,5,7,26,27,28,37,38,39,40,43,44,45,46,47,48,49,50,51,52,53,54,55,56,59,60,61,62,65,66,67,68,69] J <| aT J <| aB <| Rg 1 J <| Ua J J <| Nk [4] J <| bB <| aN <| bJ <| aN <| post (n := 0) (.inr J) J ?_ dD
  exact congrArg (fun z => LV.v (.bool z)) (show false = VC m c from (jE (i := i) om (jL (.inl om))).symm)
 refine Dm J J <| cD J (bC J J J J J) J <| cD J (aM J J gG J J) J ?_
 refine cD J (eG J) J <| cD J (gW J J) J <| kO (fun h40 => ?_) (fun h40 => ?_)
 ·refine aC (bL J J) J <| Dm J J <| cH J J <| cH J J <| cH J J <| cH J J <| cH J J <| cH J J <| cH J J <| cH J J <| cH J J <| cH J J <| cH J J <| cH J J <| cH J J <| cH J J <| aC (bH J J) J <| Dm J J <| cH J J <| cH J J <| cH J J <| cH J J <| aC (bH J J) J <| Dm J J ?_
  refine cH J J <| cH J J <| cH J J <| cH J J <| aC (bH J J) J <| bD (aP kR) J <| Ck [1,2,5,7,26,27,28,37,38,39,40,43,44,45,46,47,48,49,50,51,52,53,54,55,56,59,60,61,62,65,66,67,68,69] J <| aT J <| aB <| Rg 1 J <| Ua J J <| Nk [4] J <| bB <| aN <| bJ <| aN <| post (n := 0) (.inr J) J ?_ dD
  exact congrArg (fun z => LV.v (.bool z)) (show false = VC m c from (jE (i := i) om (jL (.inr (.inl om)))).symm)
 refine aC (bL J J) J <| Dm J J <| cD J (eG J) J <| cD J (dU J J) J <| kO (fun h44 => ?_) (fun h44 => ?_)
 rotate_left
 ·refine cD J (eG J) J <| cH J J <| cH J J <| cH J J <| cH J J <| cH J J <| cH J J <| cH J J <| cH J J <| cH J J <| cH J J <| cD J (bL J J) J <| aC (bL J J) J <| Dm J J <| cD J (bC J J J J J) J <| cD J (aM (l := lvM (c.2.2.getD i default).2) J J gG J J) J ?_
  refine cD J (aK J (iI (c.2.2.getD i default).2 hIb.2.1 hIb.2.2) dD) J <| WD.B (fun h61 => ?_) (fun h61 => ?_)
  rotate_left
  ·refine cD J (dO J) J <| aC (bL J J) J <| Dm J J <| cH J J <| cH J J <| cH J J <| cH J J <| aC (bH J J) J <| bD (aP kR) J <| Ck [1,2,5,7,26,27,28,37,38,39,40,43,44,45,46,47,48,49,50,51,52,53,54,55,56,59,60,61,62,65,66,67,68,69] J <| aT J <| aB <| Rg 1 J <| Ua J J <| Nk [4] J <| bB <| aN <| bJ <| aN <| post (n := 0) (.inr J) J ?_ dD
   exact congrArg (fun z => LV.v (.bool z)) (show false = VC m c from (jE (i := i) om (jL (.inr (.inr (.inl h61))))).symm)
  refine cD J (dO J) J <| aC (bL J J) J <| Dm J J <| cD J (bC J J J J J) J <| cD J (bC J J J J J) J <| cD J (aM J J gG J J) J ?_
  refine cD J (nO J J) J <| kO (fun h68 => ?_) (fun h68 => ?_)
  ·refine aC (bL J J) J <| bD (aP kR) J <| Ck [1,2,5,7,26,27,28,37,38,39,40,43,44,45,46,47,48,49,50,51,52,53,54,55,56,59,60,61,62,65,66,67,68,69] J <| aT J <| aB <| Rg 1 J <| Ua J J <| Nk [4] J <| bB <| aN <| bJ <| aN <| post (n := 0) (.inr J) J ?_ dD
   exact congrArg (fun z => LV.v (.bool z)) (show false = VC m c from (jE (i := i) om (jL (.inr (.inr (.inr om))))).symm)
  refine aC (bL J J) J <| bD (aP kR) J <| Ck [1,2,5,7,26,27,28,37,38,39,40,43,44,45,46,47,48,49,50,51,52,53,54,55,56,59,60,61,62,65,66,67,68,69] J <| aU J <| aF ?_
  have hvb : VN (c.2.2.getD i default).2 := of_decide_eq_true h61
  have hokI : okB m c.2.2 i = true := okB_yes om om h61 om
  have hsb := mP (bs := c.2.2) i om (fun j hj => (nP (hok j hj)).1)
  refine cM (z := 6) J kR <| aC (aM (l := lvQ s) J J gG J J) J ?_
  refine aC (bC J J J J J) J <| aC (aM (l := lvM (c.2.2.getD i default).2) J J gG J J) J ?_
  refine aC (bM (b := lvQ (nq (c.2.2.getD i default).2)) (aK J (jV (c.2.2.getD i default).2 hIb.2.1 hIb.2.2 hvb) dD) J) J <| aC (aK J (iY s (nq (c.2.2.getD i default).2) (by rw [hs]; exact hsb.mono om) (hvb.bd.mono (by decide))) dD) J <| cA (cE (cs' := qc (s + nq (c.2.2.getD i default).2)) J J J gG J J J J) ?_
  refine bD (aP kR) J <| aE <| Ck [1,2,5,26,27,28,37,38,39,40,43,44,45,46,47,48,49,50,51,52,53,54,55,56,59,60,61,62,65,66,67,68] J <| aG (z := 2) J <| aA (cI (((i + 1 : Nat) : Int)) (aS J J om) om) J <| Um J J <| Wn <| aD <| ⟨⟨i + 1, s + nq (c.2.2.getD i default).2⟩, ⟨J, J, J, J, J, J, trivial⟩, ⟨gG, gG, trivial⟩, ⟨om, by rw [psum, ← hs], fun j hj => ?_, om⟩, by show c.2.2.length - (i + 1) < c.2.2.length - i; omega⟩
  by_cases e : j = i
  ·rw [e]; exact hokI
  ·exact hok j om
 refine cD J (eG J) J <| cD J (bC J J J J J) J <| cD J (aM J J gG J J) J ?_
 refine cD J (bC J J J J J) J <| cD J (aM J J gG J J) J ?_
 refine cD J (eG J) J <| cD J (cI (((i - 1 : Nat) : Int)) (bY J J om) om) J <| cD J (bO (j := i - 1) J J J J om om J) J <| cD J (oFa J J J J J) J <| cD J (dF J J J) J <| cD J (nO J J) J <| kO (fun h55 => ?_) (fun h55 => ?_)
 ·refine cD J (bH J J) J <| aC (bL J J) J <| Dm J J <| cH J J <| cH J J <| cH J J <| cH J J <| aC (bH J J) J <| Dm J J <| cH J J <| cH J J <| cH J J <| cH J J <| aC (bH J J) J <| bD (aP kR) J <| Ck [1,2,5,7,26,27,28,37,38,39,40,43,44,45,46,47,48,49,50,51,52,53,54,55,56,59,60,61,62,65,66,67,68,69] J <| aT J <| aB <| Rg 1 J <| Ua J J <| Nk [4] J <| bB <| aN ?_
  refine bJ <| aN <| post (n := 0) (.inr J) J ?_ dD
  exact congrArg (fun z => LV.v (.bool z)) (show false = VC m c from (jE (i := i) om (jL (.inl (by rw [hl0 om]; omega)))).symm)
 refine cD J (bH J J) J <| aC (bL J J) J <| Dm J J <| cD J (bC J J J J J) J <| cD J (aM (l := lvM (c.2.2.getD i default).2) J J gG J J) J ?_
 refine cD J (aK J (iI (c.2.2.getD i default).2 hIb.2.1 hIb.2.2) dD) J <| WD.B (fun h61 => ?_) (fun h61 => ?_)
 rotate_left
 ·refine cD J (dO J) J <| aC (bL J J) J <| Dm J J <| cH J J <| cH J J <| cH J J <| cH J J <| aC (bH J J) J <| bD (aP kR) J <| Ck [1,2,5,7,26,27,28,37,38,39,40,43,44,45,46,47,48,49,50,51,52,53,54,55,56,59,60,61,62,65,66,67,68,69] J <| aT J <| aB <| Rg 1 J <| Ua J J <| Nk [4] J <| bB <| aN <| bJ <| aN <| post (n := 0) (.inr J) J ?_ dD
  exact congrArg (fun z => LV.v (.bool z)) (show false = VC m c from (jE (i := i) om (jL (.inr (.inr (.inl h61))))).symm)
 refine cD J (dO J) J <| aC (bL J J) J <| Dm J J <| cD J (bC J J J J J) J <| cD J (bC J J J J J) J <| cD J (aM J J gG J J) J ?_
 refine cD J (nO J J) J <| kO (fun h68 => ?_) (fun h68 => ?_)
 ·refine aC (bL J J) J <| bD (aP kR) J <| Ck [1,2,5,7,26,27,28,37,38,39,40,43,44,45,46,47,48,49,50,51,52,53,54,55,56,59,60,61,62,65,66,67,68,69] J <| aT J <| aB <| Rg 1 J <| Ua J J <| Nk [4] J <| bB <| aN <| bJ <| aN <| post (n := 0) (.inr J) J ?_ dD
  exact congrArg (fun z => LV.v (.bool z)) (show false = VC m c from (jE (i := i) om (jL (.inr (.inr (.inr om))))).symm)
 refine aC (bL J J) J <| bD (aP kR) J <| Ck [1,2,5,7,26,27,28,37,38,39,40,43,44,45,46,47,48,49,50,51,52,53,54,55,56,59,60,61,62,65,66,67,68,69] J <| aU J <| aF ?_
 have hvb : VN (c.2.2.getD i default).2 := of_decide_eq_true h61
 have hokI : okB m c.2.2 i = true := okB_yes om om h61 om
 have hsb := mP (bs := c.2.2) i om (fun j hj => (nP (hok j hj)).1)
 refine cM (z := 6) J kR <| aC (aM (l := lvQ s) J J gG J J) J ?_
 refine aC (bC J J J J J) J <| aC (aM (l := lvM (c.2.2.getD i default).2) J J gG J J) J ?_
 refine aC (bM (b := lvQ (nq (c.2.2.getD i default).2)) (aK J (jV (c.2.2.getD i default).2 hIb.2.1 hIb.2.2 hvb) dD) J) J <| aC (aK J (iY s (nq (c.2.2.getD i default).2) (by rw [hs]; exact hsb.mono om) (hvb.bd.mono (by decide))) dD) J <| cA (cE (cs' := qc (s + nq (c.2.2.getD i default).2)) J J J gG J J J J) ?_
 refine bD (aP kR) J <| aE <| Ck [1,2,5,26,27,28,37,38,39,40,43,44,45,46,47,48,49,50,51,52,53,54,55,56,59,60,61,62,65,66,67,68] J <| aG (z := 2) J <| aA (cI (((i + 1 : Nat) : Int)) (aS J J om) om) J <| Um J J <| Wn <| aD <| ⟨⟨i + 1, s + nq (c.2.2.getD i default).2⟩, ⟨J, J, J, J, J, J, trivial⟩, ⟨gG, gG, trivial⟩, ⟨om, by rw [psum, ← hs], fun j hj => ?_, om⟩, by show c.2.2.length - (i + 1) < c.2.2.length - i; omega⟩
 by_cases e : j = i
 ·rw [e]; exact hokI
 ·exact hok j om
theorem mvmodel_run (k : Nat) (ss : List ST) (hI : ∀ s, s ∈ ss → IS s) : Run Tryz.prog T E0 (.call 92 [lvMo k ss] (.v (.bool (VMo ss)))) := by
 refine bF Tryz.func92 J J (dH J) <| Rg 2 J <| aY (dK J J) J <| Ua J J <| Wn <| Rg 4 J <| aA (bC J J J J J) J <| aA (aM J J (by repeat (first | exact g0 | refine g1 (by decide) ?_)) J J) J ?_
 refine aA (bA J J) J <| Ua J J <| Wn <| aB <| Rg 6 J <| Um J J <| aA (bP J J) J <| aX (fun h12 => ?_) (fun h12 => ?_)
 ·refine Um J J <| K1 J J <| K1 J J <| aA (bH J J) J <| Wn <| aT J <| aB <| Rg 1 J <| Ua J J <| Wn <| bB <| post (n := 0) (.inr J) J ?_ dD
  exact congrArg (fun z => LV.v (.bool z)) (show false = VMo ss from (VMo_no om).symm)
 refine Um J J <| aI J (eG J) J <| aI J (dU J J) J <| aX (fun h15 => ?_) (fun h15 => ?_)
 ·refine aA (bL J J) J <| Wn <| aT J <| aB <| Rg 1 J <| Ua J J <| Wn <| bB <| post (n := 0) (.inr J) J ?_ dD
  exact congrArg (fun z => LV.v (.bool z)) (show false = VMo ss from (VMo_no om).symm)
 refine aA (bL J J) J <| Wn <| aU J <| aF <| aB <| Rg 4 J <| aA (bC J J J J J) J <| aA (aM J J (by repeat (first | exact g0 | refine g1 (by decide) ?_)) J J) J ?_
 refine aA (bA J J) J <| Um J J <| Nk [3,18,19,20] J <| aJ <| aW (α := Nat) (fun i => [(3, .v (.int .i64 (ss.length : Int))), (18, .sl k (ss.map stc)), (19, .v (.int .i64 (ss.length : Int))), (20, .v (.int .i64 (i : Int)))]) (fun i => []) (fun i n => i ≤ ss.length ∧ (ss.take i).all (VS ss.length) = true ∧ 0 < n) (fun i => ss.length - i) (0) ⟨J, J, J, J, trivial⟩ trivial ⟨Nat.zero_le _, by simp, om⟩ ?_
 rintro i n hF
 change WC _ _ _ _ _ (_ :: _) ([]) n _
 obtain ⟨hi, ha, hn0⟩ := hF
 refine Rg 1 J <| aA (bP J J) J <| aX (fun h21 => ?_) (fun h21 => ?_)
 rotate_left
 ·refine Wn <| aU J <| aV <| aR <| aO J <| Rg 1 J <| Ua J J <| Wn <| aQ <| post (n := 0) (.inr J) J ?_ dD
  exact congrArg (fun z => LV.v (.bool z)) (show true = VMo ss from (VMo_yes om om (iO ha om)).symm)
 refine Wn <| aT J <| aF <| aJ ?_
 have hIs := hI _ (bE (us := ss) (i := i) om)
 refine Rg 4 J <| aA (bO J J J J J om J) J <| aA (dF (l := .agg [_, _, _]) J J J) J <| aY (dQ J) J <| aZ (cE (cs' := [_, _, _]) J J J gG J J J J) ?_
 refine Wn <| aB <| Rg 30 J <| aA (bC J J J J J) J <| aA (aM J J gG J J) J ?_
 refine aA (bP J J) J <| aX (fun h26 => ?_) (fun h26 => ?_)
 ·refine Um J J <| K1 J J <| K1 J J <| K1 J J <| aA (bH J J) J <| Um J J <| K1 J J <| K1 J J <| K1 J J <| aA (bH J J) J <| Um J J <| K1 J J <| K1 J J <| K1 J J <| aA (bH J J) J <| Um J J <| K1 J J <| K1 J J <| K1 J J <| K1 J J <| aA (bH J J) J <| Um J J <| K1 J J <| K1 J J ?_
  refine K1 J J <| K1 J J <| aA (bH J J) J <| Nk [3,5,18,19,20,28,29,30,33,34,35,38,39,40,43,44,45,46,49,50,51,52,53] J <| aT J <| aB <| Rg 1 J <| Ua J J <| Nk [2] J <| bB <| aN <| bJ <| aN <| post (n := 0) (.inr J) J ?_ dD
  exact congrArg (fun z => LV.v (.bool z)) (show false = VMo ss from (fC (i := i) om (lL (.inl om))).symm)
 refine Um J J <| aI J (bC J J J J J) J <| aI J (aM J J gG J J) J ?_
 refine aI J (dU J J) J <| aX (fun h30 => ?_) (fun h30 => ?_)
 ·refine aA (bL J J) J <| Um J J <| K1 J J <| K1 J J <| K1 J J <| aA (bH J J) J <| Um J J <| K1 J J <| K1 J J <| K1 J J <| aA (bH J J) J <| Um J J <| K1 J J <| K1 J J <| K1 J J <| K1 J J <| aA (bH J J) J <| Um J J <| K1 J J <| K1 J J <| K1 J J <| K1 J J <| aA (bH J J) J <| cL ?_
  refine Ck [3,5,18,19,20,28,29,30,33,34,35,38,39,40,43,44,45,46,49,50,51,52,53] J <| aT J <| aB <| Rg 1 J <| Ua J J <| Nk [2] J <| bB <| aN <| bJ <| aN <| post (n := 0) (.inr J) J ?_ dD
  exact congrArg (fun z => LV.v (.bool z)) (show false = VMo ss from (fC (i := i) om (lL (.inr (.inl om)))).symm)
 refine aA (bL J J) J <| Um J J <| aI J (bC J J J J J) J <| aI J (aM J J gG J J) J ?_
 refine aI J (bP J J) J <| aX (fun h35 => ?_) (fun h35 => ?_)
 ·refine aA (bL J J) J <| Um J J <| K1 J J <| K1 J J <| K1 J J <| aA (bH J J) J <| Um J J <| K1 J J <| K1 J J <| K1 J J <| K1 J J <| aA (bH J J) J <| Um J J <| K1 J J <| K1 J J <| K1 J J <| K1 J J <| aA (bH J J) J <| Nk [3,5,18,19,20,28,29,30,33,34,35,38,39,40,43,44,45,46,49,50,51,52,53] J <| aT J <| aB <| Rg 1 J <| Ua J J ?_
  refine Nk [2] J <| bB <| aN <| bJ <| aN <| post (n := 0) (.inr J) J ?_ dD
  exact congrArg (fun z => LV.v (.bool z)) (show false = VMo ss from (fC (i := i) om (lL (.inr (.inr (.inl om))))).symm)
 refine aA (bL J J) J <| Um J J <| aI J (bC J J J J J) J <| aI J (aM J J gG J J) J ?_
 refine aI J (dU J J) J <| aX (fun h40 => ?_) (fun h40 => ?_)
 ·refine aA (bL J J) J <| Um J J <| K1 J J <| K1 J J <| K1 J J <| K1 J J <| aA (bH J J) J <| Um J J <| K1 J J <| K1 J J <| K1 J J <| K1 J J <| aA (bH J J) J <| Nk [3,5,18,19,20,28,29,30,33,34,35,38,39,40,43,44,45,46,49,50,51,52,53] J <| aT J <| aB <| Rg 1 J <| Ua J J <| Nk [2] J <| bB <| aN <| bJ ?_
  refine aN <| post (n := 0) (.inr J) J ?_ dD
  exact congrArg (fun z => LV.v (.bool z)) (show false = VMo ss from (fC (i := i) om (lL (.inr (.inr (.inr (.inl om)))))).symm)
 refine aA (bL J J) J <| Um J J <| aI J (bC J J J J J) J <| aI J (aM J J gG J J) J ?_
 refine aI J (bA J J) J <| aI J (bP J J) J <| aX (fun h46 => ?_) (fun h46 => ?_)
 ·refine aA (bL J J) J <| Um J J <| K1 J J <| K1 J J <| K1 J J <| K1 J J <| aA (bH J J) J <| Nk [3,5,18,19,20,28,29,30,33,34,35,38,39,40,43,44,45,46,49,50,51,52,53] J <| aT J <| aB <| Rg 1 J <| Ua J J <| Nk [2] J <| bB <| aN <| bJ <| aN <| post (n := 0) (.inr J) J ?_ dD
  exact congrArg (fun z => LV.v (.bool z)) (show false = VMo ss from (fC (i := i) om (lL (.inr (.inr (.inr (.inr (.inl om))))))).symm)
 refine aA (bL J J) J <| Um J J <| aI J (bC J J J J J) J <| aI J (aM J J gG J J) J ?_
 refine aI J (bA J J) J <| aI J (dU J J) J <| aX (fun h52 => ?_) (fun h52 => ?_)
 ·refine aA (bL J J) J <| Nk [3,5,18,19,20,28,29,30,33,34,35,38,39,40,43,44,45,46,49,50,51,52,53] J <| aT J <| aB <| Rg 1 J <| Ua J J <| Nk [2] J <| bB <| aN <| bJ <| aN <| post (n := 0) (.inr J) J ?_ dD
  exact congrArg (fun z => LV.v (.bool z)) (show false = VMo ss from (fC (i := i) om (lL (.inr (.inr (.inr (.inr (.inr om))))))).symm)
 refine aA (bL J J) J <| Nk [3,5,18,19,20,28,29,30,33,34,35,38,39,40,43,44,45,46,49,50,51,52,53] J <| aU J <| aF <| Rg 4 J <| aA (bC J J J J J) J <| aA (aM J J gG J J) J ?_
 refine aA (bA J J) J <| Um J J <| Nk [3,18,19,20,28,29,30,33,34,35,38,39,40,43,44,45,46,49,50,51,52,55,56,57] J <| cJ <| aW (α := Nat) (fun j => [(3, .v (.int .i64 (ss.length : Int))), (18, .sl k (ss.map stc)), (19, .v (.int .i64 (ss.length : Int))), (20, .v (.int .i64 (i : Int))), (55, .sl (ss.getD i default).2.1 ((ss.getD i default).2.2.map chc)), (56, .v (.int .i64 ((ss.getD i default).2.2.length : Int))), (57, .v (.int .i64 (j : Int)))]) (fun j => []) (fun j n => j ≤ (ss.getD i default).2.2.length ∧ ((ss.getD i default).2.2.take j).all (VC ss.length) = true ∧ 0 < n) (fun j => (ss.getD i default).2.2.length - j) (0) ⟨J, J, J, J, J, J, J, trivial⟩ trivial ⟨Nat.zero_le _, by simp, om⟩ ?_
 rintro j n hF
 change WC _ _ _ _ _ (_ :: _) ([]) n _
 obtain ⟨hj, hb, hn2⟩ := hF
 refine Rg 1 J <| aA (bP J J) J <| aX (fun h58 => ?_) (fun h58 => ?_)
 rotate_left
 ·refine Wn <| aU J <| aV <| aR <| gB J <| aE <| aG (z := 2) J <| aA (cI (((i + 1 : Nat) : Int)) (aS J J om) om) J <| Um J J <| Wn <| aD <| ⟨i + 1, ⟨J, J, J, J, trivial⟩, trivial, ⟨om, gL ha om (VS_yes om om om om om om (iO hb om)), om⟩, by show ss.length - (i + 1) < ss.length - i; omega⟩
 refine Wn <| aT J <| aF <| aJ ?_
 have hIc := hIs.2.2 _ (bE (us := (ss.getD i default).2.2) (i := j) om)
 refine Rg 4 J <| aA (bO J J J J J om J) J <| aA (dF (l := .agg [_, _, _]) J J J) J <| aY (dQ J) J <| aZ (cE (cs' := [_, _, _]) J J J gG J J J J) ?_
 refine Wn <| Rg 4 J <| Um J J <| aA (aM (l := lvC ((ss.getD i default).2.2.getD j default)) J J gG J J) J ?_
 refine aA (aK J (mchoice_run ss.length ((ss.getD i default).2.2.getD j default) hIc om) dD) J <| eH (fun h63 => ?_) (fun h63 => ?_)
 ·refine aA (dO J) J <| Nk [3,18,19,20,55,56,57,64] J <| bV J <| cC <| aE <| aG (z := 2) J <| aA (cI (((j + 1 : Nat) : Int)) (aS J J om) om) J <| Um J J <| Wn <| aD <| ⟨j + 1, ⟨J, J, J, J, J, J, J, trivial⟩, trivial, ⟨om, gL hb om h63, om⟩, by show (ss.getD i default).2.2.length - (j + 1) < (ss.getD i default).2.2.length - j; omega⟩
 refine aA (dO J) J <| Nk [3,18,19,20,55,56,57,64] J <| bT J <| Rg 1 J <| Ua J J <| Wn <| aQ <| aN <| bJ <| eF <| aN <| bJ <| aN <| post (n := 0) (.inr J) J ?_ dD
 exact congrArg (fun z => LV.v (.bool z)) (show false = VMo ss from (fC (i := i) om (VS_no2 (j := j) om h63)).symm)
theorem lY (k : Nat) (ss : List ST) (hI : ∀ s, s ∈ ss → IS s) : Run Tryz.prog T E0 (.call 21 [lvMo k ss] (.v (.bool (VMo ss)))) := by
 refine bF Tryz.func21 J J (dH J) <| Rg 2 J <| aY (dK J J) J <| Ua J J <| Wn <| aB <| Rg 10 J <| aA (bC J J J J J) J <| aA (aM J J (by repeat (first | exact g0 | refine g1 (by decide) ?_)) J J) J ?_
 refine aA (bA J J) J <| aA (bP J J) J <| aX (fun h10 => ?_) (fun h10 => ?_)
 ·refine Um J J <| K1 J J <| K1 J J <| K1 J J <| K1 J J <| aA (bH J J) J <| Wn <| aT J <| aB <| Rg 1 J <| Ua J J <| Wn <| bB <| post (n := 0) (.inr J) J ?_ dD
  exact congrArg (fun z => LV.v (.bool z)) (show false = VMo ss from (VMo_no om).symm)
 refine Um J J <| aI J (bC J J J J J) J <| aI J (aM J J (by repeat (first | exact g0 | refine g1 (by decide) ?_)) J J) J ?_
 refine aI J (bA J J) J <| aI J (dU J J) J <| aX (fun h15 => ?_) (fun h15 => ?_)
 ·refine aA (bL J J) J <| Wn <| aT J <| aB <| Rg 1 J <| Ua J J <| Wn <| bB <| post (n := 0) (.inr J) J ?_ dD
  exact congrArg (fun z => LV.v (.bool z)) (show false = VMo ss from (VMo_no om).symm)
 refine aA (bL J J) J <| Wn <| aU J <| aF <| aB <| Rg 4 J <| aA (bC J J J J J) J <| aA (aM J J (by repeat (first | exact g0 | refine g1 (by decide) ?_)) J J) J ?_
 refine aA (bA J J) J <| Um J J <| Nk [1,18,19,20] J <| aJ <| aW (α := Nat) (fun i => [(1, .ptr 0 0), (18, .sl k (ss.map stc)), (19, .v (.int .i64 (ss.length : Int))), (20, .v (.int .i64 (i : Int)))]) (fun i => [(0, { cells := [.sl k (ss.map stc)], sz := 1, elem := (24), st := 0 })]) (fun i n => i ≤ ss.length ∧ (ss.take i).all (VS ss.length) = true ∧ 0 < n) (fun i => ss.length - i) (0) ⟨J, J, J, J, trivial⟩ ⟨(by repeat (first | exact g0 | refine g1 (by decide) ?_)), trivial⟩ ⟨Nat.zero_le _, by simp, om⟩ ?_
 rintro i n hF
 change WC _ _ _ _ _ (_ :: _) (_ :: _) n _
 obtain ⟨hi, ha, hn0⟩ := hF
 refine Rg 1 J <| aA (bP J J) J <| aX (fun h21 => ?_) (fun h21 => ?_)
 rotate_left
 ·refine Wn <| aU J <| aV <| aR <| aO J <| Rg 1 J <| Ua J J <| Wn <| aQ <| post (n := 0) (.inr J) J ?_ dD
  exact congrArg (fun z => LV.v (.bool z)) (show true = VMo ss from (VMo_yes om om (iO ha om)).symm)
 refine Wn <| aT J <| aF <| aJ ?_
 have hIs := hI _ (bE (us := ss) (i := i) om)
 refine Rg 4 J <| aA (bO J J J J J om J) J <| aA (dF (l := .agg [_, _, _]) J J J) J <| aY (dQ J) J <| aZ (cE (cs' := [_, _, _]) J J J gG J J J J) ?_
 refine Wn <| aB <| Rg 30 J <| aA (bC J J J J J) J <| aA (aM J J gG J J) J ?_
 refine aA (bP J J) J <| aX (fun h26 => ?_) (fun h26 => ?_)
 ·refine Um J J <| K1 J J <| K1 J J <| K1 J J <| aA (bH J J) J <| Um J J <| K1 J J <| K1 J J <| K1 J J <| aA (bH J J) J <| Um J J <| K1 J J <| K1 J J <| K1 J J <| aA (bH J J) J <| Um J J <| K1 J J <| K1 J J <| K1 J J <| K1 J J <| aA (bH J J) J <| Um J J <| K1 J J <| K1 J J ?_
  refine K1 J J <| K1 J J <| aA (bH J J) J <| Nk [1,4,18,19,20,28,29,30,33,34,35,38,39,40,43,44,45,46,49,50,51,52,53] J <| aT J <| aB <| Rg 1 J <| Ua J J <| Nk [2] J <| bB <| aN <| bJ <| aN <| post (n := 0) (.inr J) J ?_ dD
  exact congrArg (fun z => LV.v (.bool z)) (show false = VMo ss from (fC (i := i) om (lL (.inl om))).symm)
 refine Um J J <| aI J (bC J J J J J) J <| aI J (aM J J gG J J) J ?_
 refine aI J (dU J J) J <| aX (fun h30 => ?_) (fun h30 => ?_)
 ·refine aA (bL J J) J <| Um J J <| K1 J J <| K1 J J <| K1 J J <| aA (bH J J) J <| Um J J <| K1 J J <| K1 J J <| K1 J J <| aA (bH J J) J <| Um J J <| K1 J J <| K1 J J <| K1 J J <| K1 J J <| aA (bH J J) J <| Um J J <| K1 J J <| K1 J J <| K1 J J <| K1 J J <| aA (bH J J) J <| cL ?_
  refine Ck [1,4,18,19,20,28,29,30,33,34,35,38,39,40,43,44,45,46,49,50,51,52,53] J <| aT J <| aB <| Rg 1 J <| Ua J J <| Nk [2] J <| bB <| aN <| bJ <| aN <| post (n := 0) (.inr J) J ?_ dD
  exact congrArg (fun z => LV.v (.bool z)) (show false = VMo ss from (fC (i := i) om (lL (.inr (.inl om)))).symm)
 refine aA (bL J J) J <| Um J J <| aI J (bC J J J J J) J <| aI J (aM J J gG J J) J ?_
 refine aI J (bP J J) J <| aX (fun h35 => ?_) (fun h35 => ?_)
 ·refine aA (bL J J) J <| Um J J <| K1 J J <| K1 J J <| K1 J J <| aA (bH J J) J <| Um J J <| K1 J J <| K1 J J <| K1 J J <| K1 J J <| aA (bH J J) J <| Um J J <| K1 J J <| K1 J J <| K1 J J <| K1 J J <| aA (bH J J) J <| Nk [1,4,18,19,20,28,29,30,33,34,35,38,39,40,43,44,45,46,49,50,51,52,53] J <| aT J <| aB <| Rg 1 J <| Ua J J ?_
  refine Nk [2] J <| bB <| aN <| bJ <| aN <| post (n := 0) (.inr J) J ?_ dD
  exact congrArg (fun z => LV.v (.bool z)) (show false = VMo ss from (fC (i := i) om (lL (.inr (.inr (.inl om))))).symm)
 refine aA (bL J J) J <| Um J J <| aI J (bC J J J J J) J <| aI J (aM J J gG J J) J ?_
 refine aI J (dU J J) J <| aX (fun h40 => ?_) (fun h40 => ?_)
 ·refine aA (bL J J) J <| Um J J <| K1 J J <| K1 J J <| K1 J J <| K1 J J <| aA (bH J J) J <| Um J J <| K1 J J <| K1 J J <| K1 J J <| K1 J J <| aA (bH J J) J <| Nk [1,4,18,19,20,28,29,30,33,34,35,38,39,40,43,44,45,46,49,50,51,52,53] J <| aT J <| aB <| Rg 1 J <| Ua J J <| Nk [2] J <| bB <| aN <| bJ ?_
  refine aN <| post (n := 0) (.inr J) J ?_ dD
  exact congrArg (fun z => LV.v (.bool z)) (show false = VMo ss from (fC (i := i) om (lL (.inr (.inr (.inr (.inl om)))))).symm)
 refine aA (bL J J) J <| Um J J <| aI J (bC J J J J J) J <| aI J (aM J J gG J J) J ?_
 refine aI J (bA J J) J <| aI J (bP J J) J <| aX (fun h46 => ?_) (fun h46 => ?_)
 ·refine aA (bL J J) J <| Um J J <| K1 J J <| K1 J J <| K1 J J <| K1 J J <| aA (bH J J) J <| Nk [1,4,18,19,20,28,29,30,33,34,35,38,39,40,43,44,45,46,49,50,51,52,53] J <| aT J <| aB <| Rg 1 J <| Ua J J <| Nk [2] J <| bB <| aN <| bJ <| aN <| post (n := 0) (.inr J) J ?_ dD
  exact congrArg (fun z => LV.v (.bool z)) (show false = VMo ss from (fC (i := i) om (lL (.inr (.inr (.inr (.inr (.inl om))))))).symm)
 refine aA (bL J J) J <| Um J J <| aI J (bC J J J J J) J <| aI J (aM J J gG J J) J ?_
 refine aI J (bA J J) J <| aI J (dU J J) J <| aX (fun h52 => ?_) (fun h52 => ?_)
 ·refine aA (bL J J) J <| Nk [1,4,18,19,20,28,29,30,33,34,35,38,39,40,43,44,45,46,49,50,51,52,53] J <| aT J <| aB <| Rg 1 J <| Ua J J <| Nk [2] J <| bB <| aN <| bJ <| aN <| post (n := 0) (.inr J) J ?_ dD
  exact congrArg (fun z => LV.v (.bool z)) (show false = VMo ss from (fC (i := i) om (lL (.inr (.inr (.inr (.inr (.inr om))))))).symm)
 refine aA (bL J J) J <| Nk [1,4,18,19,20,28,29,30,33,34,35,38,39,40,43,44,45,46,49,50,51,52,53] J <| aU J <| aF <| Rg 4 J <| aA (bC J J J J J) J <| aA (aM J J gG J J) J ?_
 refine aA (bA J J) J <| Um J J <| Nk [1,18,19,20,28,29,30,33,34,35,38,39,40,43,44,45,46,49,50,51,52,55,56,57] J <| cJ <| aW (α := Nat) (fun j => [(1, .ptr 0 0), (18, .sl k (ss.map stc)), (19, .v (.int .i64 (ss.length : Int))), (20, .v (.int .i64 (i : Int))), (55, .sl (ss.getD i default).2.1 ((ss.getD i default).2.2.map chc)), (56, .v (.int .i64 ((ss.getD i default).2.2.length : Int))), (57, .v (.int .i64 (j : Int)))]) (fun j => [(0, { cells := [.sl k (ss.map stc)], sz := 1, elem := (24), st := 0 })]) (fun j n => j ≤ (ss.getD i default).2.2.length ∧ ((ss.getD i default).2.2.take j).all (VC ss.length) = true ∧ 0 < n) (fun j => (ss.getD i default).2.2.length - j) (0) ⟨J, J, J, J, J, J, J, trivial⟩ ⟨gG, trivial⟩ ⟨Nat.zero_le _, by simp, om⟩ ?_
 rintro j n hF
 change WC _ _ _ _ _ (_ :: _) (_ :: _) n _
 obtain ⟨hj, hb, hn2⟩ := hF
 refine Rg 1 J <| aA (bP J J) J <| aX (fun h58 => ?_) (fun h58 => ?_)
 rotate_left
 ·refine Wn <| aU J <| aV <| aR <| gB J <| aE <| aG (z := 2) J <| aA (cI (((i + 1 : Nat) : Int)) (aS J J om) om) J <| Um J J <| Wn <| aD <| ⟨i + 1, ⟨J, J, J, J, trivial⟩, ⟨gG, trivial⟩, ⟨om, gL ha om (VS_yes om om om om om om (iO hb om)), om⟩, by show ss.length - (i + 1) < ss.length - i; omega⟩
 refine Wn <| aT J <| aF <| aJ ?_
 have hIc := hIs.2.2 _ (bE (us := (ss.getD i default).2.2) (i := j) om)
 refine Rg 4 J <| aA (bO J J J J J om J) J <| aA (dF (l := .agg [_, _, _]) J J J) J <| aY (dQ J) J <| aZ (cE (cs' := [_, _, _]) J J J gG J J J J) ?_
 refine Wn <| Rg 6 J <| aA (aM (l := lvC ((ss.getD i default).2.2.getD j default)) J J gG J J) J ?_
 refine aA (bC J J J J J) J <| aA (aM J J gG J J) J ?_
 refine aA (cI ((ss.length : Int)) (bA J J) (by simp)) J <| aA (aK J (qchoice_run ss.length ((ss.getD i default).2.2.getD j default) hIc om) dD) J <| eH (fun h65 => ?_) (fun h65 => ?_)
 ·refine aA (dO J) J <| Nk [1,18,19,20,55,56,57,66] J <| bV J <| cC <| aE <| aG (z := 2) J <| aA (cI (((j + 1 : Nat) : Int)) (aS J J om) om) J <| Um J J <| Wn <| aD <| ⟨j + 1, ⟨J, J, J, J, J, J, J, trivial⟩, ⟨gG, trivial⟩, ⟨om, gL hb om h65, om⟩, by show (ss.getD i default).2.2.length - (j + 1) < (ss.getD i default).2.2.length - j; omega⟩
 refine aA (dO J) J <| Nk [1,18,19,20,55,56,57,66] J <| bT J <| Rg 1 J <| Ua J J <| Wn <| aQ <| aN <| bJ <| eF <| aN <| bJ <| aN <| post (n := 0) (.inr J) J ?_ dD
 exact congrArg (fun z => LV.v (.bool z)) (show false = VMo ss from (fC (i := i) om (VS_no2 (j := j) om h65)).symm)
end Go.Proofs.YtahljdjhhapngaaGreat
set_option maxHeartbeats 16000000
namespace Go.Proofs.YtahljdjhhapngaaGreat
open Go.Ab Go.RowKit
theorem mreduced_wcB (rows0 : List X1) (cols w : Nat) (hne : 0 < rows0.length) (ln : rows0.length < 1000000) (hw : Wid w (vX rows0)) (hcw : cols ≤ w) (lw : w < 1000000) (β : Nat) (hβ : β ≤ 268435456) (hgb : GB (vX rows0) cols β) : WC Tryz.prog T E0 Tryz.f129.ntmps (codeOf Tryz.f129) (argsEnv 0 [.sl 1 (rows0.map fX), .v (.int .i64 (cols : Int))]) [] 0 (fun x e h n => (x = .normal ∨ x = .ret) ∧ ∃ (q : Nat) (rows : List X1) (d : X), vX rows = (gjn (vX rows0) cols).1 ∧ d.1 = gjd (vX rows0) cols ∧ resE e T h Tryz.f129.results.toList = some [.ref 4 1 0 rows.length, outV q 1 ((gjn (vX rows0) cols).2.map d64), lvX d] ∧ getH h 4 = some { cells := (rows.map fX).flatten, sz := 1, elem := 104, st := 0 } ∧ ((gjn (vX rows0) cols).2.map d64 ≠ [] → getH h q = some { cells := ((gjn (vX rows0) cols).2.map d64).flatten, sz := 1, elem := 3, st := 0 })) := by
 obtain ⟨_, _, _, hr1, rfl, rfl, rfl⟩ := clone_own rows0 hne om
 refine Rg 3 J <| Ua J J <| Ua J J <| aY (dQ J) J <| Wn <| Rg 3 J <| Um J J <| aY (qB J hr1 (by first | (simp [-bU]; done) | simp)) J <| Ua J J <| Wn <| Rg 3 J <| aA (aK J (jD 1 (by unfold I64; omega)) (by first | (simp [-bU]; done) | simp)) J <| aY (dQ J) J <| aZ (cE (cs' := [_, _, _, _]) J J J J J J J J) <| Wn <| Rg 1 J <| Ua J J <| Wn <| aB <| Rg 2 J <| Um J J <| Um J J <| Wn <| aJ ?_
 refine aW (α := Nat × Nat × (List X1) × (List Nat) × X) (fun ⟨c, q, rows, leads, d⟩ => [(6, .ptr (0 + (0 + 1 + 1)) 0), (7, .ref (0 + 3 + 1) 1 0 rows.length), (8, .ptr (0 + 3 + 3 + 1) 0), (9, outV q 1 (leads.map d64)), (18, .v (.int .i64 (cols : Int))), (19, .v (.int .i64 (c : Int)))]) (fun ⟨c, q, rows, leads, d⟩ => outH q 1 3 (leads.map d64) [((0 + 3 + 1), { cells := (rows.map fX).flatten, sz := 1, elem := 104, st := 0 }), ((0 + 3 + 3 + 1), { cells := xc d, sz := 4, elem := 102, st := 0 }), (2, { cells := [.v (.int .i64 0), .sl 0 [], .v (.int .i64 0), .sl 0 []], sz := 4, elem := 102, st := 0 })]) (fun ⟨c, q, rows, leads, d⟩ n => c ≤ cols ∧ vX rows = (gjn (vX rows0) c).1 ∧ leads = (gjn (vX rows0) c).2 ∧ 8 ≤ q ∧ q < n ∧ d.1 = gjd (vX rows0) c) (fun ⟨c, q, rows, leads, d⟩ => cols - c) (0, 8, rows0, [], xint 1) ⟨J, J, J, J, J, J, trivial⟩ ⟨J, J, J, trivial⟩ ⟨Nat.zero_le _, rfl, rfl, om, om, rfl⟩ ?_
 rintro ⟨c, q, rows, leads, d⟩ n hF
 change WC _ _ _ _ _ (_ :: _) (outH _ _ _ _ _) n _
 obtain ⟨hc, hv, hld, hq5, hqn, hdv⟩ := hF
 have GI := hgb.all hw hcw c hc
 have hrl0 : rows.length = rows0.length := by rw [← dE rows, hv, cX, dE]
 have hll : leads.length ≤ rows.length := by have := GI.led; rw [dE] at this; rw [hld]; omega
 have hwid : ∀ i, i < rows.length → (rows.getD i default).2.length = w := by
  intro i hi
  have := GI.wid.row (i := i) (by rw [← hv, dE]; exact hi)
  rw [← hv, dJ] at this
  simpa using this
 refine Rg 1 J <| aA (bP J J) J <| aX (fun h20 => ?_) (fun h20 => ?_)
 rotate_left
 ·refine Wn <| aU J <| aV <| aR <| aO J <| bG (z := 6) J kR <| Dm J J <| Dm J J <| aC (aM (l := .agg [_, _, _, _]) J J (aL om (g1 (by decide) g0)) J J) J <| aC (gP J) J <| aC (gP J) J <| cA (cE (cs' := [_, _, _, _]) J J J (aL om (g1 (by decide) (g1 (by decide) g0))) J J J J) <| bD (aP kR) J <| aQ ?_
  have hcc : c = cols := by omega
  subst hcc
  refine ⟨.inr J, q, rows, d, hv, hdv, ?_, g1 (by decide) (aL om g0), ?_⟩
  ·rw [← hld]; rfl
  ·rw [← hld]; exact fun hu => g1 om (dG hu)
 refine Wn <| aT J <| aF <| aJ <| Rg 2 J <| Um J J <| Ua J J <| Wn <| Rg 3 J <| Um J J <| aA (oLenO J J) J <| Ua J J <| Wn <| Rg 2 J <| Um J J <| Ua J J <| Wn <| aJ <| aW (α := Nat) (fun a => [(6, .ptr (0 + (0 + 1 + 1)) 0), (7, .ref (0 + 3 + 1) 1 0 rows.length), (8, .ptr (0 + 3 + 3 + 1) 0), (9, outV q 1 (leads.map d64)), (10, .v (.int .i64 (c : Int))), (11, .v (.int .i64 (leads.length : Int))), (12, .v (.int .i64 (a : Int))), (18, .v (.int .i64 (cols : Int))), (19, .v (.int .i64 (c : Int)))]) (fun a => outH q 1 3 (leads.map d64) [((0 + 3 + 1), { cells := (rows.map fX).flatten, sz := 1, elem := 104, st := 0 }), ((0 + 3 + 3 + 1), { cells := xc d, sz := 4, elem := 102, st := 0 }), (2, { cells := [.v (.int .i64 0), .sl 0 [], .v (.int .i64 0), .sl 0 []], sz := 4, elem := 102, st := 0 })]) (fun a n => leads.length ≤ a ∧ a ≤ rows.length ∧ (∀ k, leads.length ≤ k → k < a → ent (vX rows) k c = 0) ∧ q < n) (fun a => rows.length - a) (leads.length) ⟨J, J, J, J, J, J, J, J, J, trivial⟩ (dP dG (aL om g0) (aL om (g1 (by decide) g0)) (aL om (g1 (by decide) (g1 (by decide) g0)))) ⟨Nat.le_refl _, hll, by intro k h1 h2; omega, om⟩ ?_
 rintro a n hG
 change WC _ _ _ _ _ (_ :: _) (outH _ _ _ _ _) n _
 obtain ⟨hle1, hle2, hz, hqn2⟩ := hG
 refine aB <| Rg 15 J <| Um J J <| Um J J <| aA (gQ J J) J <| aA (bP J J) J <| aX (fun h28 => ?_) (fun h28 => ?_)
 rotate_left
 ·refine Um J J <| K1 J J <| K1 J J <| K1 J J <| K1 J J <| K1 J J <| K1 J J <| K1 J J <| K1 J J <| K1 J J <| aA (bL J J) J <| Nk [6,7,8,9,10,11,12,18,19,30,31,32,33,34,35,36,37,38,39] J <| aU J <| aV <| aR <| aO J <| Ck [6,7,8,9,10,11,12,18,19,30,31,32,33,34,35,36,37,38] J <| aB <| Rg 4 J <| Um J J <| Um J J <| aA (gQ J J) J <| aA (eI J J) J ?_
  refine aX (fun h45 => ?_) (fun h45 => ?_)
  rotate_left
  ·omega
  refine Nk [6,7,8,9,10,11,12,18,19,30,31,32,33,34,35,36,37,38,45] J <| aT J <| aV <| aO J <| Ck [6,7,8,9,18,19,30,31,32,33,34,35,36,37,38] J <| aG (z := 2) J <| aA (cI (((c + 1 : Nat) : Int)) (aS J J om) om) J <| Um J J <| Wn <| aD ?_
  have hpv : pivot (vX rows) leads.length c = a := iL hle1 (by rw [dE]; exact hle2) hz (.inl (by rw [dE]; omega))
  have hpn : pivot (gjn (vX rows0) c).1 (gjn (vX rows0) c).2.length c = (gjn (vX rows0) c).1.length := by rw [← hv, ← hld, hpv, dE]; omega
  refine ⟨⟨c + 1, q, rows, leads, d⟩, ⟨J, J, J, J, J, J, trivial⟩, (dP dG (aL om g0) (aL om (g1 (by decide) g0)) (aL om (g1 (by decide) (g1 (by decide) g0)))), ⟨om, by rw [kA hpn]; exact hv, by rw [kA hpn]; exact hld, om, om, by rw [gjd_no hpn]; exact hdv⟩, by show cols - (c + 1) < cols - c; omega⟩
 refine Um J J <| aI J (eG J) J <| aI J (eG J) J <| aI J (cB (j := a) J J J J om om J) J <| aI J (dV (f := fX) (us := rows) (j := a) J J (aL om g0) (fun _ => rfl) J (by decide) om J) J <| aI J (eG J) J <| aI J (bO J J J J J (by have := hwid a om; omega) J) J <| aI J (dF (l := .agg [_, _, _, _]) J J J) J <| aI J (aK J (jB ((rows.getD a default).2.getD c default)) (by first | (simp [-bU]; done) | simp)) J <| aI J (eI J J) J <| aX (fun h38 => ?_) (fun h38 => ?_)
 ·have hez : ent (vX rows) a c = 0 := by rw [← iN]; exact dZ.1 h38
  refine aA (bH J J) J <| Nk [6,7,8,9,10,11,12,18,19,30,31,32,33,34,35,36,37,38,39] J <| aT J <| aF <| cJ <| aG (z := 3) J <| Um J J <| aA (cI (((a + 1 : Nat) : Int)) (aS J J om) om) J <| Ua J J <| Wn <| cK <| aD <| ⟨a + 1, ⟨J, J, J, J, J, J, J, J, J, trivial⟩, (dP dG (aL om g0) (aL om (g1 (by decide) g0)) (aL om (g1 (by decide) (g1 (by decide) g0)))), ⟨om, om, ?_, om⟩, by show rows.length - (a + 1) < rows.length - a; omega⟩
  intro k h1 h2
  by_cases e : k = a
  ·subst e; exact hez
  ·exact hz k h1 om
 have hen : ent (vX rows) a c ≠ 0 := by rw [← iN]; exact fun k => h38 (dZ.2 k)
 refine aA (bH J J) J <| Nk [6,7,8,9,10,11,12,18,19,30,31,32,33,34,35,36,37,38,39] J <| aU J <| aV <| aR <| aO J <| Ck [6,7,8,9,10,11,12,18,19,30,31,32,33,34,35,36,37,38] J <| aB <| Rg 4 J <| Um J J <| Um J J <| aA (gQ J J) J <| aA (eI J J) J <| aX (fun h45 => ?_) (fun h45 => ?_)
 ·omega
 refine Nk [6,7,8,9,10,11,12,18,19,30,31,32,33,34,35,36,37,38,45] J <| aU J <| aF <| aB ?_
 have hrl : leads.length < rows.length := by omega
 have hpv : pivot (vX rows) leads.length c = a := iL hle1 (by rw [dE]; exact hle2) hz (.inr hen)
 rw [hv, hld] at hpv
 have hal : a < (gjn (vX rows0) c).1.length := by rw [← hv, dE]; omega
 have hgy := kY hpv hal
 have hsp : ent (sw (vX rows) a leads.length) leads.length c ≠ 0 := by rw [kV (by rw [dE]; omega) (by rw [dE]; omega)]; exact hen
 have hbv : BdL (β) (vX rows) := by rw [hv]; exact GI.bds om
 have hbc : β ≤ 268435456 := hβ
 have hbp := hgb.pos
 have hdb : Bd β d.1 := by rw [hdv]; exact hgb.dts c om
 obtain ⟨M, hM⟩ : ∃ M, M = mid (vX rows) a leads.length c := ⟨_, rfl⟩
 have hMl : M.length = rows.length := by rw [hM, mK, dE]
 have hMb : BdL (2 * β + 1) M := by rw [hM]; exact hbv.mid om hsp
 have hMw : Wid w M := by rw [hM]; exact (show Wid w (vX rows) by rw [hv]; exact GI.wid).mid (by rw [dE]; omega) (by rw [dE]; omega) c
 refine Rg 3 J <| Um J J <| Um J J <| aA (fP J J) J <| aX (fun h48 => ?_) (fun h48 => ?_)
 rotate_left
 ·refine Nk [6,7,8,9,10,11,12,18,19,30,31,32,33,34,35,36,37,38,48] J <| aU J <| aF ?_
  obtain ⟨rows1, hr1⟩ : ∃ z, z = rows := ⟨_, rfl⟩
  obtain ⟨d1, hd1e⟩ : ∃ z, z = d := ⟨_, rfl⟩
  have hae : a = leads.length := by omega
  have hd1 : d1.1 = d.1 := by rw [hd1e]
  have hv1 : vX rows1 = sw (vX rows) a leads.length := by rw [hr1, hae, sw_same (by rw [dE]; omega)]
  have hl1 : rows1.length = rows.length := by simp [hr1]
  have hp1 : ((rows1.getD leads.length default).2.getD c default).1 ≠ 0 := by rw [iN, hv1]; exact hsp
  have hb1 : BdL (β) (vX rows1) := by rw [hv1]; exact hbv.sw _ _
  have hbr : ∀ x, x ∈ (rows1.getD leads.length default).2 → Bd (β) x.1 := by
   intro x hx
   have := hb1.row leads.length
   rw [dJ] at this
   exact this _ (List.mem_map.2 ⟨x, hx, rfl⟩)
  have hwr : (rows1.getD leads.length default).2.length = w := by
   have := ((show Wid w (vX rows) by rw [hv]; exact GI.wid).sw (i := a) (r := leads.length) (by rw [dE]; omega) (by rw [dE]; omega)).row (i := leads.length) (by rw [jP, dE]; omega)
   rw [← hv1, dJ, List.length_map] at this; exact this
  have hbpp := hbr _ (bE (show c < (rows1.getD leads.length default).2.length by omega))
  have hb1p := Bd1.div hbpp hp1
  obtain ⟨p, hpe⟩ : ∃ p, p = (rows1.getD leads.length default).2.getD c default := ⟨_, rfl⟩
  have hpv1 : p.1 = ent (vX rows) a c := by rw [hpe, iN, hv1, kV (by rw [dE]; omega) (by rw [dE]; omega)]
  have hd1b : Bd (β) d1.1 := by rw [hd1]; exact hdb
  have hd2v : (xmul d1 p).1 = gjd (vX rows0) (c + 1) := by
   rw [oJ hpv hal, ← hv, ← hld]
   show d1.1 * p.1 = _
   rw [hpv1, hd1, if_neg om, hdv]
  refine eK (outH q 1 3 (leads.map d64) [((0 + 3 + 1), { cells := (rows1.map fX).flatten, sz := 1, elem := 104, st := 0 }), ((0 + 3 + 3 + 1), { cells := xc d1, sz := 4, elem := 102, st := 0 }), (2, { cells := [.v (.int .i64 0), .sl 0 [], .v (.int .i64 0), .sl 0 []], sz := 4, elem := 102, st := 0 })]) (dP dG (aL om (g0.trans (by rw [hr1]))) (aL om (g1 (by decide) (g0.trans (by rw [hd1e])))) (aL om (g1 (by decide) (g1 (by decide) g0)))) <| Rg 9 J <| Um J J <| Um J J <| aA (cB (j := leads.length) J J J J om om J) J <| aA (dV (f := fX) (us := rows1) (j := leads.length) J J (aL om g0) (fun _ => rfl) J (by decide) om J) J <| Um J J <| aA (bO J J J J J om J) J <| aA (bM (b := lvX p) (dF (l := .agg [_, _, _, _]) J J J) (by rw [hpe]; rfl)) J <| aY (dQ J) J <| aZ (cE (cs' := xc p) J J J g0 J J J J) <| Nk [6,7,8,9,10,11,13,18,19,30,31,32,33,34,35,36,37,38] J <| Rg 4 J <| aA (aM (l := .agg [_, _, _, _]) J J (g1 om (g1 om (aL om (g1 (by decide) g0)))) J J) J <| aA (aM (l := lvX p) J J g0 J J) J <| aA (aK J (jN d1 p (hd1b.mono om) (by rw [hpe]; exact hbpp.mono om)) (by first | (simp [-bU]; done) | simp)) J <| aZ (cE (cs' := [_, _, _, _]) J J J (g1 om (g1 om (aL om (g1 (by decide) g0)))) J J J J) <| Nk [6,7,8,9,10,11,13,18,19,30,31,32,33,34,35,36,37,38] J ?_
  obtain ⟨r, hr, np, rfl, hnp⟩ := qT (rows1.getD leads.length default).1 (rows1.getD leads.length default).2 (xdiv (xint 1) p) om (fun x hx => (hbr x hx).mono om) (by rw [hpe]; exact hb1p.mono om)
  refine bG (z := 12) J kR <| Dm J J <| Dm J J <| Dm J J <| Dm J J <| aC (cB (j := leads.length) J J J J om om J) J <| aC (dV (f := fX) (us := rows1) (j := leads.length) J J (g1 om (g1 om (g1 om (aL om g0)))) (fun _ => rfl) J (by decide) om J) J <| aC (aK J (jD 1 (by unfold I64; omega)) (by first | (simp [-bU]; done) | simp)) J <| aC (aM (l := lvX p) J J (g1 om g0) J J) J <| aC (aK J (rdiv_run (xint 1) p (by rw [hpe]; exact hp1) (Bd1.mono om) (by rw [hpe]; exact hbpp.mono om)) (by first | (simp [-bU]; done) | simp)) J <| aC (aK J (hr) (by first | (simp [-bU]; done) | simp)) J <| aC (cB (j := leads.length) J J J J om om J) J <| cA (dS (f := fX) (us := rows1) (1, np) J J J (g1 om (g1 om (g1 om (aL om g0)))) (fun _ => rfl) J J om J) <| bD (aP kR) J <| Ck [6,7,8,9,10,11,18,19,30,31,32,33,34,35,36,37,38] J <| aB ?_
  obtain ⟨rowsM, hr2⟩ : ∃ z, z = rows1.set leads.length (1, np) := ⟨_, rfl⟩
  rw [← hr2]
  have hl2 : rowsM.length = rows.length := by rw [hr2, List.length_set]; exact hl1
  have hv2 : vX rowsM = M := by
   rw [hr2, qJ, hv1, hM]; unfold mid
   rw [hnp, ← dJ, hv1]
   have : (xdiv (xint 1) p).1 = 1 / ent (sw (vX rows) a leads.length) leads.length c := by show (1 : Rat) / p.1 = _; rw [hpv1, kV (by rw [dE]; omega) (by rw [dE]; omega)]
   rw [this]
  refine Rg 3 J <| Um J J <| aA (gQ J J) J <| Um J J <| Nk [6,7,8,9,10,11,18,19,30,31,32,33,34,35,36,37,38,87,88] J <| aJ <| aW (α := Nat × (List X1)) (fun ⟨j, rows2⟩ => [(6, .ptr (0 + (0 + 1 + 1)) 0), (7, .ref (0 + 3 + 1) 1 0 rows2.length), (8, .ptr (0 + 3 + 3 + 1) 0), (9, outV q 1 (leads.map d64)), (10, .v (.int .i64 (c : Int))), (11, .v (.int .i64 (leads.length : Int))), (18, .v (.int .i64 (cols : Int))), (19, .v (.int .i64 (c : Int))), (87, .v (.int .i64 (rows.length : Int))), (88, .v (.int .i64 (j : Int)))]) (fun ⟨j, rows2⟩ => outH q 1 3 (leads.map d64) [((0 + 3 + 1), { cells := (rows2.map fX).flatten, sz := 1, elem := 104, st := 0 }), ((0 + 3 + 3 + 1), { cells := xc (xmul d1 p), sz := 4, elem := 102, st := 0 }), (2, { cells := [.v (.int .i64 0), .sl 0 [], .v (.int .i64 0), .sl 0 []], sz := 4, elem := 102, st := 0 })]) (fun ⟨j, rows2⟩ n => j ≤ rows.length ∧ rows2.length = rows.length ∧ (∀ k, k < rows.length → (vX rows2).getD k default = if k < j then elr M leads.length c k else M.getD k default) ∧ q < n) (fun ⟨j, rows2⟩ => rows.length - j) (0, rowsM) ⟨rfl, congrArg some (by rw [hl2]), rfl, rfl, rfl, rfl, rfl, rfl, rfl, rfl, trivial⟩ (dP (fun hu => (g1 om (g1 om (g1 om (g1 om (dG hu)))))) g0 (g1 om g0) (g1 om (g1 om (g1 om (g1 om (aL om (g1 (by decide) (g1 (by decide) g0)))))))) ⟨Nat.zero_le _, hl2, by intro k hk; rw [if_neg om, hv2], om⟩ ?_
  rintro ⟨j, rows2⟩ n hJ
  change WC _ _ _ _ _ (_ :: _) (outH _ _ _ _ _) n _
  obtain ⟨hjl, hl4, hst, hqn4⟩ := hJ
  refine Rg 1 J <| aA (bP J J) J <| aX (fun h89 => ?_) (fun h89 => ?_)
  rotate_left
  ·refine Wn <| aU J <| aV <| aR <| aO J ?_
   have hfin : vX rows2 = elim M leads.length c := elim_eq (j := j) (by rw [dE]; omega) om (by rw [hMl]; exact hst)
   refine aG (z := 5) J <| Um J J <| Um J J <| aA (cW (cs := [_]) (rows := [[_]]) J J (by decide) J J J) J <| dB (te := ti3) (f := d64) (q := q) (us := leads) (u := c) J J J J J (fun _ => rfl) (by decide) (by show (2 * (leads.length + 1) + 256) * 8 ≤ _; omega) om (gN om (gN om (gN om J))) (gN om (gN om (gN om J))) J <| Ua J J <| Wn <| aE <| Ck [6,7,8,9,18,19] J <| aG (z := 2) J <| aA (cI (((c + 1 : Nat) : Int)) (aS J J om) om) J <| Um J J <| Wn <| aD <| ⟨⟨c + 1, _, rows2, leads ++ [c], xmul d1 p⟩, ⟨J, J, J, J, J, J, trivial⟩, (dP dG (aL om g0) (aL om (g1 (by decide) g0)) (aL om (g1 (by decide) (g1 (by decide) g0)))), ⟨om, by rw [hgy, hfin, hM, hv, hld], by rw [hgy, hld], om, om, hd2v⟩, by show cols - (c + 1) < cols - c; omega⟩
  refine Wn <| aT J <| aF <| aJ <| Rg 2 J <| Um J J <| Ua J J <| cL ?_
  have hrj : vX rows2 = vX rows2 := rfl
  have hj1 : (vX rows2).getD j default = M.getD j default := by rw [hst j om, if_neg om]
  have hj2 : (vX rows2).getD leads.length default = M.getD leads.length default := elim_row om (by rw [hMl]; exact hst)
  have hej : ent (vX rows2) j c = ent M j c := by unfold ent; rw [hj1]
  have hwj : (rows2.getD j default).2.length = w := by have := hMw.row (i := j) om; rw [← hj1, dJ] at this; simpa using this
  have hwl : (rows2.getD leads.length default).2.length = w := by have := hMw.row (i := leads.length) om; rw [← hj2, dJ] at this; simpa using this
  refine Rg 14 J <| Um J J <| Um J J <| aA (fP J J) J <| aX (fun h93 => ?_) (fun h93 => ?_)
  rotate_left
  ·refine Um J J <| K1 J J <| K1 J J <| K1 J J <| K1 J J <| K1 J J <| K1 J J <| K1 J J <| K1 J J <| K1 J J <| aA (bL J J) J <| Nk [6,7,8,9,10,11,14,18,19,87,88,95,96,97,98,99,100,101,102,103,104] J <| bV J <| cC <| aE <| Ck [6,7,8,9,10,11,18,19,87,88,95,96,97,98,99,100,101,102,103] J <| aG (z := 2) J <| aA (cI (((j + 1 : Nat) : Int)) (aS J J om) om) J <| Um J J <| Wn <| aD <| ⟨⟨j + 1, rows2⟩, ⟨J, J, J, J, J, J, J, J, J, J, trivial⟩, (dP dG (aL om g0) (aL om (g1 (by decide) g0)) (aL om (g1 (by decide) (g1 (by decide) g0)))), ⟨om, hl4, (by have := iV (A := vX rows2) (M := M) (j := j) om (by rw [hMl]; exact hst) (kU (.inl om)).symm; rwa [hMl] at this), om⟩, by show rows.length - (j + 1) < rows.length - j; omega⟩
  refine Um J J <| aI J (eG J) J <| aI J (eG J) J <| aI J (cB (j := j) J J J J om om J) J <| aI J (dV (f := fX) (us := rows2) (j := j) J J (aL om g0) (fun _ => rfl) J (by decide) om J) J <| aI J (eG J) J <| aI J (bO J J J J J om J) J <| aI J (dF (l := .agg [_, _, _, _]) J J J) J <| aI J (aK J (jB ((rows2.getD j default).2.getD c default)) (by first | (simp [-bU]; done) | simp)) J <| aI J (fP J J) J <| aX (fun h103 => ?_) (fun h103 => ?_)
  rotate_left
  ·refine aA (bH J J) J <| Nk [6,7,8,9,10,11,14,18,19,87,88,95,96,97,98,99,100,101,102,103,104] J <| bV J <| cC <| aE <| Ck [6,7,8,9,10,11,18,19,87,88,95,96,97,98,99,100,101,102,103] J <| aG (z := 2) J <| aA (cI (((j + 1 : Nat) : Int)) (aS J J om) om) J <| Um J J <| Wn <| aD <| ⟨⟨j + 1, rows2⟩, ⟨J, J, J, J, J, J, J, J, J, J, trivial⟩, (dP dG (aL om g0) (aL om (g1 (by decide) g0)) (aL om (g1 (by decide) (g1 (by decide) g0)))), ⟨om, hl4, (by have := iV (A := vX rows2) (M := M) (j := j) om (by rw [hMl]; exact hst) (kU (.inr (by rw [← hej, ← iN]; exact dZ.1 om))).symm; rwa [hMl] at this), om⟩, by show rows.length - (j + 1) < rows.length - j; omega⟩
  refine aA (bH J J) J <| Nk [6,7,8,9,10,11,14,18,19,87,88,95,96,97,98,99,100,101,102,103,104] J <| bT J ?_
  have hen2 : ent M j c ≠ 0 := by rw [← hej, ← iN]; exact fun k => h103 (dZ.2 k)
  have hbj : ∀ x, x ∈ (rows2.getD j default).2 → Bd (2 * β + 1) x.1 := by
   intro x hx
   have := hMb.row j
   rw [← hj1, dJ] at this
   exact this _ (List.mem_map.2 ⟨x, hx, rfl⟩)
  have hbl : ∀ x, x ∈ (rows2.getD leads.length default).2 → Bd (2 * β + 1) x.1 := by
   intro x hx
   have := hMb.row leads.length
   rw [← hj2, dJ] at this
   exact this _ (List.mem_map.2 ⟨x, hx, rfl⟩)
  have hbe := hbj _ (bE (show c < (rows2.getD j default).2.length by omega))
  obtain ⟨r, hr, nw, rfl, hnw⟩ := nM (rows2.getD j default).1 (rows2.getD leads.length default).1 (rows2.getD j default).2 (rows2.getD leads.length default).2 (xneg ((rows2.getD j default).2.getD c default)) om om (fun x hx => (hbj x hx).mono om) (fun x hx => (hbl x hx).mono om) (hbe.neg.mono om)
  refine cM (z := 21) J kR <| Dm J J <| Dm J J <| Dm J J <| Dm J J <| aC (cB (j := j) J J J J om om J) J <| aC (dV (f := fX) (us := rows2) (j := j) J J (aL om g0) (fun _ => rfl) J (by decide) om J) J <| Dm J J <| Dm J J <| aC (cB (j := j) J J J J om om J) J <| aC (dV (f := fX) (us := rows2) (j := j) J J (aL om g0) (fun _ => rfl) J (by decide) om J) J <| Dm J J <| aC (bO J J J J J om J) J <| aC (dF (l := .agg [_, _, _, _]) J J J) J <| aC (aK J (kI ((rows2.getD j default).2.getD c default)) (by first | (simp [-bU]; done) | simp)) J <| Dm J J <| Dm J J <| aC (cB (j := leads.length) J J J J om om J) J <| aC (dV (f := fX) (us := rows2) (j := leads.length) J J (aL om g0) (fun _ => rfl) J (by decide) om J) J <| aC (aK J (hr) (by first | (simp [-bU]; done) | simp)) J <| aC (cB (j := j) J J J J om om J) J <| cA (dS (f := fX) (us := rows2) (1, nw) J J J (aL om g0) (fun _ => rfl) J J om J) <| bD (aP kR) J <| aE ?_
  refine Ck [6,7,8,9,10,11,18,19,87,88,95,96,97,98,99,100,101,102,103] J <| aG (z := 2) J <| aA (cI (((j + 1 : Nat) : Int)) (aS J J om) om) J <| Um J J <| Wn <| aD <| ⟨⟨j + 1, rows2.set j (1, nw)⟩, ⟨rfl, congrArg some (by rw [List.length_set]), rfl, rfl, rfl, rfl, rfl, rfl, rfl, rfl, trivial⟩, dP (fun hu => g1 om (dG hu)) g0 (g1 (by decide) (aL om (g1 (by decide) g0))) (g1 (by decide) (aL om (g1 (by decide) (g1 (by decide) g0)))), ⟨om, by rw [List.length_set]; exact hl4, by rw [qJ]; exact (by have := pP (A := vX rows2) (M := M) (j := j) (by rw [dE]; omega) om (by rw [hMl]; exact hst) (x := nw.map (·.1)) (by rw [rK om hen2, ← hej, ← hj1, ← hj2, dJ, dJ, ← iN, hnw]; rfl); rwa [hMl] at this), om⟩, by show rows.length - (j + 1) < rows.length - j; omega⟩
 refine Nk [6,7,8,9,10,11,12,18,19,30,31,32,33,34,35,36,37,38,48] J <| aT J <| aB <| bG (z := 16) J kR <| Dm J J <| Dm J J <| Dm J J <| Dm J J <| Dm J J <| Dm J J <| aC (cB (j := leads.length) J J J J om om J) J <| aC (dV (f := fX) (us := rows) (j := leads.length) J J (aL om g0) (fun _ => rfl) J (by decide) om J) J <| Dm J J <| Dm J J <| aC (cB (j := a) J J J J om om J) J <| aC (dV (f := fX) (us := rows) (j := a) J J (aL om g0) (fun _ => rfl) J (by decide) om J) J <| aC (cB (j := a) J J J J om om J) J <| cA (dS (f := fX) (us := rows) (rows.getD leads.length default) J J J (aL om g0) (fun _ => rfl) J J om J) <| aC (cB (j := leads.length) J J J J om om J) J <| cA (dS (f := fX) (us := (rows.set a (rows.getD leads.length default))) (rows.getD a default) J J J g0 (fun _ => rfl) J J (by rw [List.length_set]; omega) J) <| bD (aP kR) J <| Ck [6,7,8,9,10,11,18,19,30,31,32,33,34,35,36,37,38] J <| Rg 3 J ?_
 refine aA (aM (l := .agg [_, _, _, _]) J J (g1 om (g1 om (aL om (g1 (by decide) g0)))) J J) J <| aA (aK J (kI d) (by first | (simp [-bU]; done) | simp)) J <| aZ (cE (cs' := [_, _, _, _]) J J J (g1 om (g1 om (aL om (g1 (by decide) g0)))) J J J J) <| Nk [6,7,8,9,10,11,18,19,30,31,32,33,34,35,36,37,38] J ?_
 obtain ⟨rows1, hr1⟩ : ∃ z, z = ((rows.set a (rows.getD leads.length default)).set leads.length (rows.getD a default)) := ⟨_, rfl⟩
 obtain ⟨d1, hd1e⟩ : ∃ z, z = xneg d := ⟨_, rfl⟩
 rw [← hr1]
 have hd1 : d1.1 = -d.1 := by rw [hd1e]; rfl
 have hv1 : vX rows1 = sw (vX rows) a leads.length := by rw [hr1, qJ, qJ, ← dJ, ← dJ]; exact sw_comm om
 have hl1 : rows1.length = rows.length := by simp [hr1]
 have hp1 : ((rows1.getD leads.length default).2.getD c default).1 ≠ 0 := by rw [iN, hv1]; exact hsp
 have hb1 : BdL (β) (vX rows1) := by rw [hv1]; exact hbv.sw _ _
 have hbr : ∀ x, x ∈ (rows1.getD leads.length default).2 → Bd (β) x.1 := by
  intro x hx
  have := hb1.row leads.length
  rw [dJ] at this
  exact this _ (List.mem_map.2 ⟨x, hx, rfl⟩)
 have hwr : (rows1.getD leads.length default).2.length = w := by
  have := ((show Wid w (vX rows) by rw [hv]; exact GI.wid).sw (i := a) (r := leads.length) (by rw [dE]; omega) (by rw [dE]; omega)).row (i := leads.length) (by rw [jP, dE]; omega)
  rw [← hv1, dJ, List.length_map] at this; exact this
 have hbpp := hbr _ (bE (show c < (rows1.getD leads.length default).2.length by omega))
 have hb1p := Bd1.div hbpp hp1
 obtain ⟨p, hpe⟩ : ∃ p, p = (rows1.getD leads.length default).2.getD c default := ⟨_, rfl⟩
 have hpv1 : p.1 = ent (vX rows) a c := by rw [hpe, iN, hv1, kV (by rw [dE]; omega) (by rw [dE]; omega)]
 have hd1b : Bd (β) d1.1 := by rw [hd1]; exact hdb.neg
 have hd2v : (xmul d1 p).1 = gjd (vX rows0) (c + 1) := by
  rw [oJ hpv hal, ← hv, ← hld]
  show d1.1 * p.1 = _
  rw [hpv1, hd1, if_pos om, hdv]
 refine eK (outH q 1 3 (leads.map d64) [((0 + 3 + 1), { cells := (rows1.map fX).flatten, sz := 1, elem := 104, st := 0 }), ((0 + 3 + 3 + 1), { cells := xc d1, sz := 4, elem := 102, st := 0 }), (2, { cells := [.v (.int .i64 0), .sl 0 [], .v (.int .i64 0), .sl 0 []], sz := 4, elem := 102, st := 0 })]) (dP (fun hu => (g1 om (g1 om (g1 om (dG hu))))) (g1 (by decide) g0) (g0.trans (by rw [hd1e]; rfl)) (g1 om (g1 om (g1 om (aL om (g1 (by decide) (g1 (by decide) g0))))))) <| Rg 9 J <| Um J J <| Um J J <| aA (cB (j := leads.length) J J J J om om J) J <| aA (dV (f := fX) (us := rows1) (j := leads.length) J J (aL om g0) (fun _ => rfl) J (by decide) om J) J <| Um J J <| aA (bO J J J J J om J) J <| aA (bM (b := lvX p) (dF (l := .agg [_, _, _, _]) J J J) (by rw [hpe]; rfl)) J <| aY (dQ J) J <| aZ (cE (cs' := xc p) J J J g0 J J J J) <| Nk [6,7,8,9,10,11,13,18,19,30,31,32,33,34,35,36,37,38] J <| Rg 4 J <| aA (aM (l := .agg [_, _, _, _]) J J (g1 om (g1 om (aL om (g1 (by decide) g0)))) J J) J <| aA (aM (l := lvX p) J J g0 J J) J <| aA (aK J (jN d1 p (hd1b.mono om) (by rw [hpe]; exact hbpp.mono om)) (by first | (simp [-bU]; done) | simp)) J <| aZ (cE (cs' := [_, _, _, _]) J J J (g1 om (g1 om (aL om (g1 (by decide) g0)))) J J J J) <| Nk [6,7,8,9,10,11,13,18,19,30,31,32,33,34,35,36,37,38] J ?_
 obtain ⟨r, hr, np, rfl, hnp⟩ := qT (rows1.getD leads.length default).1 (rows1.getD leads.length default).2 (xdiv (xint 1) p) om (fun x hx => (hbr x hx).mono om) (by rw [hpe]; exact hb1p.mono om)
 refine bG (z := 12) J kR <| Dm J J <| Dm J J <| Dm J J <| Dm J J <| aC (cB (j := leads.length) J J J J om om J) J <| aC (dV (f := fX) (us := rows1) (j := leads.length) J J (g1 om (g1 om (g1 om (aL om g0)))) (fun _ => rfl) J (by decide) om J) J <| aC (aK J (jD 1 (by unfold I64; omega)) (by first | (simp [-bU]; done) | simp)) J <| aC (aM (l := lvX p) J J (g1 om g0) J J) J <| aC (aK J (rdiv_run (xint 1) p (by rw [hpe]; exact hp1) (Bd1.mono om) (by rw [hpe]; exact hbpp.mono om)) (by first | (simp [-bU]; done) | simp)) J <| aC (aK J (hr) (by first | (simp [-bU]; done) | simp)) J <| aC (cB (j := leads.length) J J J J om om J) J <| cA (dS (f := fX) (us := rows1) (1, np) J J J (g1 om (g1 om (g1 om (aL om g0)))) (fun _ => rfl) J J om J) <| bD (aP kR) J <| Ck [6,7,8,9,10,11,18,19,30,31,32,33,34,35,36,37,38] J <| aB ?_
 obtain ⟨rowsM, hr2⟩ : ∃ z, z = rows1.set leads.length (1, np) := ⟨_, rfl⟩
 rw [← hr2]
 have hl2 : rowsM.length = rows.length := by rw [hr2, List.length_set]; exact hl1
 have hv2 : vX rowsM = M := by
  rw [hr2, qJ, hv1, hM]; unfold mid
  rw [hnp, ← dJ, hv1]
  have : (xdiv (xint 1) p).1 = 1 / ent (sw (vX rows) a leads.length) leads.length c := by show (1 : Rat) / p.1 = _; rw [hpv1, kV (by rw [dE]; omega) (by rw [dE]; omega)]
  rw [this]
 refine Rg 3 J <| Um J J <| aA (gQ J J) J <| Um J J <| Nk [6,7,8,9,10,11,18,19,30,31,32,33,34,35,36,37,38,87,88] J <| aJ <| aW (α := Nat × (List X1)) (fun ⟨j, rows2⟩ => [(6, .ptr (0 + (0 + 1 + 1)) 0), (7, .ref (0 + 3 + 1) 1 0 rows2.length), (8, .ptr (0 + 3 + 3 + 1) 0), (9, outV q 1 (leads.map d64)), (10, .v (.int .i64 (c : Int))), (11, .v (.int .i64 (leads.length : Int))), (18, .v (.int .i64 (cols : Int))), (19, .v (.int .i64 (c : Int))), (87, .v (.int .i64 (rows.length : Int))), (88, .v (.int .i64 (j : Int)))]) (fun ⟨j, rows2⟩ => outH q 1 3 (leads.map d64) [((0 + 3 + 1), { cells := (rows2.map fX).flatten, sz := 1, elem := 104, st := 0 }), ((0 + 3 + 3 + 1), { cells := xc (xmul d1 p), sz := 4, elem := 102, st := 0 }), (2, { cells := [.v (.int .i64 0), .sl 0 [], .v (.int .i64 0), .sl 0 []], sz := 4, elem := 102, st := 0 })]) (fun ⟨j, rows2⟩ n => j ≤ rows.length ∧ rows2.length = rows.length ∧ (∀ k, k < rows.length → (vX rows2).getD k default = if k < j then elr M leads.length c k else M.getD k default) ∧ q < n) (fun ⟨j, rows2⟩ => rows.length - j) (0, rowsM) ⟨rfl, congrArg some (by rw [hl2]), rfl, rfl, rfl, rfl, rfl, rfl, rfl, rfl, trivial⟩ (dP (fun hu => (g1 om (g1 om (g1 om (g1 om (dG hu)))))) g0 (g1 om g0) (g1 om (g1 om (g1 om (g1 om (aL om (g1 (by decide) (g1 (by decide) g0)))))))) ⟨Nat.zero_le _, hl2, by intro k hk; rw [if_neg om, hv2], om⟩ ?_
 rintro ⟨j, rows2⟩ n hJ
 change WC _ _ _ _ _ (_ :: _) (outH _ _ _ _ _) n _
 obtain ⟨hjl, hl4, hst, hqn4⟩ := hJ
 refine Rg 1 J <| aA (bP J J) J <| aX (fun h89 => ?_) (fun h89 => ?_)
 rotate_left
 ·refine Wn <| aU J <| aV <| aR <| aO J ?_
  have hfin : vX rows2 = elim M leads.length c := elim_eq (j := j) (by rw [dE]; omega) om (by rw [hMl]; exact hst)
  refine aG (z := 5) J <| Um J J <| Um J J <| aA (cW (cs := [_]) (rows := [[_]]) J J (by decide) J J J) J <| dB (te := ti3) (f := d64) (q := q) (us := leads) (u := c) J J J J J (fun _ => rfl) (by decide) (by show (2 * (leads.length + 1) + 256) * 8 ≤ _; omega) om (gN om (gN om (gN om J))) (gN om (gN om (gN om J))) J <| Ua J J <| Wn <| aE <| Ck [6,7,8,9,18,19] J <| aG (z := 2) J <| aA (cI (((c + 1 : Nat) : Int)) (aS J J om) om) J <| Um J J <| Wn <| aD <| ⟨⟨c + 1, _, rows2, leads ++ [c], xmul d1 p⟩, ⟨J, J, J, J, J, J, trivial⟩, (dP dG (aL om g0) (aL om (g1 (by decide) g0)) (aL om (g1 (by decide) (g1 (by decide) g0)))), ⟨om, by rw [hgy, hfin, hM, hv, hld], by rw [hgy, hld], om, om, hd2v⟩, by show cols - (c + 1) < cols - c; omega⟩
 refine Wn <| aT J <| aF <| aJ <| Rg 2 J <| Um J J <| Ua J J <| cL ?_
 have hrj : vX rows2 = vX rows2 := rfl
 have hj1 : (vX rows2).getD j default = M.getD j default := by rw [hst j om, if_neg om]
 have hj2 : (vX rows2).getD leads.length default = M.getD leads.length default := elim_row om (by rw [hMl]; exact hst)
 have hej : ent (vX rows2) j c = ent M j c := by unfold ent; rw [hj1]
 have hwj : (rows2.getD j default).2.length = w := by have := hMw.row (i := j) om; rw [← hj1, dJ] at this; simpa using this
 have hwl : (rows2.getD leads.length default).2.length = w := by have := hMw.row (i := leads.length) om; rw [← hj2, dJ] at this; simpa using this
 refine Rg 14 J <| Um J J <| Um J J <| aA (fP J J) J <| aX (fun h93 => ?_) (fun h93 => ?_)
 rotate_left
 ·refine Um J J <| K1 J J <| K1 J J <| K1 J J <| K1 J J <| K1 J J <| K1 J J <| K1 J J <| K1 J J <| K1 J J <| aA (bL J J) J <| Nk [6,7,8,9,10,11,14,18,19,87,88,95,96,97,98,99,100,101,102,103,104] J <| bV J <| cC <| aE <| Ck [6,7,8,9,10,11,18,19,87,88,95,96,97,98,99,100,101,102,103] J <| aG (z := 2) J <| aA (cI (((j + 1 : Nat) : Int)) (aS J J om) om) J <| Um J J <| Wn <| aD <| ⟨⟨j + 1, rows2⟩, ⟨J, J, J, J, J, J, J, J, J, J, trivial⟩, (dP dG (aL om g0) (aL om (g1 (by decide) g0)) (aL om (g1 (by decide) (g1 (by decide) g0)))), ⟨om, hl4, (by have := iV (A := vX rows2) (M := M) (j := j) om (by rw [hMl]; exact hst) (kU (.inl om)).symm; rwa [hMl] at this), om⟩, by show rows.length - (j + 1) < rows.length - j; omega⟩
 refine Um J J <| aI J (eG J) J <| aI J (eG J) J <| aI J (cB (j := j) J J J J om om J) J <| aI J (dV (f := fX) (us := rows2) (j := j) J J (aL om g0) (fun _ => rfl) J (by decide) om J) J <| aI J (eG J) J <| aI J (bO J J J J J om J) J <| aI J (dF (l := .agg [_, _, _, _]) J J J) J <| aI J (aK J (jB ((rows2.getD j default).2.getD c default)) (by first | (simp [-bU]; done) | simp)) J <| aI J (fP J J) J <| aX (fun h103 => ?_) (fun h103 => ?_)
 rotate_left
 ·refine aA (bH J J) J <| Nk [6,7,8,9,10,11,14,18,19,87,88,95,96,97,98,99,100,101,102,103,104] J <| bV J <| cC <| aE <| Ck [6,7,8,9,10,11,18,19,87,88,95,96,97,98,99,100,101,102,103] J <| aG (z := 2) J <| aA (cI (((j + 1 : Nat) : Int)) (aS J J om) om) J <| Um J J <| Wn <| aD <| ⟨⟨j + 1, rows2⟩, ⟨J, J, J, J, J, J, J, J, J, J, trivial⟩, (dP dG (aL om g0) (aL om (g1 (by decide) g0)) (aL om (g1 (by decide) (g1 (by decide) g0)))), ⟨om, hl4, (by have := iV (A := vX rows2) (M := M) (j := j) om (by rw [hMl]; exact hst) (kU (.inr (by rw [← hej, ← iN]; exact dZ.1 om))).symm; rwa [hMl] at this), om⟩, by show rows.length - (j + 1) < rows.length - j; omega⟩
 refine aA (bH J J) J <| Nk [6,7,8,9,10,11,14,18,19,87,88,95,96,97,98,99,100,101,102,103,104] J <| bT J ?_
 have hen2 : ent M j c ≠ 0 := by rw [← hej, ← iN]; exact fun k => h103 (dZ.2 k)
 have hbj : ∀ x, x ∈ (rows2.getD j default).2 → Bd (2 * β + 1) x.1 := by
  intro x hx
  have := hMb.row j
  rw [← hj1, dJ] at this
  exact this _ (List.mem_map.2 ⟨x, hx, rfl⟩)
 have hbl : ∀ x, x ∈ (rows2.getD leads.length default).2 → Bd (2 * β + 1) x.1 := by
  intro x hx
  have := hMb.row leads.length
  rw [← hj2, dJ] at this
  exact this _ (List.mem_map.2 ⟨x, hx, rfl⟩)
 have hbe := hbj _ (bE (show c < (rows2.getD j default).2.length by omega))
 obtain ⟨r, hr, nw, rfl, hnw⟩ := nM (rows2.getD j default).1 (rows2.getD leads.length default).1 (rows2.getD j default).2 (rows2.getD leads.length default).2 (xneg ((rows2.getD j default).2.getD c default)) om om (fun x hx => (hbj x hx).mono om) (fun x hx => (hbl x hx).mono om) (hbe.neg.mono om)
 refine cM (z := 21) J kR <| Dm J J <| Dm J J <| Dm J J <| Dm J J <| aC (cB (j := j) J J J J om om J) J <| aC (dV (f := fX) (us := rows2) (j := j) J J (aL om g0) (fun _ => rfl) J (by decide) om J) J <| Dm J J <| Dm J J <| aC (cB (j := j) J J J J om om J) J <| aC (dV (f := fX) (us := rows2) (j := j) J J (aL om g0) (fun _ => rfl) J (by decide) om J) J <| Dm J J <| aC (bO J J J J J om J) J <| aC (dF (l := .agg [_, _, _, _]) J J J) J <| aC (aK J (kI ((rows2.getD j default).2.getD c default)) (by first | (simp [-bU]; done) | simp)) J <| Dm J J <| Dm J J <| aC (cB (j := leads.length) J J J J om om J) J <| aC (dV (f := fX) (us := rows2) (j := leads.length) J J (aL om g0) (fun _ => rfl) J (by decide) om J) J <| aC (aK J (hr) (by first | (simp [-bU]; done) | simp)) J <| aC (cB (j := j) J J J J om om J) J <| cA (dS (f := fX) (us := rows2) (1, nw) J J J (aL om g0) (fun _ => rfl) J J om J) <| bD (aP kR) J <| aE ?_
 refine Ck [6,7,8,9,10,11,18,19,87,88,95,96,97,98,99,100,101,102,103] J <| aG (z := 2) J <| aA (cI (((j + 1 : Nat) : Int)) (aS J J om) om) J <| Um J J <| Wn <| aD <| ⟨⟨j + 1, rows2.set j (1, nw)⟩, ⟨rfl, congrArg some (by rw [List.length_set]), rfl, rfl, rfl, rfl, rfl, rfl, rfl, rfl, trivial⟩, dP (fun hu => g1 om (dG hu)) g0 (g1 (by decide) (aL om (g1 (by decide) g0))) (g1 (by decide) (aL om (g1 (by decide) (g1 (by decide) g0)))), ⟨om, by rw [List.length_set]; exact hl4, by rw [qJ]; exact (by have := pP (A := vX rows2) (M := M) (j := j) (by rw [dE]; omega) om (by rw [hMl]; exact hst) (x := nw.map (·.1)) (by rw [rK om hen2, ← hej, ← hj1, ← hj2, dJ, dJ, ← iN, hnw]; rfl); rwa [hMl] at this), om⟩, by show rows.length - (j + 1) < rows.length - j; omega⟩
theorem mreduced_runB (rows0 : List X1) (cols w : Nat) (hne : 0 < rows0.length) (ln : rows0.length < 1000000) (hw : Wid w (vX rows0)) (hcw : cols ≤ w) (lw : w < 1000000) (β : Nat) (hβ : β ≤ 268435456) (hgb : GB (vX rows0) cols β) : ∃ r, Run Tryz.prog T E0 (.call 129 [.sl 1 (rows0.map fX), .v (.int .i64 (cols : Int))] r) ∧ ∃ (rows : List X1) (d : X), r = .tup [.sl 1 (rows.map fX), .sl (kd (gjn (vX rows0) cols).2.length) ((gjn (vX rows0) cols).2.map d64), lvX d] ∧ vX rows = (gjn (vX rows0) cols).1 ∧ d.1 = gjd (vX rows0) cols := by
 refine eM Tryz.func129 J J (dH J) ((mreduced_wcB rows0 cols w hne ln hw hcw lw β hβ hgb).mono ?_)
 rintro x e h n ⟨hx, q, rows, d, h1, h2, h3, h4, h5⟩
 refine ⟨.tup [.sl 1 (rows.map fX), .sl (kd (gjn (vX rows0) cols).2.length) ((gjn (vX rows0) cols).2.map d64), lvX d], ⟨rows, d, rfl, h1, h2⟩, ?_⟩
 rw [← iR]
 exact postRO (n := n) hx h3 (by simp) h4 (by show (0 : Nat) ≠ 2; decide) J (by decide) J (bX (n := 1) (fun _ => rfl)) (bN dfX) h5 (by decide) (bX (n := 1) (fun _ => rfl)) cZ (by simp)
theorem oP (al : List X1) (kb : Nat) (bl : List X) (w : Nat) (hne : 0 < al.length) (ln : al.length < 100000) (hw : ∀ r, r ∈ al → r.2.length = w) (hk : ∀ r, r ∈ al → r.1 = kd r.2.length) (hbl : bl.length = al.length) (hw9 : w ≤ 60) (β : Nat) (hβ : β ≤ 268435456) (hgb : GB (wR (vX al) (bl.map (·.1))) w β) : ∃ r, Run Tryz.prog T E0 (.call 108 [.sl 1 (al.map fX), .sl kb (bl.map xc), .v (.int .i64 (w : Int))] r) ∧ (if nosol (gjn (wR (vX al) (bl.map (·.1))) w) w = true then r = .tup [.v (.int .i64 0), .sl 0 []] else ∃ xs : List X, r = .tup [.v (.int .i64 (solk (gjn (wR (vX al) (bl.map (·.1))) w) w)), .sl 1 (xs.map xc)] ∧ xs.map (·.1) = solv (gjn (wR (vX al) (bl.map (·.1))) w) w (gjn (wR (vX al) (bl.map (·.1))) w).2.length) := by
 refine eM Tryz.func108 J J (dH J) <| Rg 2 J <| Ua J J <| Ua J J <| Wn <| Rg 1 J <| Ua J J <| Wn <| aB <| Rg 3 J <| Um J J <| aA (bA J J) J <| Um J J <| Wn <| aJ <| aW (α := Nat × Nat × (List X1)) (fun ⟨i, q, ds⟩ => [(1, .sl kb (bl.map xc)), (2, .v (.int .i64 (w : Int))), (8, outV q 1 (ds.map fX)), (19, .sl 1 (al.map fX)), (20, .v (.int .i64 (al.length : Int))), (21, .v (.int .i64 (i : Int)))]) (fun ⟨i, q, ds⟩ => outH q 1 104 (ds.map fX) []) (fun ⟨i, q, ds⟩ n => i ≤ al.length ∧ ds = (List.range i).map (wX al bl) ∧ ds.length = i ∧ q < n) (fun ⟨i, q, ds⟩ => al.length - i) (0, 0, []) ⟨J, J, J, J, J, J, trivial⟩ trivial ⟨Nat.zero_le _, rfl, rfl, om⟩ ?_
 rintro ⟨i, q, ds⟩ n hF
 change WC _ _ _ _ _ (_ :: _) (outH _ _ _ _ _) n _
 obtain ⟨hi, hds, hdl, hq⟩ := hF
 refine Rg 1 J <| aA (bP J J) J <| aX (fun h22 => ?_) (fun h22 => ?_)
 ·refine Wn <| aT J <| aF <| aJ <| Rg 5 J <| Um J J <| aA (bO J J J J J om J) J <| aA (dF J J J) J <| Ua J J <| Ua J J <| cL ?_
  have hm := bE (us := al) (i := i) om
  have hrw := hw _ hm
  have hrk := hk _ hm
  have hc0 : ((al.getD i default).2.map xc) = [] → Run Tryz.prog T E0 (.call 128 [.sl (al.getD i default).1 ((al.getD i default).2.map xc)] (.sl 0 [])) := fun h => by
   rw [hrk, xc_nil h]; exact clone1_nil
  have hc1 : ((al.getD i default).2.map xc) ≠ [] → Run Tryz.prog T E0 (.callO 128 [.sl (al.getD i default).1 ((al.getD i default).2.map xc)] (.ref 0 4 0 ((al.getD i default).2.map xc).length) { cells := ((al.getD i default).2.map xc).flatten, sz := 4, elem := 102, st := 0 }) := fun h => by
   have h2 : 0 < (al.getD i default).2.length := by
    rcases Nat.eq_zero_or_pos (al.getD i default).2.length with h3 | h3
    ·exact absurd (by rw [List.length_eq_zero_iff.1 h3]; rfl) h
    ·exact h3
   obtain ⟨_, _, _, h4, rfl, rfl, rfl⟩ := clone1_own (al.getD i default).1 (al.getD i default).2 (by rw [hrk, kd, if_neg om]; decide) h2 om
   rw [List.length_map]; exact h4
  refine mG (z := 12) J kR <| Dm J J <| Dm J J <| WD.callV (us := (al.getD i default).2.map xc) (sz := 4) (el := 102) J hc0 hc1 dD J <| Dm J J <| Dm J J <| aC (bO J J J J J om J) J <| aC (dF (l := .agg [_, _, _, _]) J J J) J <| aC (cW (cs := [_, _, _, _]) (rows := [[_, _, _, _]]) J J (by decide) J J J) J <| nV (te := ti102) (k0 := 0) (us := (al.getD i default).2.map xc) (rows := [xc (bl.getD i default)]) (.inl J) J J J J J (by decide) (by intro r hr; rw [List.mem_singleton] at hr; subst hr; rfl) (bX (n := 4) (fun _ => rfl)) (by simp) (by rw [List.length_map, hrw]; show (2 * (w + 1) + 256) * 64 ≤ _; omega) (by rw [List.length_map, hrw]; show w + 1 < _; omega) (aL om J) J <| aC (cW (cs := [_]) (rows := [[_]]) J J (by decide) J J J) J <| hO _ (outH_swap om) <| nV (te := ti104) (k0 := 0) (us := ds.map fX) (rows := [[_]]) (.inl J) J J J (by rw [gX]; rfl) J (by decide) (by intro r hr; rw [List.mem_singleton] at hr; subst hr; rfl) (bX (n := 1) (fun _ => rfl)) (by simp) (by rw [List.length_map]; show (2 * (ds.length + 1) + 256) * 24 ≤ _; omega) (by rw [List.length_map]; show ds.length + 1 < _; omega) (g1 om J) J <| aC (gP J) J <| bD (eU (rn n) (by simp only [List.reverse_cons, List.reverse_nil, List.nil_append, List.cons_append, List.map_cons, List.map_nil, ren, Nat.add_assoc, lZ, oZ hq]; kernel_rfl)) J <| Fz.rows (d := 8) ds (wX al bl i) (ys := ((al.getD i default).2 ++ [bl.getD i default]).map xc) [(1, _), (2, _), (19, _), (20, _), (21, _)] ⟨J, J, J, J, J, trivial⟩ J (by simp) J om (by simp) (by decide) (by simp) (bX (n := 4) (fun _ => rfl)) (bN dxc) <| aE <| aG (z := 2) J <| aA (cI (((i + 1 : Nat) : Int)) (aS J J om) om) J <| Um J J <| Wn <| aD <| ⟨⟨i + 1, _, ds ++ [wX al bl i]⟩, ⟨J, J, J, J, J, J, trivial⟩, cN, ⟨om, by rw [List.range_succ, List.map_append, hds]; rfl, by simp; omega, om⟩, by show al.length - (i + 1) < al.length - i; omega⟩
 refine Wn <| aU J <| aV <| aR <| aO J ?_
 obtain ⟨d0, dt, rfl⟩ : ∃ d0 dt, ds = d0 :: dt := by
  cases ds with
  | nil => simp at hdl; omega
  | cons d dt => exact ⟨d, dt, rfl⟩
 obtain rfl : i = al.length := by omega
 have hvw : vX (d0 :: dt) = (wR (vX al) (bl.map (·.1))) := by rw [hds]; exact vX_w al bl
 have hwid : Wid (w + 1) (wR (vX al) (bl.map (·.1))) := wR_wid (fun r hr => by obtain ⟨s, hs, rfl⟩ := List.mem_map.1 hr; rw [List.length_map]; exact hw s hs)
 obtain ⟨r, hr, rows, d, rfl, hrows, _⟩ := mreduced_runB (d0 :: dt) w (w + 1) (by simp) om (by rw [hvw]; exact hwid) om om β hβ (by rw [hvw]; exact hgb)
 rw [hvw] at hr hrows
 obtain ⟨_, gw, gl, gc⟩ := hgb.all hwid om w (Nat.le_refl _)
 have hrl : rows.length = al.length := by
  have := congrArg List.length hrows
  rw [cX, kC] at this; simpa [vX] using this
 rw [kC] at gl
 have gl : (gjn (wR (vX al) (bl.map (·.1))) w).2.length ≤ rows.length := by simpa [vX, hrl] using gl
 generalize gjn (wR (vX al) (bl.map (·.1))) w = S at *
 have hwr := wid_vX gw hrows
 refine Rg 11 J <| Um J J <| Um J J <| aY (jK [.sl 1 ((d0 :: dt).map fX), .v (.int .i64 (w : Int))] [(q, { cells := ((d0 :: dt).map fX).flatten, sz := 1, elem := 104, st := 1 })] J hr (.own (ob := { cells := ((d0 :: dt).map fX).flatten, sz := 1, elem := 104, st := 0 }) ((d0 :: dt).map fX) (by simp) g0 (by show (0 : Nat) ≠ 2; decide) J (by decide) (by simp [keys]) J (bX (n := 1) (fun _ => rfl)) (bN dfX) (.data (.v _) .nil)) (by intro p hp; rw [List.mem_singleton] at hp; subst hp; exact ⟨_, g0, by show (0 : Nat) ≠ 2; decide, rfl⟩)) J <| Um J J <| aA (dN J J) J <| aA (dN J J) J <| aA (dN J J) J <| aY (dQ J) J <| Ua J J <| Ua J J <| aZ (cE (cs' := [_, _, _, _]) J J J g0 J J J J) <| Nk [2,11,12] J <| aB <| Rg 6 J <| Um J J <| Um J J <| aA (bA J J) J <| aA (bM (b := .sl 1 ((rows.drop S.2.length).map fX)) (oSlLo (i := S.2.length) J J J (bX (f := fX) (n := 1) (fun _ => rfl)) J J (by rw [List.length_map]; omega)) (by rw [List.map_drop])) J <| aA (bA J J) J <| Um J J <| Wn <| aJ ?_
 refine aW (α := Nat) (fun i => [(2, .v (.int .i64 (w : Int))), (11, .sl 1 (rows.map fX)), (12, .sl (kd S.2.length) (S.2.map d64)), (48, .sl 1 ((rows.drop S.2.length).map fX)), (49, .v (.int .i64 ((rows.drop S.2.length).length : Int))), (50, .v (.int .i64 (i : Int)))]) (fun i => []) (fun i n => i ≤ (rows.drop S.2.length).length ∧ ∀ k, S.2.length ≤ k → k < S.2.length + i → ent S.1 k w = 0) (fun i => (rows.drop S.2.length).length - i) (0) ⟨J, J, J, J, J, J, trivial⟩ trivial ⟨Nat.zero_le _, by intro k h1 h2; omega⟩ ?_
 rintro i n hF
 change WC _ _ _ _ _ (_ :: _) ([]) n _
 obtain ⟨hi2, hz⟩ := hF
 refine Rg 1 J <| aA (bP J J) J <| aX (fun h51 => ?_) (fun h51 => ?_)
 ·refine Wn <| aT J <| aF <| aJ <| Rg 3 J <| aA (bO J J J J J om J) J <| aA (dF J J J) J <| Ua J J <| cL ?_
  have hdm : S.2.length + i < rows.length := by rw [List.length_drop] at h51; omega
  have hrl2 : (((rows.drop S.2.length).getD i default).2).length = w + 1 := by rw [dropD]; exact hwr _ (bE hdm)
  have he : ent S.1 (S.2.length + i) w = (((rows.drop S.2.length).getD i default).2.getD w default).1 := by rw [← hrows, ent_vX hdm, dropD]
  refine Rg 6 J <| Um J J <| Um J J <| aA (bO (j := w) J J J J om om J) J <| aA (dF (l := .agg [_, _, _, _]) J J J) J <| aA (aK J (jB (((rows.drop S.2.length).getD i default).2.getD w default)) dD) J <| aA (fP J J) J <| aX (fun h59 => ?_) (fun h59 => ?_)
  ·refine Nk [2,11,12,48,49,50,59] J <| bT J <| Rg 2 J <| Ua J J <| Ua J J <| Wn <| aQ <| aN <| bJ <| aN ?_
   have hsl : S.1.length = rows.length := by rw [← hrows]; simp [vX]
   have hns : nosol S w = true := nosol_yes (k := S.2.length + i) om om (by rw [he]; intro h0; exact h59 (dZ.2 h0))
   exact ⟨.tup [.v (.int .i64 0), .sl 0 []], by rw [if_pos hns], post (n := 0) (.inr J) J J dD⟩
  refine Nk [2,11,12,48,49,50,59] J <| bV J <| cC <| aE <| aG (z := 2) J <| aA (cI (((i + 1 : Nat) : Int)) (aS J J om) om) J <| Um J J <| Wn <| aD <| ⟨i + 1, ⟨J, J, J, J, J, J, trivial⟩, trivial, ⟨om, fun k h1 h2 => ?_⟩, by show (rows.drop S.2.length).length - (i + 1) < (rows.drop S.2.length).length - i; omega⟩
  by_cases hk : k < S.2.length + i
  ·exact hz k h1 hk
  ·obtain rfl : k = S.2.length + i := by omega
   rw [he]; exact dZ.1 om
 refine Wn <| aU J <| aV <| aR <| aO J ?_
 have hns : nosol S w = false := by
  have hsl : S.1.length = rows.length := by rw [← hrows]; simp [vX]
  rw [List.length_drop] at h51 hi2
  exact nosol_no om (fun k h1 h2 => hz k h1 om)
 refine Rg 3 J <| Um J J <| aY (oMk (a := w) (b := w) J J J J om om (by decide) om (by show 64 * w ≤ _; omega) om) J <| Ua J J <| Wn <| aB <| Rg 3 J <| Um J J <| aA (bA J J) J <| Um J J <| Wn <| aJ <| aW (α := Nat × Nat × (List X)) (fun ⟨i, q2, xs⟩ => [(2, .v (.int .i64 (w : Int))), (11, .sl 1 (rows.map fX)), (12, .sl (kd S.2.length) (S.2.map d64)), (16, .ref q2 4 0 w), (63, .sl (kd S.2.length) (S.2.map d64)), (64, .v (.int .i64 (S.2.length : Int))), (65, .v (.int .i64 (i : Int)))]) (fun ⟨i, q2, xs⟩ => [(q2, { cells := (xs.map xc).flatten, sz := 4, elem := 102, st := 0 })]) (fun ⟨i, q2, xs⟩ n => i ≤ S.2.length ∧ xs.length = w ∧ xs.map (·.1) = solv S w i) (fun ⟨i, q2, xs⟩ => S.2.length - i) (0, _, List.replicate w x0) ⟨J, J, J, J, J, J, J, trivial⟩ ⟨g0.trans (by rw [List.map_replicate]; rfl), trivial⟩ ⟨Nat.zero_le _, by simp, by rw [List.map_replicate]; rfl⟩ ?_
 rintro ⟨i, q2, xs⟩ n hF
 change WC _ _ _ _ _ (_ :: _) (_ :: _) n _
 obtain ⟨hi4, hxl, hxs⟩ := hF
 refine Rg 1 J <| aA (bP J J) J <| aX (fun h66 => ?_) (fun h66 => ?_)
 ·refine Wn <| aT J <| aF <| aJ <| Rg 5 J <| Um J J <| aA (bO J J J J J om J) J <| aA (dF J J J) J <| Ua J J <| Ua J J <| cL ?_
  have hld := gc _ (bE (us := S.2) (i := i) om)
  have hrl4 : ((rows.getD i default).2).length = w + 1 := hwr _ (bE om)
  have he4 : ent S.1 i w = ((rows.getD i default).2.getD w default).1 := by rw [← hrows, ent_vX om]
  refine aG (z := 11) J <| Um J J <| Um J J <| Um J J <| Um J J <| aA (bO J J J J J om J) J <| aA (dF J J J) J <| Um J J <| aA (bO (j := w) J J J J om om J) J <| aA (dF (l := .agg [_, _, _, _]) J J J) J <| aA (cB J J J J J om J) J <| aZ (dS (f := xc) (us := xs) ((rows.getD i default).2.getD w default) J J J g0 (fun _ => rfl) J J om J) <| Wn <| aE <| Ck [2,11,12,16,63,64,65] J <| aG (z := 2) J <| aA (cI (((i + 1 : Nat) : Int)) (aS J J om) om) J <| Um J J <| Wn <| aD <| ⟨⟨i + 1, _, xs.set (S.2.getD i default) ((rows.getD i default).2.getD w default)⟩, ⟨J, J, J, J, J, J, J, trivial⟩, ⟨g0, trivial⟩, ⟨om, by rw [List.length_set]; exact hxl, ?_⟩, by show S.2.length - (i + 1) < S.2.length - i; omega⟩
  rw [List.map_set, hxs, solv, he4]
 refine Wn <| aU J <| aV <| aR <| aO J <| aB ?_
 have hxs' : xs.map (·.1) = solv S w S.2.length := by rw [hxs, show i = S.2.length by omega]
 refine Rg 4 J <| Um J J <| aA (bA J J) J <| Um J J <| aA (bP J J) J <| aX (fun h84 => ?_) (fun h84 => ?_)
 ·refine Wn <| aT J <| aB <| Rg 3 J <| Um J J <| Ua J J <| Ua J J <| Nk [6,7] J <| bB <| ⟨.tup [.v (.int .i64 2), .sl 1 (xs.map xc)], by rw [if_neg (by rw [hns]; decide)]; exact ⟨xs, by unfold solk; rw [if_pos om], hxs'⟩, ?_⟩
  exact jW (n := 0) [(q2, { cells := (xs.map xc).flatten, sz := 4, elem := 102, st := 1 })] (.inr J) J (.data (.v _) (.own (ob := { cells := (xs.map xc).flatten, sz := 4, elem := 102, st := 0 }) _ (by rw [List.length_map, hxl]) g0 (by show (0 : Nat) ≠ 2; decide) J (by decide) (List.mem_singleton.2 J) J (bX (n := 4) (fun _ => rfl)) (bN dxc) .nil)) (by intro p hp; rw [List.mem_singleton] at hp; subst hp; exact ⟨_, g0, by show (0 : Nat) ≠ 2; decide, rfl⟩)
 refine Wn <| aU J <| aF <| Rg 3 J <| Um J J <| Ua J J <| Ua J J <| Nk [6,7] J <| aQ <| ⟨.tup [.v (.int .i64 1), .sl 1 (xs.map xc)], by rw [if_neg (by rw [hns]; decide)]; exact ⟨xs, by unfold solk; rw [if_neg om], hxs'⟩, ?_⟩
 exact jW (n := 0) [(q2, { cells := (xs.map xc).flatten, sz := 4, elem := 102, st := 1 })] (.inr J) J (.data (.v _) (.own (ob := { cells := (xs.map xc).flatten, sz := 4, elem := 102, st := 0 }) _ (by rw [List.length_map, hxl]) g0 (by show (0 : Nat) ≠ 2; decide) J (by decide) (List.mem_singleton.2 J) J (bX (n := 4) (fun _ => rfl)) (bN dxc) .nil)) (by intro p hp; rw [List.mem_singleton] at hp; subst hp; exact ⟨_, g0, by show (0 : Nat) ≠ 2; decide, rfl⟩)
theorem qreduced_runB (rows0 : List Q1) (cols w : Nat) (hne : 0 < rows0.length) (ln : rows0.length < 1000000) (hw : Wid w (vQ rows0)) (hcw : cols ≤ w) (lw : w < 1000000) (β : Nat) (hβ : β ≤ 268435456) (hgb : GB (vQ rows0) cols β) : ∃ r, Run Tryz.prog T E0 (.call 105 [.sl 1 (rows0.map fQ), .v (.int .i64 (cols : Int))] r) ∧ ∃ rows : List Q1, r = .tup [.sl 1 (rows.map fQ), .sl (kd (gjn (vQ rows0) cols).2.length) ((gjn (vQ rows0) cols).2.map d64)] ∧ vQ rows = (gjn (vQ rows0) cols).1 := by
 refine eM Tryz.func105 J J (dH J) <| Rg 2 J <| Ua J J <| Ua J J <| Wn <| Rg 4 J <| aA (cW (cs := []) (rows := []) J J (by decide) J J J) J <| Um J J <| aY (oApS (xs := []) (rows := rows0.map fQ) J J J J J (by decide) (by simp) (bX (f := fQ) (n := 1) (fun _ => rfl)) (by simpa using hne) (by rw [List.length_map]; show (2 * (0 + rows0.length) + 256) * 24 ≤ _; omega) (by rw [List.length_map]; show 0 + rows0.length < _; omega)) J <| Ua J J <| Wn <| Rg 1 J <| Ua J J <| Wn <| aB <| Rg 2 J <| Um J J <| Um J J <| Wn <| aJ <| aW (α := Nat × Nat × (List Q1) × (List Nat)) (fun ⟨c, q, rows, leads⟩ => [(6, .ref (0 + 2 + 2) 1 0 rows.length), (7, outV q 1 (leads.map d64)), (15, .v (.int .i64 (cols : Int))), (16, .v (.int .i64 (c : Int)))]) (fun ⟨c, q, rows, leads⟩ => outH q 1 3 (leads.map d64) [((0 + 2 + 2), { cells := (rows.map fQ).flatten, sz := 1, elem := 34, st := 0 })]) (fun ⟨c, q, rows, leads⟩ n => c ≤ cols ∧ vQ rows = (gjn (vQ rows0) c).1 ∧ leads = (gjn (vQ rows0) c).2 ∧ 5 ≤ q ∧ q < n) (fun ⟨c, q, rows, leads⟩ => cols - c) (0, 5, rows0, []) ⟨congrArg (fun z => some (LV.ref (0 + 2 + 2) 1 0 z)) (show ([] : List (List LV)).length + (rows0.map fQ).length = rows0.length by simp), rfl, rfl, rfl, trivial⟩ ⟨J, trivial⟩ ⟨Nat.zero_le _, rfl, rfl, om, om⟩ ?_
 rintro ⟨c, q, rows, leads⟩ n hF
 change WC _ _ _ _ _ (_ :: _) (outH _ _ _ _ _) n _
 obtain ⟨hc, hv, hld, hq5, hqn⟩ := hF
 have GI := hgb.all hw hcw c hc
 have hrl0 : rows.length = rows0.length := by rw [← eX rows, hv, cX, eX]
 have hll : leads.length ≤ rows.length := by have := GI.led; rw [eX] at this; rw [hld]; omega
 have hwid : ∀ i, i < rows.length → (rows.getD i default).2.length = w := by
  intro i hi
  have := GI.wid.row (i := i) (by rw [← hv, eX]; exact hi)
  rw [← hv, eO] at this
  simpa using this
 refine Rg 1 J <| aA (bP J J) J <| aX (fun h17 => ?_) (fun h17 => ?_)
 rotate_left
 ·refine Wn <| aU J <| aV <| aR <| aO J <| Rg 4 J <| Um J J <| Um J J <| Ua J J <| Ua J J <| Wn <| aQ ?_
  have hcc : c = cols := by omega
  subst hcc
  refine ⟨.tup [.sl 1 (rows.map fQ), .sl (kd leads.length) (leads.map d64)], ⟨rows, by rw [hld], hv⟩, ?_⟩
  rw [← iR]
  exact postRO (n := 0) (.inr J) J (by simp) (aL om g0) (by show (0 : Nat) ≠ 2; decide) J (by decide) J (bX (n := 1) (fun _ => rfl)) (bN dfQ) dG (by decide) (bX (n := 1) (fun _ => rfl)) cZ (by simp)
 refine Wn <| aT J <| aF <| aJ <| Rg 2 J <| Um J J <| Ua J J <| Wn <| Rg 3 J <| Um J J <| aA (oLenO J J) J <| Ua J J <| Wn <| aJ <| aW (α := Nat) (fun a => [(6, .ref (0 + 2 + 2) 1 0 rows.length), (7, outV q 1 (leads.map d64)), (8, .v (.int .i64 (c : Int))), (9, .v (.int .i64 (a : Int))), (15, .v (.int .i64 (cols : Int))), (16, .v (.int .i64 (c : Int)))]) (fun a => outH q 1 3 (leads.map d64) [((0 + 2 + 2), { cells := (rows.map fQ).flatten, sz := 1, elem := 34, st := 0 })]) (fun a n => leads.length ≤ a ∧ a ≤ rows.length ∧ (∀ k, leads.length ≤ k → k < a → ent (vQ rows) k c = 0) ∧ q < n) (fun a => rows.length - a) (leads.length) ⟨J, J, J, J, J, J, trivial⟩ (fZ om) ⟨Nat.le_refl _, hll, by intro k h1 h2; omega, om⟩ ?_
 rintro a n hG
 change WC _ _ _ _ _ (_ :: _) (outH _ _ _ _ _) n _
 obtain ⟨hle1, hle2, hz, hqn2⟩ := hG
 refine aB <| Rg 15 J <| Um J J <| Um J J <| aA (gQ J J) J <| aA (bP J J) J <| aX (fun h24 => ?_) (fun h24 => ?_)
 rotate_left
 ·refine Um J J <| K1 J J <| K1 J J <| K1 J J <| K1 J J <| K1 J J <| K1 J J <| K1 J J <| K1 J J <| K1 J J <| aA (bL J J) J <| Nk [6,7,8,9,15,16,26,27,28,29,30,31,32,33,34,35] J <| aU J <| aV <| aR <| aO J <| Ck [6,7,8,9,15,16,26,27,28,29,30,31,32,33,34] J <| aB <| Rg 4 J <| Um J J <| Um J J <| aA (gQ J J) J <| aA (eI J J) J ?_
  refine aX (fun h41 => ?_) (fun h41 => ?_)
  rotate_left
  ·omega
  refine Nk [6,7,8,9,15,16,26,27,28,29,30,31,32,33,34,41] J <| aT J <| aV <| aO J <| Ck [6,7,15,16,26,27,28,29,30,31,32,33,34] J <| aG (z := 2) J <| aA (cI (((c + 1 : Nat) : Int)) (aS J J om) om) J <| Um J J <| Wn <| aD ?_
  have hpv : pivot (vQ rows) leads.length c = a := iL hle1 (by rw [eX]; exact hle2) hz (.inl (by rw [eX]; omega))
  have hpn : pivot (gjn (vQ rows0) c).1 (gjn (vQ rows0) c).2.length c = (gjn (vQ rows0) c).1.length := by rw [← hv, ← hld, hpv, eX]; omega
  refine ⟨⟨c + 1, q, rows, leads⟩, ⟨J, J, J, J, trivial⟩, (fZ om), ⟨om, by rw [kA hpn]; exact hv, by rw [kA hpn]; exact hld, om, om⟩, by show cols - (c + 1) < cols - c; omega⟩
 refine Um J J <| aI J (eG J) J <| aI J (eG J) J <| aI J (cB (j := a) J J J J om om J) J <| aI J (dV (f := fQ) (us := rows) (j := a) J J (aL om g0) (fun _ => rfl) J (by decide) om J) J <| aI J (eG J) J <| aI J (bO J J J J J (by have := hwid a om; omega) J) J <| aI J (dF (l := .agg [_, _, _, _, _, _]) J J J) J <| aI J (aK J (lD ((rows.getD a default).2.getD c default)) (by first | (simp [-bU]; done) | simp)) J <| aI J (eI J J) J <| aX (fun h34 => ?_) (fun h34 => ?_)
 ·have hez : ent (vQ rows) a c = 0 := by rw [← nT]; exact dZ.1 h34
  refine aA (bH J J) J <| Nk [6,7,8,9,15,16,26,27,28,29,30,31,32,33,34,35] J <| aT J <| aF <| cJ <| aG (z := 3) J <| Um J J <| aA (cI (((a + 1 : Nat) : Int)) (aS J J om) om) J <| Ua J J <| Wn <| cK <| aD <| ⟨a + 1, ⟨J, J, J, J, J, J, trivial⟩, (fZ om), ⟨om, om, ?_, om⟩, by show rows.length - (a + 1) < rows.length - a; omega⟩
  intro k h1 h2
  by_cases e : k = a
  ·subst e; exact hez
  ·exact hz k h1 om
 have hen : ent (vQ rows) a c ≠ 0 := by rw [← nT]; exact fun k => h34 (dZ.2 k)
 refine aA (bH J J) J <| Nk [6,7,8,9,15,16,26,27,28,29,30,31,32,33,34,35] J <| aU J <| aV <| aR <| aO J <| Ck [6,7,8,9,15,16,26,27,28,29,30,31,32,33,34] J <| aB <| Rg 4 J <| Um J J <| Um J J <| aA (gQ J J) J <| aA (eI J J) J <| aX (fun h41 => ?_) (fun h41 => ?_)
 ·omega
 refine Nk [6,7,8,9,15,16,26,27,28,29,30,31,32,33,34,41] J <| aU J <| aF ?_
 have hrl : leads.length < rows.length := by omega
 have hpv : pivot (vQ rows) leads.length c = a := iL hle1 (by rw [eX]; exact hle2) hz (.inr hen)
 rw [hv, hld] at hpv
 have hal : a < (gjn (vQ rows0) c).1.length := by rw [← hv, eX]; omega
 have hgy := kY hpv hal
 have hsp : ent (sw (vQ rows) a leads.length) leads.length c ≠ 0 := by rw [kV (by rw [eX]; omega) (by rw [eX]; omega)]; exact hen
 have hbv : BdL (β) (vQ rows) := by rw [hv]; exact GI.bds om
 have hbc : β ≤ 268435456 := hβ
 have hbp := hgb.pos
 obtain ⟨M, hM⟩ : ∃ M, M = mid (vQ rows) a leads.length c := ⟨_, rfl⟩
 have hMl : M.length = rows.length := by rw [hM, mK, eX]
 have hMb : BdL (2 * β + 1) M := by rw [hM]; exact hbv.mid om hsp
 have hMw : Wid w M := by rw [hM]; exact (show Wid w (vQ rows) by rw [hv]; exact GI.wid).mid (by rw [eX]; omega) (by rw [eX]; omega) c
 refine Rg 3 J <| Um J J <| aA (oLenO J J) J <| Ua J J <| Nk [6,7,8,9,10,15,16,26,27,28,29,30,31,32,33,34] J <| bG (z := 16) J kR <| Dm J J <| Dm J J <| Dm J J <| Dm J J <| Dm J J <| Dm J J <| aC (cB (j := a) J J J J om om J) J <| aC (dV (f := fQ) (us := rows) (j := a) J J (aL om g0) (fun _ => rfl) J (by decide) om J) J <| Dm J J <| Dm J J <| aC (cB (j := leads.length) J J J J om om J) J <| aC (dV (f := fQ) (us := rows) (j := leads.length) J J (aL om g0) (fun _ => rfl) J (by decide) om J) J <| aC (cB (j := leads.length) J J J J om om J) J <| cA (dS (f := fQ) (us := rows) (rows.getD a default) J J J (aL om g0) (fun _ => rfl) J J om J) <| aC (cB (j := a) J J J J om om J) J <| cA (dS (f := fQ) (us := (rows.set leads.length (rows.getD a default))) (rows.getD leads.length default) J J J g0 (fun _ => rfl) J J (by rw [List.length_set]; omega) J) <| bD (aP kR) J ?_
 refine Ck [6,7,8,10,15,16,26,27,28,29,30,31,32,33,34] J ?_
 obtain ⟨rows1, hr1⟩ : ∃ z, z = ((rows.set leads.length (rows.getD a default)).set a (rows.getD leads.length default)) := ⟨_, rfl⟩
 rw [← hr1]
 have hl1 : rows1.length = rows.length := by rw [hr1, List.length_set, List.length_set]
 have hv1 : vQ rows1 = sw (vQ rows) a leads.length := by rw [hr1, vQ_set, vQ_set]; unfold sw; rw [eO, eO]
 have hp1 : (rows1.getD leads.length default).2.getD c default ≠ 0 := by rw [nT, hv1]; exact hsp
 have hb1 : BdL (β) (vQ rows1) := by rw [hv1]; exact hbv.sw _ _
 have hbr : ∀ x, x ∈ (rows1.getD leads.length default).2 → Bd (β) x := by rw [← eO]; exact hb1.row _
 have hwr : (rows1.getD leads.length default).2.length = w := by rw [← eO, hv1]; exact ((show Wid w (vQ rows) by rw [hv]; exact GI.wid).sw (by rw [eX]; omega) (by rw [eX]; omega)).row (by rw [jP, eX]; omega)
 have hbpp := jX om hbr c
 have hb1p := Bd1.div hbpp hp1
 refine bG (z := 18) J kR <| Dm J J <| Dm J J <| Dm J J <| Dm J J <| aC (cB (j := leads.length) J J J J om om J) J <| aC (dV (f := fQ) (us := rows1) (j := leads.length) J J g0 (fun _ => rfl) J (by decide) om J) J <| aC (bM (b := lvQ 1) (aK J (fW 1 (by unfold I64; omega)) (by first | (simp [-bU]; done) | simp)) J) J <| Dm J J <| Dm J J <| aC (cB (j := leads.length) J J J J om om J) J <| aC (dV (f := fQ) (us := rows1) (j := leads.length) J J g0 (fun _ => rfl) J (by decide) om J) J <| Dm J J <| aC (bO J J J J J om J) J <| aC (dF (l := .agg [_, _, _, _, _, _]) J J J) J <| aC (aK J (nrdiv_run 1 ((rows1.getD leads.length default).2.getD c default) hp1 (Bd1.mono om) (hbpp.mono om)) (by first | (simp [-bU]; done) | simp)) J <| aC (aK J (qW (rows1.getD leads.length default).1 (rows1.getD leads.length default).2 (1 / (rows1.getD leads.length default).2.getD c default) om (fun x hx => (hbr x hx).mono om) (hb1p.mono om)) (by first | (simp [-bU]; done) | simp)) J <| aC (cB (j := leads.length) J J J J om om J) J <| cA (dS (f := fQ) (us := rows1) (kd (rsc (1 / (rows1.getD leads.length default).2.getD c default) (rows1.getD leads.length default).2).length, (rsc (1 / (rows1.getD leads.length default).2.getD c default) (rows1.getD leads.length default).2)) J J J g0 (fun _ => rfl) J J om J) <| bD (aP kR) J <| Ck [6,7,8,10,15,16,26,27,28,29,30,31,32,33,34] J <| aB ?_
 obtain ⟨rowsM, hr2⟩ : ∃ z, z = rows1.set leads.length (kd (rsc (1 / (rows1.getD leads.length default).2.getD c default) (rows1.getD leads.length default).2).length, (rsc (1 / (rows1.getD leads.length default).2.getD c default) (rows1.getD leads.length default).2)) := ⟨_, rfl⟩
 rw [← hr2]
 have hl2 : rowsM.length = rows.length := by rw [hr2, List.length_set]; exact hl1
 have hv2 : vQ rowsM = M := by rw [hr2, vQ_set, hv1, hM]; unfold mid; rw [nT, hv1, ← eO, hv1]
 refine Rg 3 J <| Um J J <| aA (gQ J J) J <| Um J J <| Nk [6,7,8,10,15,16,26,27,28,29,30,31,32,33,34,76,77] J <| aJ <| aW (α := Nat × (List Q1)) (fun ⟨j, rows2⟩ => [(6, .ref (0 + 2 + 2) 1 0 rows2.length), (7, outV q 1 (leads.map d64)), (8, .v (.int .i64 (c : Int))), (10, .v (.int .i64 (leads.length : Int))), (15, .v (.int .i64 (cols : Int))), (16, .v (.int .i64 (c : Int))), (76, .v (.int .i64 (rows.length : Int))), (77, .v (.int .i64 (j : Int)))]) (fun ⟨j, rows2⟩ => outH q 1 3 (leads.map d64) [((0 + 2 + 2), { cells := (rows2.map fQ).flatten, sz := 1, elem := 34, st := 0 })]) (fun ⟨j, rows2⟩ n => j ≤ rows.length ∧ rows2.length = rows.length ∧ (∀ k, k < rows.length → (vQ rows2).getD k default = if k < j then elr M leads.length c k else M.getD k default) ∧ q < n) (fun ⟨j, rows2⟩ => rows.length - j) (0, rowsM) ⟨congrArg some (by rw [hl2]), rfl, rfl, rfl, rfl, rfl, rfl, rfl, trivial⟩ (subsM_mk (fun hu => (g1 om (g1 om (g1 om (dG hu))))) g0) ⟨Nat.zero_le _, hl2, by intro k hk; rw [if_neg om, hv2], om⟩ ?_
 rintro ⟨j, rows2⟩ n hJ
 change WC _ _ _ _ _ (_ :: _) (outH _ _ _ _ _) n _
 obtain ⟨hjl, hl4, hst, hqn4⟩ := hJ
 refine Rg 1 J <| aA (bP J J) J <| aX (fun h78 => ?_) (fun h78 => ?_)
 rotate_left
 ·refine Wn <| aU J <| aV <| aR <| aO J ?_
  have hfin : vQ rows2 = elim M leads.length c := elim_eq (j := j) (by rw [eX]; omega) om (by rw [hMl]; exact hst)
  refine aG (z := 5) J <| Um J J <| Um J J <| aA (cW (cs := [_]) (rows := [[_]]) J J (by decide) J J J) J <| dB (te := ti3) (f := d64) (q := q) (us := leads) (u := c) J J J J J (fun _ => rfl) (by decide) (by show (2 * (leads.length + 1) + 256) * 8 ≤ _; omega) om (gN om J) (gN om J) J <| Ua J J <| Wn <| aE <| aG (z := 2) J <| aA (cI (((c + 1 : Nat) : Int)) (aS J J om) om) J <| Um J J <| Wn <| aD <| ⟨⟨c + 1, _, rows2, leads ++ [c]⟩, ⟨J, J, J, J, trivial⟩, (fZ om), ⟨om, by rw [hgy, hfin, hM, hv, hld], by rw [hgy, hld], om, om⟩, by show cols - (c + 1) < cols - c; omega⟩
 refine Wn <| aT J <| aF <| aJ <| Rg 2 J <| Um J J <| Ua J J <| cL ?_
 have hrj : vQ rows2 = vQ rows2 := rfl
 have hj1 : (vQ rows2).getD j default = M.getD j default := by rw [hst j om, if_neg om]
 have hj2 : (vQ rows2).getD leads.length default = M.getD leads.length default := elim_row om (by rw [hMl]; exact hst)
 have hej : ent (vQ rows2) j c = ent M j c := by unfold ent; rw [hj1]
 have hwj : (rows2.getD j default).2.length = w := by have := hMw.row (i := j) om; rw [← hj1, eO] at this; simpa using this
 have hwl : (rows2.getD leads.length default).2.length = w := by have := hMw.row (i := leads.length) om; rw [← hj2, eO] at this; simpa using this
 refine Rg 14 J <| Um J J <| Um J J <| aA (fP J J) J <| aX (fun h82 => ?_) (fun h82 => ?_)
 rotate_left
 ·refine Um J J <| K1 J J <| K1 J J <| K1 J J <| K1 J J <| K1 J J <| K1 J J <| K1 J J <| K1 J J <| K1 J J <| aA (bL J J) J <| Nk [6,7,8,10,11,15,16,76,77,84,85,86,87,88,89,90,91,92,93] J <| bV J <| cC <| aE <| Ck [6,7,8,10,15,16,76,77,84,85,86,87,88,89,90,91,92] J <| aG (z := 2) J <| aA (cI (((j + 1 : Nat) : Int)) (aS J J om) om) J <| Um J J <| Wn <| aD <| ⟨⟨j + 1, rows2⟩, ⟨J, J, J, J, J, J, J, J, trivial⟩, (fZ om), ⟨om, hl4, (by have := iV (A := vQ rows2) (M := M) (j := j) om (by rw [hMl]; exact hst) (kU (.inl om)).symm; rwa [hMl] at this), om⟩, by show rows.length - (j + 1) < rows.length - j; omega⟩
 refine Um J J <| aI J (eG J) J <| aI J (eG J) J <| aI J (cB (j := j) J J J J om om J) J <| aI J (dV (f := fQ) (us := rows2) (j := j) J J (aL om g0) (fun _ => rfl) J (by decide) om J) J <| aI J (eG J) J <| aI J (bO J J J J J om J) J <| aI J (dF (l := .agg [_, _, _, _, _, _]) J J J) J <| aI J (aK J (lD ((rows2.getD j default).2.getD c default)) (by first | (simp [-bU]; done) | simp)) J <| aI J (fP J J) J <| aX (fun h92 => ?_) (fun h92 => ?_)
 rotate_left
 ·refine aA (bH J J) J <| Nk [6,7,8,10,11,15,16,76,77,84,85,86,87,88,89,90,91,92,93] J <| bV J <| cC <| aE <| Ck [6,7,8,10,15,16,76,77,84,85,86,87,88,89,90,91,92] J <| aG (z := 2) J <| aA (cI (((j + 1 : Nat) : Int)) (aS J J om) om) J <| Um J J <| Wn <| aD <| ⟨⟨j + 1, rows2⟩, ⟨J, J, J, J, J, J, J, J, trivial⟩, (fZ om), ⟨om, hl4, (by have := iV (A := vQ rows2) (M := M) (j := j) om (by rw [hMl]; exact hst) (kU (.inr (by rw [← hej, ← nT]; exact dZ.1 om))).symm; rwa [hMl] at this), om⟩, by show rows.length - (j + 1) < rows.length - j; omega⟩
 refine aA (bH J J) J <| Nk [6,7,8,10,11,15,16,76,77,84,85,86,87,88,89,90,91,92,93] J <| bT J ?_
 have hen2 : ent M j c ≠ 0 := by rw [← hej, ← nT]; exact fun k => h92 (dZ.2 k)
 have hbj : ∀ x, x ∈ (rows2.getD j default).2 → Bd (2 * β + 1) x := by rw [← eO, hj1]; exact hMb.row j
 have hbl : ∀ x, x ∈ (rows2.getD leads.length default).2 → Bd (2 * β + 1) x := by rw [← eO, hj2]; exact hMb.row leads.length
 have hbe := jX om hbj c
 refine cM (z := 22) J kR <| Dm J J <| Dm J J <| Dm J J <| Dm J J <| aC (cB (j := j) J J J J om om J) J <| aC (dV (f := fQ) (us := rows2) (j := j) J J (aL om g0) (fun _ => rfl) J (by decide) om J) J <| Dm J J <| Dm J J <| aC (cB (j := leads.length) J J J J om om J) J <| aC (dV (f := fQ) (us := rows2) (j := leads.length) J J (aL om g0) (fun _ => rfl) J (by decide) om J) J <| Dm J J <| Dm J J <| aC (cB (j := j) J J J J om om J) J <| aC (dV (f := fQ) (us := rows2) (j := j) J J (aL om g0) (fun _ => rfl) J (by decide) om J) J <| Dm J J <| aC (bO J J J J J om J) J <| aC (dF (l := .agg [_, _, _, _, _, _]) J J J) J <| aC (aK J (nrneg_run ((rows2.getD j default).2.getD c default)) (by first | (simp [-bU]; done) | simp)) J <| aC (aK J (qW (rows2.getD leads.length default).1 (rows2.getD leads.length default).2 (-(rows2.getD j default).2.getD c default) om (fun x hx => (hbl x hx).mono om) (hbe.neg.mono om)) (by first | (simp [-bU]; done) | simp)) J <| aC (aK J (qplus_run (rows2.getD j default).1 (kd (rsc (-(rows2.getD j default).2.getD c default) (rows2.getD leads.length default).2).length) (rows2.getD j default).2 (rsc (-(rows2.getD j default).2.getD c default) (rows2.getD leads.length default).2) om (by rw [rsc_len]; omega) (fun x hx => (hbj x hx).mono om) (fun x hx => (rsc_bd hbe.neg hbl x hx).mono om)) (by first | (simp [-bU]; done) | simp)) J <| aC (cB (j := j) J J J J om om J) J <| cA (dS (f := fQ) (us := rows2) (kd (rad (rows2.getD j default).2 (rsc (-(rows2.getD j default).2.getD c default) (rows2.getD leads.length default).2)).length, (rad (rows2.getD j default).2 (rsc (-(rows2.getD j default).2.getD c default) (rows2.getD leads.length default).2))) J J J (aL om g0) (fun _ => rfl) J J om J) <| bD (aP kR) J ?_
 refine aE <| Ck [6,7,8,10,15,16,76,77,84,85,86,87,88,89,90,91,92] J <| aG (z := 2) J <| aA (cI (((j + 1 : Nat) : Int)) (aS J J om) om) J <| Um J J <| Wn <| aD <| ⟨⟨j + 1, rows2.set j (kd (rad (rows2.getD j default).2 (rsc (-(rows2.getD j default).2.getD c default) (rows2.getD leads.length default).2)).length, (rad (rows2.getD j default).2 (rsc (-(rows2.getD j default).2.getD c default) (rows2.getD leads.length default).2)))⟩, ⟨congrArg some (by rw [List.length_set]), rfl, rfl, rfl, rfl, rfl, rfl, rfl, trivial⟩, subsM_mk (fun hu => g1 om (dG hu)) g0, ⟨om, by rw [List.length_set]; exact hl4, by rw [vQ_set]; exact (by have := pP (A := vQ rows2) (M := M) (j := j) (by rw [eX]; omega) om (by rw [hMl]; exact hst) (x := (rad (rows2.getD j default).2 (rsc (-(rows2.getD j default).2.getD c default) (rows2.getD leads.length default).2))) (by rw [rK om hen2, ← hej, ← hj1, ← hj2, eO, eO, ← nT]); rwa [hMl] at this), om⟩, by show rows.length - (j + 1) < rows.length - j; omega⟩
theorem qsolved_runB (al : List Q1) (kb : Nat) (bl : List Rat) (w : Nat) (hne : 0 < al.length) (ln : al.length < 100000) (hw : ∀ r, r ∈ al → r.2.length = w) (hbl : bl.length = al.length) (hw9 : w ≤ 60) (β : Nat) (hβ : β ≤ 268435456) (hgb : GB (wR (vQ al) bl) (w + 1) β) : ∃ r, Run Tryz.prog T E0 (.call 69 [.sl 1 (al.map fQ), .sl kb (bl.map qc), .v (.int .i64 (w : Int))] r) ∧ (if nosol (gjn (wR (vQ al) bl) w) w = true then r = .tup [.v (.int .i64 0), .sl 0 []] else r = .tup [.v (.int .i64 (solk (gjn (wR (vQ al) bl) w) w)), .sl 1 ((solv (gjn (wR (vQ al) bl) w) w (gjn (wR (vQ al) bl) w).2.length).map qc)]) := by
 refine eM Tryz.func69 J J (dH J) ?_
 have J10 : ∀ (rows : List Q1) (S : GS) (hns : nosol S w = false) (hrows : vQ rows = S.1) (gl : S.2.length ≤ rows.length) (hrl : rows.length < 100000) (gc : ∀ x, x ∈ S.2 → x < w) (hwr : ∀ r, r ∈ rows → r.2.length = w + 1) (hSW : S = (gjn (wR (vQ al) bl) w)) (n : Nat) , WC Tryz.prog T E0 Tryz.f69.ntmps (codeR (codeR (codeR (codeR (codeR (codeOf Tryz.f69)))))) [(2, .v (.int .i64 (w : Int))), (11, .sl 1 (rows.map fQ)), (12, .sl (kd S.2.length) (S.2.map d64))] [] n (fun x e h n => ∃ r, (if nosol (gjn (wR (vQ al) bl) w) w = true then r = .tup [.v (.int .i64 0), .sl 0 []] else r = .tup [.v (.int .i64 (solk (gjn (wR (vQ al) bl) w) w)), .sl 1 ((solv (gjn (wR (vQ al) bl) w) w (gjn (wR (vQ al) bl) w).2.length).map qc)]) ∧ Post T Tryz.f69.results.toList r x e h n) := by
  intro rows S hns hrows gl hrl gc hwr hSW n
  refine Rg 3 J ?_
  rw [← hSW]
  refine Um J J <| aY (oMk (a := w) (b := w) J J J J om om (by decide) om (by show 80 * w ≤ _; omega) om) J <| Ua J J <| Wn <| aB <| Rg 3 J <| Um J J <| aA (gQ J J) J <| Um J J <| Wn <| aJ <| aW (α := Nat × Nat × (List (Option Rat))) (fun ⟨i, q2, us⟩ => [(2, .v (.int .i64 (w : Int))), (11, .sl 1 (rows.map fQ)), (12, .sl (kd S.2.length) (S.2.map d64)), (13, .ref q2 6 0 w), (60, .v (.int .i64 (w : Int))), (61, .v (.int .i64 (i : Int)))]) (fun ⟨i, q2, us⟩ => [(q2, { cells := (us.map qo).flatten, sz := 6, elem := 39, st := 0 })]) (fun ⟨i, q2, us⟩ n => i ≤ w ∧ us.length = w ∧ ∀ j, j < i → us.getD j default = some 0) (fun ⟨i, q2, us⟩ => w - i) (0, _, List.replicate w none) ⟨J, J, J, J, J, J, trivial⟩ ⟨g0.trans (by rw [List.map_replicate]; rfl), trivial⟩ ⟨Nat.zero_le _, by simp, by intro j hj; omega⟩ ?_
  rintro ⟨i, q2, us⟩ n hF
  change WC _ _ _ _ _ (_ :: _) (_ :: _) n _
  obtain ⟨hi2, hul, hus⟩ := hF
  refine Rg 1 J <| aA (bP J J) J <| aX (fun h62 => ?_) (fun h62 => ?_)
  ·refine Wn <| aT J <| aF <| aJ <| Rg 2 J <| Um J J <| Ua J J <| Wn <| aG (z := 5) J <| Um J J <| Um J J <| aA (aK J (fW 0 (by unfold I64; omega)) dD) J <| aA (cB J J J J J om J) J <| aZ (dS (f := qo) (us := us) (some 0) J J J g0 qo_len J J om J) <| Wn <| aE <| aG (z := 2) J <| aA (cI (((i + 1 : Nat) : Int)) (aS J J om) om) J <| Um J J <| Wn <| aD <| ⟨⟨i + 1, _, us.set i (some 0)⟩, ⟨J, J, J, J, J, J, trivial⟩, ⟨g0, trivial⟩, ⟨om, by rw [List.length_set]; exact hul, ?_⟩, by show w - (i + 1) < w - i; omega⟩
   intro j hj
   rw [cG om]
   by_cases e : i = j
   ·rw [if_pos e]
   ·rw [if_neg e]; exact hus j om
  refine Wn <| aU J <| aV <| aR <| aO J <| aB <| Rg 3 J <| Um J J <| aA (bA J J) J <| Um J J <| Wn <| aJ <| aW (α := Nat × Nat × (List Rat)) (fun ⟨i, q2, xs⟩ => [(2, .v (.int .i64 (w : Int))), (11, .sl 1 (rows.map fQ)), (12, .sl (kd S.2.length) (S.2.map d64)), (13, .ref q2 6 0 w), (69, .sl (kd S.2.length) (S.2.map d64)), (70, .v (.int .i64 (S.2.length : Int))), (71, .v (.int .i64 (i : Int)))]) (fun ⟨i, q2, xs⟩ => [(q2, { cells := (xs.map qc).flatten, sz := 6, elem := 39, st := 0 })]) (fun ⟨i, q2, xs⟩ n => i ≤ S.2.length ∧ xs.length = w ∧ xs = solv S w i) (fun ⟨i, q2, xs⟩ => S.2.length - i) (0, _, List.replicate w 0) ⟨J, J, J, J, J, J, J, trivial⟩ ⟨g0.trans (congrArg (fun c => some ({ cells := c, sz := 6, elem := 39, st := 0 } : Ob)) (qo_all hul (fun j hj => hus j om))), trivial⟩ ⟨Nat.zero_le _, by simp, rfl⟩ ?_
  rintro ⟨i, q2, xs⟩ n hF
  change WC _ _ _ _ _ (_ :: _) (_ :: _) n _
  obtain ⟨hi4, hxl, hxs⟩ := hF
  refine Rg 1 J <| aA (bP J J) J <| aX (fun h72 => ?_) (fun h72 => ?_)
  ·refine Wn <| aT J <| aF <| aJ <| Rg 5 J <| Um J J <| aA (bO J J J J J om J) J <| aA (dF J J J) J <| Ua J J <| Ua J J <| cL ?_
   have hld := gc _ (bE (us := S.2) (i := i) om)
   have hrl4 : ((rows.getD i default).2).length = w + 1 := hwr _ (bE om)
   have he4 : ent S.1 i w = ((rows.getD i default).2.getD w default) := by rw [← hrows, ent_vQ om]
   refine aG (z := 11) J <| Um J J <| Um J J <| Um J J <| Um J J <| aA (bO J J J J J om J) J <| aA (dF J J J) J <| Um J J <| aA (bO (j := w) J J J J om om J) J <| aA (dF (l := .agg [_, _, _, _, _, _]) J J J) J <| aA (cB J J J J J om J) J <| aZ (dS (f := qc) (us := xs) ((rows.getD i default).2.getD w default) J J J g0 (fun _ => rfl) J J om J) <| Wn <| aE <| Ck [2,11,12,13,69,70,71] J <| aG (z := 2) J <| aA (cI (((i + 1 : Nat) : Int)) (aS J J om) om) J <| Um J J <| Wn <| aD <| ⟨⟨i + 1, _, xs.set (S.2.getD i default) ((rows.getD i default).2.getD w default)⟩, ⟨J, J, J, J, J, J, J, trivial⟩, ⟨g0, trivial⟩, ⟨om, by rw [List.length_set]; exact hxl, ?_⟩, by show S.2.length - (i + 1) < S.2.length - i; omega⟩
   rw [hxs, solv, he4]
  refine Wn <| aU J <| aV <| aR <| aO J <| aB ?_
  have hxs' : xs = solv S w S.2.length := by rw [hxs, show i = S.2.length by omega]
  refine Rg 4 J <| Um J J <| aA (bA J J) J <| Um J J <| aA (bP J J) J <| aX (fun h90 => ?_) (fun h90 => ?_)
  ·refine Wn <| aT J <| aB <| Rg 3 J <| Um J J <| Ua J J <| Ua J J <| Nk [6,7] J <| bB <| ⟨.tup [.v (.int .i64 2), .sl 1 (xs.map qc)], by rw [if_neg (by rw [hns]; decide)]; unfold solk; rw [if_pos om, hxs'], ?_⟩
   exact jW (n := 0) [(q2, { cells := (xs.map qc).flatten, sz := 6, elem := 39, st := 1 })] (.inr J) J (.data (.v _) (.own (ob := { cells := (xs.map qc).flatten, sz := 6, elem := 39, st := 0 }) _ (by rw [List.length_map, hxl]) g0 (by show (0 : Nat) ≠ 2; decide) J (by decide) (List.mem_singleton.2 J) J (bX (n := 6) (fun _ => rfl)) (bN dqc) .nil)) (by intro p hp; rw [List.mem_singleton] at hp; subst hp; exact ⟨_, g0, by show (0 : Nat) ≠ 2; decide, rfl⟩)
  refine Wn <| aU J <| aF <| Rg 3 J <| Um J J <| Ua J J <| Ua J J <| Nk [6,7] J <| aQ <| ⟨.tup [.v (.int .i64 1), .sl 1 (xs.map qc)], by rw [if_neg (by rw [hns]; decide)]; unfold solk; rw [if_neg om, hxs'], ?_⟩
  exact jW (n := 0) [(q2, { cells := (xs.map qc).flatten, sz := 6, elem := 39, st := 1 })] (.inr J) J (.data (.v _) (.own (ob := { cells := (xs.map qc).flatten, sz := 6, elem := 39, st := 0 }) _ (by rw [List.length_map, hxl]) g0 (by show (0 : Nat) ≠ 2; decide) J (by decide) (List.mem_singleton.2 J) J (bX (n := 6) (fun _ => rfl)) (bN dqc) .nil)) (by intro p hp; rw [List.mem_singleton] at hp; subst hp; exact ⟨_, g0, by show (0 : Nat) ≠ 2; decide, rfl⟩)
 refine Rg 2 J <| Ua J J <| Ua J J <| Wn <| Rg 1 J <| Ua J J <| Wn <| aB <| Rg 3 J <| Um J J <| aA (bA J J) J <| Um J J <| Wn <| aJ <| aW (α := Nat × Nat × (List Q1)) (fun ⟨i, q, ds⟩ => [(1, .sl kb (bl.map qc)), (2, .v (.int .i64 (w : Int))), (8, outV q 1 (ds.map fQ)), (17, .sl 1 (al.map fQ)), (18, .v (.int .i64 (al.length : Int))), (19, .v (.int .i64 (i : Int)))]) (fun ⟨i, q, ds⟩ => outH q 1 34 (ds.map fQ) []) (fun ⟨i, q, ds⟩ n => i ≤ al.length ∧ ds = (List.range i).map (wQ al bl) ∧ ds.length = i ∧ q < n) (fun ⟨i, q, ds⟩ => al.length - i) (0, 0, []) ⟨J, J, J, J, J, J, trivial⟩ trivial ⟨Nat.zero_le _, rfl, rfl, om⟩ ?_
 rintro ⟨i, q, ds⟩ n hF
 change WC _ _ _ _ _ (_ :: _) (outH _ _ _ _ _) n _
 obtain ⟨hi, hds, hdl, hq⟩ := hF
 refine Rg 1 J <| aA (bP J J) J <| aX (fun h20 => ?_) (fun h20 => ?_)
 ·refine Wn <| aT J <| aF <| aJ <| Rg 5 J <| Um J J <| aA (bO J J J J J om J) J <| aA (dF J J J) J <| Ua J J <| Ua J J <| cL ?_
  have hm := bE (us := al) (i := i) om
  have hrw := hw _ hm
  refine mG (z := 13) J kR <| Dm J J <| aC (cW (cs := []) (rows := []) J J (by decide) J J J) J <| Dm J J <| WD.apK (te := ti39) (k0 := 2) (rows := (al.getD i default).2.map qc) (.inr J) J J J J J (by decide) (bX (n := 6) (fun _ => rfl)) (by rw [List.length_map, hrw]; show (2 * w + 256) * 80 ≤ _; omega) (by rw [List.length_map, hrw]; omega) J <| Dm J J <| Dm J J <| aC (bO J J J J J om J) J <| aC (dF (l := .agg [_, _, _, _, _, _]) J J J) J <| aC (cW (cs := [_, _, _, _, _, _]) (rows := [[_, _, _, _, _, _]]) J J (by decide) J J J) J <| nV (te := ti39) (k0 := 2) (us := (al.getD i default).2.map qc) (rows := [qc (bl.getD i default)]) (.inr J) J J J J J (by decide) (by intro r hr; rw [List.mem_singleton] at hr; subst hr; rfl) (bX (n := 6) (fun _ => rfl)) (by simp) (by rw [List.length_map, hrw]; show (2 * (w + 1) + 256) * 80 ≤ _; omega) (by rw [List.length_map, hrw]; show w + 1 < _; omega) (aL om J) J <| aC (cW (cs := [_]) (rows := [[_]]) J J (by decide) J J J) J <| hO _ (outH_swap om) <| nV (te := ti34) (k0 := 0) (us := ds.map fQ) (rows := [[_]]) (.inl J) J J J (by rw [gX]; rfl) J (by decide) (by intro r hr; rw [List.mem_singleton] at hr; subst hr; rfl) (bX (n := 1) (fun _ => rfl)) (by simp) (by rw [List.length_map]; show (2 * (ds.length + 1) + 256) * 24 ≤ _; omega) (by rw [List.length_map]; show ds.length + 1 < _; omega) (g1 om J) J <| aC (gP J) J <| bD (eU (rn n) (by simp only [List.reverse_cons, List.reverse_nil, List.nil_append, List.cons_append, List.map_cons, List.map_nil, ren, Nat.add_assoc, lZ, oZ hq]; kernel_rfl)) J <| Fz.rows (d := 8) ds (wQ al bl i) (ys := ((al.getD i default).2 ++ [bl.getD i default]).map qc) [(1, _), (2, _), (17, _), (18, _), (19, _)] ⟨J, J, J, J, J, trivial⟩ J (by simp) J om (by simp) (by decide) (by simp) (bX (n := 6) (fun _ => rfl)) (bN dqc) <| aE <| aG (z := 2) J <| aA (cI (((i + 1 : Nat) : Int)) (aS J J om) om) J <| Um J J <| Wn <| aD ?_
  refine ⟨⟨i + 1, _, ds ++ [wQ al bl i]⟩, ⟨J, J, J, J, J, J, trivial⟩, cN, ⟨om, by rw [List.range_succ, List.map_append, hds]; rfl, by simp; omega, om⟩, by show al.length - (i + 1) < al.length - i; omega⟩
 refine Wn <| aU J <| aV <| aR <| aO J ?_
 obtain ⟨d0, dt, rfl⟩ : ∃ d0 dt, ds = d0 :: dt := by
  cases ds with
  | nil => simp at hdl; omega
  | cons d dt => exact ⟨d, dt, rfl⟩
 obtain rfl : i = al.length := by omega
 have hvw : vQ (d0 :: dt) = (wR (vQ al) bl) := by rw [hds]; exact vQ_w al bl
 have hwid : Wid (w + 1) (wR (vQ al) bl) := wR_wid (fun r hr => by obtain ⟨s, hs, rfl⟩ := List.mem_map.1 hr; exact hw s hs)
 obtain ⟨r, hr, rows, rfl, hrows⟩ := qreduced_runB (d0 :: dt) (w + 1) (w + 1) (by simp) om (by rw [hvw]; exact hwid) om om β hβ (by rw [hvw]; exact hgb)
 rw [hvw] at hr hrows
 obtain ⟨_, gw, gl1, _⟩ := hgb.all hwid (Nat.le_refl _) (w + 1) (Nat.le_refl _)
 rw [kC] at gl1
 have gl1 : (gjn (wR (vQ al) bl) (w + 1)).2.length ≤ al.length := by simpa [vQ] using gl1
 obtain ⟨_, _, gl, gc⟩ := hgb.all hwid (Nat.le_refl _) w om
 have hrl : rows.length = al.length := by
  have := congrArg List.length hrows
  rw [cX, kC] at this; simpa [vQ] using this
 rw [kC] at gl
 have gl : (gjn (wR (vQ al) bl) w).2.length ≤ rows.length := by simpa [vQ, hrl] using gl
 have hmore := gjn_more (R := (wR (vQ al) bl)) (w := w)
 have hmore' := gjn_more' (R := (wR (vQ al) bl)) (w := w)
 have hwr := wid_vQ gw hrows
 generalize gjn (wR (vQ al) bl) (w + 1) = S1 at *
 generalize gjn (wR (vQ al) bl) w = S at *
 refine Rg 9 J <| Um J J <| Um J J <| aA (cI (((w + 1 : Nat) : Int)) (aS J J om) om) J <| aY (jK [.sl 1 ((d0 :: dt).map fQ), .v (.int .i64 ((w + 1 : Nat) : Int))] [(q, { cells := ((d0 :: dt).map fQ).flatten, sz := 1, elem := 34, st := 1 })] J hr (.own (ob := { cells := ((d0 :: dt).map fQ).flatten, sz := 1, elem := 34, st := 0 }) ((d0 :: dt).map fQ) (by simp) g0 (by show (0 : Nat) ≠ 2; decide) J (by decide) (by simp [keys]) J (bX (n := 1) (fun _ => rfl)) (bN dfQ) (.data (.v _) .nil)) (by intro p hp; rw [List.mem_singleton] at hp; subst hp; exact ⟨_, g0, by show (0 : Nat) ≠ 2; decide, rfl⟩)) J <| Um J J <| aA (dN J J) J <| aA (dN J J) J <| Ua J J <| Ua J J <| Nk [2,11,12] J <| aB <| Rg 13 J <| Um J J <| aA (bA J J) J <| aA (dU J J) J <| aX (fun h46 => ?_) (fun h46 => ?_)
 rotate_left
 ·refine Um J J <| K1 J J <| K1 J J <| K1 J J <| K1 J J <| K1 J J <| K1 J J <| K1 J J <| K1 J J <| aA (bL J J) J <| Nk [2,11,12,56] J <| aU J <| aF <| Ck [2,11,12] J ?_
  have hns : nosol S w = false := Bool.eq_false_iff.2 fun h => by
   have := congrArg List.length (hmore' h)
   simp at this; omega
  obtain rfl := hmore hns
  refine eK [] trivial ?_
  exact J10 rows _ hns hrows gl om gc hwr J _
 refine Um J J <| aI J (eG J) J <| aI J (eG J) J <| aI J (bA J J) J <| aI J (cI (((S1.2.length - 1 : Nat) : Int)) (bY J J om) om) J <| aI J (bO (j := S1.2.length - 1) J J J J J om J) J <| aI J (dF J J J) J <| aI J (eG J) J <| aI J (eI J J) J <| aX (fun h55 => ?_) (fun h55 => ?_)
 rotate_left
 ·refine aA (bH J J) J <| Nk [2,11,12,56] J <| aU J <| aF <| Ck [2,11,12] J ?_
  have hns : nosol S w = false := Bool.eq_false_iff.2 fun h => h55 (by rw [hmore' h]; simp [List.getD_eq_getElem?_getD])
  obtain rfl := hmore hns
  refine eK [] trivial ?_
  exact J10 rows _ hns hrows gl om gc hwr J _
 refine aA (bH J J) J <| Nk [2,11,12,56] J <| aT J <| aB <| Rg 2 J <| Ua J J <| Ua J J <| Wn <| bB ?_
 have hns : nosol S w = true := by
  cases h : nosol S w with
  | true => rfl
  | false =>
   have h1 := hmore h
   subst h1
   have := gc _ (bE (us := S1.2) (i := S1.2.length - 1) om)
   omega
 exact ⟨.tup [.v (.int .i64 0), .sl 0 []], by rw [if_pos hns], post (n := 0) (.inr J) J J dD⟩
end Go.Proofs.YtahljdjhhapngaaGreat
namespace Go.Proofs.YtahljdjhhapngaaGreat
open Go.Ab Go.RowKit
theorem mean_run (c : CH) (kv : Nat) (vx : List X) (n0 : Nat) (hc : VB n0 c.2.2) (hl : vx.length = n0) (β : Nat) (h1β : 1 ≤ β) (hβ : β ≤ 2147483648) (hv : ∀ x, x ∈ vx → Bd β x.1) : Run Tryz.prog T E0 (.call 113 [lvC c, .sl kv (vx.map xc)] (lvX (xmean c.2.2 vx c.2.2.length))) := by
 have hcl := hc.len
 refine bF Tryz.func113 J J (dH J) <| Rg 2 J <| aY (dK J J) J <| aY (dQ J) J <| Wn <| Rg 1 J <| aY (dQ J) J <| Wn <| aB <| Rg 4 J <| aA (bC J J J J J) J <| aA (aM J J gG J J) J ?_
 refine aA (bA J J) J <| Um J J <| Wn <| aJ <| aW (α := Nat) (fun i => [(1, .sl kv (vx.map xc)), (4, .ptr (0 + 1) 0), (5, .ptr (0 + 2) 0), (9, .sl c.2.1 (c.2.2.map brc)), (10, .v (.int .i64 (c.2.2.length : Int))), (11, .v (.int .i64 (i : Int)))]) (fun i => [((0 + 2), { cells := xc ((xmean c.2.2 vx i)), sz := 4, elem := (102), st := 0 }), ((0 + 1), { cells := xc (x0), sz := 4, elem := (102), st := 0 })]) (fun i n => i ≤ c.2.2.length ∧ 4 ≤ n) (fun i => c.2.2.length - i) (0) ⟨J, J, J, J, J, J, trivial⟩ ⟨gG, gG, trivial⟩ ⟨Nat.zero_le _, om⟩ ?_
 rintro i n hF
 change WC _ _ _ _ _ (_ :: _) (_ :: _) n _
 obtain ⟨hi, hn⟩ := hF
 refine Rg 1 J <| aA (bP J J) J <| aX (fun h12 => ?_) (fun h12 => ?_)
 rotate_left
 ·refine Wn <| aU J <| aV <| aR <| aO J <| Rg 2 J <| aA (aM (l := lvX (xmean c.2.2 vx i)) J J gG J J) J ?_
  refine aZ (cE (cs' := xc (xmean c.2.2 vx i)) J J J gG J J J J) ?_
  refine Wn <| aQ ?_
  have hin : i = c.2.2.length := by omega
  rw [← hin]
  refine post (n := 0) (.inr J) J ?_ dD
  rfl
 refine Wn <| aT J <| aF <| aJ ?_
 have hto := hc.to i om
 have hvn := hc.vn i om
 have hi3 := hvn.all3
 have hm1 := mF hc h1β hv i hi
 have hm2 : i * (β + 3) ≤ 8 * (β + 3) := Nat.mul_le_mul_right _ om
 have hg := mI h1β hv (c.2.2.getD i default).1.toNat
 refine Rg 4 J <| aA (bO J J J J J om J) J <| aA (dF (l := .agg (brc (c.2.2.getD i default))) J J J) J <| aY (dQ J) J <| aZ (cE (cs' := brc (c.2.2.getD i default)) J J J g0 J J J J) <| Wn <| cM (z := 12) J kR <| aC (aM (l := lvX (xmean c.2.2 vx i)) J J gG J J) J ?_
 refine aC (bC J J J J J) J <| aC (aM (l := lvM (c.2.2.getD i default).2) J J gG J J) J ?_
 refine aC (bM (b := lvX (nx (c.2.2.getD i default).2)) (aK J (iJ (c.2.2.getD i default).2 hi3.1 hi3.2.1 hi3.2.2) dD) J) J <| Dm J J <| aC (bC J J J J J) J <| aC (aM J J gG J J) J ?_
 refine aC (bO (j := (c.2.2.getD i default).1.toNat) J J J J om om J) J <| aC (dF (l := lvX (vx.getD (c.2.2.getD i default).1.toNat default)) J J J) J <| aC (aK J (jN (nx (c.2.2.getD i default).2) (vx.getD (c.2.2.getD i default).1.toNat default) (hvn.bd.mono om) (hg.mono om)) dD) J <| aC (bM (b := lvX (xmean c.2.2 vx (i + 1))) (aK J (jM (xmean c.2.2 vx i) (xmul (nx (c.2.2.getD i default).2) (vx.getD (c.2.2.getD i default).1.toNat default)) (hm1.mono om) ((hvn.bd.mul hg).mono om)) dD) J) J <| cA (cE (cs' := xc (xmean c.2.2 vx (i + 1))) J J J gG J J J J) ?_
 refine bD (aP kR) J <| aE <| Ck [1,4,5,9,10,11] J <| aG (z := 2) J <| aA (cI (((i + 1 : Nat) : Int)) (aS J J om) om) J <| Um J J <| Wn <| aD <| ⟨i + 1, ⟨J, J, J, J, J, J, trivial⟩, ⟨gG, gG, trivial⟩, ⟨om, om⟩, by show c.2.2.length - (i + 1) < c.2.2.length - i; omega⟩
theorem qL (c : CH) (d : X) (kv : Nat) (vx : List X) (n0 : Nat) (hr : VN c.1) (hc : VB n0 c.2.2) (hd : Bd 2 d.1) (hl : vx.length = n0) (β : Nat) (h1β : 1 ≤ β) (hβ : β ≤ 2147483648) (hv : ∀ x, x ∈ vx → Bd β x.1) : Run Tryz.prog T E0 (.call 80 [lvC c, lvX d, .sl kv (vx.map xc)] (lvX (xyl c d vx))) := by
 have hcl := hc.len
 have hi3 := hr.all3
 have hm1 := mF hc h1β hv c.2.2.length (Nat.le_refl _)
 have hm2 : c.2.2.length * (β + 3) ≤ 8 * (β + 3) := Nat.mul_le_mul_right _ om
 refine bF Tryz.func80 J J (dH J) <| Rg 3 J <| aY (dK J J) J <| aY (dK J J) J <| aY (dQ J) J <| Wn <| bG (z := 10) J kR <| aC (bC J J J J J) J <| aC (aM (l := lvM c.1) J J gG J J) J ?_
 refine aC (bM (b := lvX (nx c.1)) (aK J (iJ c.1 hi3.1 hi3.2.1 hi3.2.2) dD) J) J <| aC (aM (l := lvX d) J J gG J J) J ?_
 refine aC (aM (l := lvC c) J J gG J J) J ?_
 refine Dm J J <| aC (aK J (mean_run c kv vx n0 hc hl β h1β hβ hv) (bR (by intro c hc; simp only [List.mem_cons, List.not_mem_nil, or_false] at hc; rcases hc with rfl | rfl; exact lQ; exact (.sl _ _ fun row hr => bN dxc row hr)))) J <| aC (aK J (jN d (xmean c.2.2 vx c.2.2.length) (hd.mono om) (hm1.mono om)) dD) J <| aC (bM (b := lvX (xyl c d vx)) (aK J (jM (nx c.1) (xmul d (xmean c.2.2 vx c.2.2.length)) (hr.bd.mono om) ((hd.mul hm1).mono om)) dD) J) J <| cA (cE (cs' := xc (xyl c d vx)) J J J gG J J J J) ?_
 refine bD (aP kR) J <| Ck [6] J <| aQ <| post (n := 0) (.inr J) J ?_ dD
 rfl
theorem wants1_run (a b : X) (ha : Bd 34359738368 a.1) (hb : Bd 34359738368 b.1) : Run Tryz.prog T E0 (.call 122 [lvX a, lvX b] (.v (.int .i64 (b.1 - a.1).num.sign))) := by
 refine bF Tryz.func122 J J (dH J) <| Rg 3 J <| aY (dK J J) J <| aY (dK J J) J <| Ua J J <| Wn <| Rg 4 J <| aA (aM (l := lvX b) J J gG J J) J ?_
 refine aA (aM (l := lvX a) J J gG J J) J ?_
 refine aA (aK J (rcmp_run b a hb ha) dD) J <| Ua J J <| Wn <| aQ <| post (n := 0) (.inr J) J ?_ dD
 rfl
theorem wants_run (pl : Int) : Run Tryz.prog T E0 (.call 98 [.v (.int .i64 pl)] (.fn (.func (if pl = 1 then 122 else 76)) [] [])) := by
 refine bF Tryz.func98 J J (dH J) <| Rg 1 J <| Ua J J <| Wn <| Rg 1 J <| Um J J <| Wn <| cJ <| Rg 2 J <| aA (eI J J) J <| aX (fun h5 => ?_) (fun h5 => ?_)
 ·refine Ua J J <| Wn <| bT J <| Rg 1 J <| Ua J J <| Wn <| aQ <| eF ?_
  rw [if_pos (show pl = 1 by omega)]
  refine post (n := 0) (.inr J) J ?_ dD
  rfl
 refine Ua J J <| Wn <| bV J <| Rg 1 J <| Ua J J <| Wn <| aQ <| eF ?_
 rw [if_neg (show ¬ pl = 1 by omega)]
 refine post (n := 0) (.inr J) J ?_ dD
 rfl
theorem cmpf_run (pl : Int) (a b : X) (ha : Bd 34359738368 a.1) (hb : Bd 34359738368 b.1) : Run Tryz.prog T E0 (.call (if pl = 1 then 122 else 76) [lvX a, lvX b] (.v (.int .i64 (sgnF pl a.1 b.1)))) := by
 unfold sgnF
 by_cases h : pl = 1
 ·rw [if_pos h, if_pos h]; exact wants1_run a b ha hb
 ·rw [if_neg h, if_neg h]; exact rcmp_run a b ha hb
end Go.Proofs.YtahljdjhhapngaaGreat
namespace Go.Proofs.YtahljdjhhapngaaGreat
open Go.Ab Go.RowKit
theorem lT (n0 : Nat) (H : Hp) (k kv : Nat) (ss : List Go.Ab.ST) (d : X) (vx : List X) (st : List Int) (pl : Int) (qs : Nat) (hnd : subsM H H) (hlt : ∀ q o, getH H q = some o → q < n0) (hq : getH H qs = some { cells := ((st).map ic).flatten, sz := 1, elem := (3), st := 0 }) (hV : VMo ss = true) (hd : Bd 2 d.1) (hl : vx.length = ss.length) (hst : st.length = ss.length) (β : Nat) (h1β : 1 ≤ β) (hβ : β ≤ 2147483648) (hv : ∀ x, x ∈ vx → Bd β x.1) : WC Tryz.prog T E0 Tryz.f97.ntmps (codeOf Tryz.f97) (argsEnv 0 [lvMo k ss, lvX d, .sl kv (vx.map xc), .ref qs 1 0 ss.length, .v (.int .i64 pl)]) H n0 (fun x e' h' n' => (x = .normal ∨ x = .ret) ∧ n0 ≤ n' ∧ ((resE e' T h' Tryz.f97.results.toList = some [.v (.bool false)] ∧ NoImp ss d.1 pl (vl vx) ∧ ∀ q o, getH H q = some o → getH h' q = some o) ∨ ∃ i j, resE e' T h' Tryz.f97.results.toList = some [.v (.bool true)] ∧ i < ss.length ∧ (ss.getD i default).1.1 = pl ∧ j < (ss.getD i default).2.2.length ∧ btr pl (yl d.1 (ch ss i j) (vl vx)) (vl vx i) ∧ getH h' qs = some { cells := ((st.set i (j : Int)).map ic).flatten, sz := 1, elem := (3), st := 0 } ∧ ∀ q o, q ≠ qs → getH H q = some o → getH h' q = some o)) := by
 have hV1 := jF hV
 have hn40 := hV1.wt.len
 have hql := hlt qs _ hq
 change WC _ _ _ _ _ [(0, lvMo k ss), (1, lvX d), (2, .sl kv (vx.map xc)), (3, .ref qs 1 0 ss.length), (4, .v (.int .i64 pl))] _ _ _
 refine Rg 3 J <| aY (dK J J) J <| aY (dK J J) J <| Ua J J <| Wn <| Rg 3 J <| Um J J <| aA (aK J (wants_run pl) (bR (by intro c hc; simp only [List.mem_cons, List.not_mem_nil, or_false] at hc; rcases hc with rfl; exact .v _))) J <| Ua J J <| Wn <| aB <| Rg 4 J <| aA (bC J J J J J) J <| aA (aM J J gG J J) J ?_
 refine aA (bA J J) J <| Um J J <| Nk [2,3,4,6,11,19,20,21] J <| aJ <| aW (α := Nat) (fun i => [(2, .sl kv (vx.map xc)), (3, .ref qs 1 0 ss.length), (4, .v (.int .i64 pl)), (6, .ptr (n0 + 1) 0), (11, .fn (.func (if pl = 1 then 122 else 76)) [] []), (19, .sl k (ss.map stc)), (20, .v (.int .i64 (ss.length : Int))), (21, .v (.int .i64 (i : Int)))]) (fun i => (n0 + 1, { cells := xc (d), sz := 4, elem := (102), st := 0 }) :: H) (fun i n => i ≤ ss.length ∧ (∀ a, a < i → (ss.getD a default).1.1 = pl → ∀ b, b < (ss.getD a default).2.2.length → ¬ btr pl (yl d.1 (ch ss a b) (vl vx)) (vl vx a)) ∧ n0 + 3 ≤ n) (fun i => ss.length - i) (0) ⟨J, J, J, J, J, J, J, J, trivial⟩ ⟨gG, cV hnd (by intro q o hq'; have := hlt q o hq'; repeat (first | exact hq' | refine g1 om ?_))⟩ ⟨Nat.zero_le _, fun a ha => absurd ha om, om⟩ ?_
 rintro i n hF
 change WC _ _ _ _ _ [(2, .sl kv (vx.map xc)), (3, .ref qs 1 0 ss.length), (4, .v (.int .i64 pl)), (6, .ptr (n0 + 1) 0), (11, .fn (.func (if pl = 1 then 122 else 76)) [] []), (19, .sl k (ss.map stc)), (20, .v (.int .i64 (ss.length : Int))), (21, .v (.int .i64 (i : Int)))] ((n0 + 1, { cells := xc (d), sz := 4, elem := (102), st := 0 }) :: H) n _
 obtain ⟨hi, hA, hn⟩ := hF
 refine Rg 1 J <| aA (bP J J) J <| aX (fun h22 => ?_) (fun h22 => ?_)
 rotate_left
 ·refine Wn <| aU J <| aV <| aR <| aO J <| Rg 1 J <| Ua J J <| Wn <| aQ <| ⟨.inr J, om, .inl ⟨rfl, fun a ha ho b hb => hA a om ho b hb, (by intro q o hq'; have := hlt q o hq'; repeat (first | exact hq' | refine g1 om ?_))⟩⟩
 refine Wn <| aT J <| aF <| aJ ?_
 have hm := bE (us := ss) (i := i) om
 have hcl := hV1.cs _ hm
 refine Rg 6 J <| Um J J <| aA (bO J J J J J om J) J <| aA (dF (l := .agg (stc (ss.getD i default))) J J J) J <| aY (dQ J) J <| Ua J J <| aZ (cE (cs' := stc (ss.getD i default)) J J J g0 J J J J) <| Wn <| aB <| Rg 4 J <| aA (bC J J J J J) J <| aA (aM J J gG J J) J ?_
 refine Um J J <| aA (fP J J) J <| aX (fun h29 => ?_) (fun h29 => ?_)
 ·refine Nk [2,3,4,6,11,12,13,19,20,21,29] J <| aT J <| aV <| aO J <| aG (z := 2) J <| aA (cI (((i + 1 : Nat) : Int)) (aS J J om) om) J <| Um J J <| Wn <| aD <| ⟨i + 1, ⟨J, J, J, J, J, J, J, J, trivial⟩, ⟨gG, cV hnd (by intro q o hq'; have := hlt q o hq'; repeat (first | exact hq' | refine g1 om ?_))⟩, ⟨om, fun a ha ho => ?_, om⟩, by show ss.length - (i + 1) < ss.length - i; omega⟩
  by_cases e : a = i
  ·subst e; exact absurd ho om
  ·exact hA a om ho
 refine Nk [2,3,4,6,11,12,13,19,20,21,29] J <| aU J <| aF <| Rg 4 J <| aA (bC J J J J J) J <| aA (aM J J gG J J) J ?_
 refine aA (bA J J) J <| Um J J <| Nk [2,3,4,6,11,12,19,20,21,31,32,33] J <| cJ <| aW (α := Nat) (fun j => [(2, .sl kv (vx.map xc)), (3, .ref qs 1 0 ss.length), (4, .v (.int .i64 pl)), (6, .ptr (n0 + 1) 0), (11, .fn (.func (if pl = 1 then 122 else 76)) [] []), (12, .v (.int .i64 (i : Int))), (19, .sl k (ss.map stc)), (20, .v (.int .i64 (ss.length : Int))), (21, .v (.int .i64 (i : Int))), (31, .sl (ss.getD i default).2.1 ((ss.getD i default).2.2.map chc)), (32, .v (.int .i64 ((ss.getD i default).2.2.length : Int))), (33, .v (.int .i64 (j : Int)))]) (fun j => (n0 + 1, { cells := xc (d), sz := 4, elem := (102), st := 0 }) :: H) (fun j n => j ≤ (ss.getD i default).2.2.length ∧ (∀ b, b < j → ¬ btr pl (yl d.1 (ch ss i b) (vl vx)) (vl vx i)) ∧ n0 + 3 ≤ n) (fun j => (ss.getD i default).2.2.length - j) (0) ⟨J, J, J, J, J, J, J, J, J, J, J, J, trivial⟩ ⟨gG, cV hnd (by intro q o hq'; have := hlt q o hq'; repeat (first | exact hq' | refine g1 om ?_))⟩ ⟨Nat.zero_le _, fun a ha => absurd ha om, om⟩ ?_
 rintro j n hF
 change WC _ _ _ _ _ [(2, .sl kv (vx.map xc)), (3, .ref qs 1 0 ss.length), (4, .v (.int .i64 pl)), (6, .ptr (n0 + 1) 0), (11, .fn (.func (if pl = 1 then 122 else 76)) [] []), (12, .v (.int .i64 (i : Int))), (19, .sl k (ss.map stc)), (20, .v (.int .i64 (ss.length : Int))), (21, .v (.int .i64 (i : Int))), (31, .sl (ss.getD i default).2.1 ((ss.getD i default).2.2.map chc)), (32, .v (.int .i64 ((ss.getD i default).2.2.length : Int))), (33, .v (.int .i64 (j : Int)))] ((n0 + 1, { cells := xc (d), sz := 4, elem := (102), st := 0 }) :: H) n _
 obtain ⟨hj, hB, hn2⟩ := hF
 refine Rg 1 J <| aA (bP J J) J <| aX (fun h34 => ?_) (fun h34 => ?_)
 rotate_left
 ·refine Wn <| aU J <| aV <| aR <| gB J <| aE <| aG (z := 2) J <| aA (cI (((i + 1 : Nat) : Int)) (aS J J om) om) J <| Um J J <| Wn <| aD <| ⟨i + 1, ⟨J, J, J, J, J, J, J, J, trivial⟩, ⟨gG, cV hnd (by intro q o hq'; have := hlt q o hq'; repeat (first | exact hq' | refine g1 om ?_))⟩, ⟨om, fun a ha ho b hb => ?_, om⟩, by show ss.length - (i + 1) < ss.length - i; omega⟩
  by_cases e : a = i
  ·subst e; exact hB b om
  ·exact hA a om ho b hb
 refine Wn <| aT J <| aF <| aJ ?_
 have hmc := bE (us := (ss.getD i default).2.2) (i := j) om
 obtain ⟨hrw, hvb⟩ := kN hV hm hmc
 have hyb := xyl_bd hrw hvb hd h1β hv
 have hgb := mI h1β hv i
 refine Rg 6 J <| Um J J <| aA (bO J J J J J om J) J <| aA (dF (l := lvC ((ss.getD i default).2.2.getD j default)) J J J) J <| aY (dQ J) J <| Ua J J <| aZ (cE (cs' := chc ((ss.getD i default).2.2.getD j default)) J J J g0 J J J J) <| Nk [2,3,4,6,11,12,14,15,19,20,21,31,32,33] J <| bG (z := 11) J kR <| Dm J J <| aC (aM (l := lvC ((ss.getD i default).2.2.getD j default)) J J g0 J J) J <| aC (aM (l := lvX d) J J gG J J) J ?_
 refine Dm J J <| aC (aK J (qL ((ss.getD i default).2.2.getD j default) d kv vx ss.length hrw hvb hd hl β h1β hβ hv) (bR (by intro c hc; simp only [List.mem_cons, List.not_mem_nil, or_false] at hc; rcases hc with rfl | rfl | rfl; exact lQ; exact lQ; exact (.sl _ _ fun row hr => bN dxc row hr)))) J <| Dm J J <| Dm J J <| aC (bO (j := i) J J J J om om J) J <| aC (dF (l := lvX (vx.getD i default)) J J J) J <| aC (oCallVD J J (cmpf_run pl (xyl ((ss.getD i default).2.2.getD j default) d vx) (vx.getD i default) (hyb.mono om) (hgb.mono om)) (data3 d0 (by intro c hc; simp only [List.mem_cons, List.not_mem_nil, or_false] at hc; rcases hc with rfl | rfl; exact lQ; exact lQ) d0)) J <| aC (dU J J) J <| kO (fun h48 => ?_) (fun h48 => ?_)
 rotate_left
 ·refine bD (aP kR) J <| Ck [2,3,4,6,11,12,14,19,20,21,31,32,33,48] J <| bV J <| cC <| aE <| aG (z := 2) J <| aA (cI (((j + 1 : Nat) : Int)) (aS J J om) om) J <| Um J J <| Wn <| aD <| ⟨j + 1, ⟨J, J, J, J, J, J, J, J, J, J, J, J, trivial⟩, ⟨gG, cV hnd (by intro q o hq'; have := hlt q o hq'; repeat (first | exact hq' | refine g1 om ?_))⟩, ⟨om, fun b hb => ?_, om⟩, by show (ss.getD i default).2.2.length - (j + 1) < (ss.getD i default).2.2.length - j; omega⟩
  by_cases e : b = j
  ·subst e; exact fun hb2 => h48 (pB.2 (by rw [xyl_v, mE]; exact hb2))
  ·exact hB b om
 refine bD (aP kR) J <| Ck [2,3,4,6,11,12,14,19,20,21,31,32,33,48] J <| bT J <| Rg 5 J <| Um J J <| Um J J <| Um J J <| aA (cB (j := i) J J J J om om J) J <| aZ (dS (f := ic) (us := st) (j : Int) J J J (by have := hlt qs _ hq; repeat (first | exact hq | refine g1 om ?_)) (fun _ => rfl) J J om J) ?_
 refine Nk [] J <| Rg 1 J <| Ua J J <| Wn <| aQ <| aN <| bJ <| eF <| aN <| bJ <| aN <| ⟨.inr J, om, .inr ⟨i, j, rfl, om, om, om, by have := pB.1 h48; rwa [xyl_v, mE] at this, g0, fun q o hne hq' => ?_⟩⟩
 have := hlt q o hq'
 repeat (first | exact hq' | refine g1 om ?_)
end Go.Proofs.YtahljdjhhapngaaGreat
namespace Go.Proofs.YtahljdjhhapngaaGreat
open Go.Ab Go.RowKit
theorem worth_share (n0 : Nat) (H : Hp) (k : Nat) (ss : List Go.Ab.ST) (d : X) (st : List Int) (qs : Nat) (hnd : subsM H H) (hlt : ∀ q o, getH H q = some o → q < n0) (hq : getH H qs = some { cells := ((st).map ic).flatten, sz := 1, elem := (3), st := 0 }) (hV : VMo ss = true) (hd : Bd 2 d.1) (hd0 : 0 < d.1) (hd1 : d.1 < 1) (hst : vSt ss st = true) : WC Tryz.prog T E0 Tryz.f71.ntmps (codeOf Tryz.f71) (argsEnv 0 [lvMo k ss, lvX d, .ref qs 1 0 ss.length]) H n0 (fun x e' h' n' => (x = .normal ∨ x = .ret) ∧ n0 ≤ n' ∧ ∃ xs : List X, resE e' T h' Tryz.f71.results.toList = some [.sl 1 (xs.map xc)] ∧ xs.length = ss.length ∧ WV ss d.1 st (vl xs) ∧ (∀ x, x ∈ xs → Bd 268435456 x.1) ∧ ∀ q o, getH H q = some o → getH h' q = some o) := by
 have hV1 := jF hV
 have hn40 := hV1.wt.len
 have hpos := hV1.pos
 have hsl := fU hst
 have hD := jZ hV hd0 hd1
 have hql := hlt qs _ hq
 have hfr : ∀ q, n0 ≤ q → getH H q = none := fun q hq => by
  cases h : getH H q with
  | none => rfl
  | some o => have := hlt q o h; omega
 change WC _ _ _ _ _ [(0, lvMo k ss), (1, lvX d), (2, .ref qs 1 0 ss.length)] _ _ _
 refine Rg 3 J <| aY (dK J J) J <| aY (dK J J) J <| Ua J J <| Wn <| Rg 4 J <| aA (bC J J J J J) J <| aA (aM J J gG J J) J ?_
 refine aA (bA J J) J <| Ua J J <| Wn <| Rg 1 J <| Ua J J <| Wn <| Rg 1 J <| Ua J J <| Wn <| aB <| Rg 4 J <| aA (bC J J J J J) J <| aA (aM J J gG J J) J ?_
 refine aA (bA J J) J <| Um J J <| Nk [2,4,7,8,9,22,23,24] J <| aJ <| aW (α := Nat × Nat × Nat × (List X1) × (List X)) (fun ⟨i, qa, qb, al, bl⟩ => [(2, .ref qs 1 0 ss.length), (4, .ptr (n0 + 1) 0), (7, .v (.int .i64 (ss.length : Int))), (8, outV qa 1 (al.map fX)), (9, outV qb 4 (bl.map xc)), (22, .sl k (ss.map stc)), (23, .v (.int .i64 (ss.length : Int))), (24, .v (.int .i64 (i : Int)))]) (fun ⟨i, qa, qb, al, bl⟩ => outH qa 1 104 (al.map fX) (outH qb 4 102 (bl.map xc) ((n0 + 1, { cells := xc (d), sz := 4, elem := (102), st := 0 }) :: H))) (fun ⟨i, qa, qb, al, bl⟩ n => i ≤ ss.length ∧ al.length = i ∧ bl.length = i ∧ (∀ a, a < i → RowOk ss.length d.1 (ch ss a (st.getD a default).toNat).2.2 a ((al.getD a default).2.map (·.1)) ∧ (al.getD a default).1 = kd (al.getD a default).2.length ∧ (bl.getD a default).1 = nq (ch ss a (st.getD a default).toNat).1) ∧ (∀ r, r ∈ al → ∀ x, x ∈ r.2 → Bd 8 x.1) ∧ (∀ x, x ∈ bl → Bd 8 x.1) ∧ n0 + 1 < qa ∧ n0 + 1 < qb ∧ qa ≠ qb ∧ qa < n ∧ qb < n ∧ n0 + 6 ≤ n) (fun ⟨i, qa, qb, al, bl⟩ => ss.length - i) (0, n0 + 2, n0 + 3, [], []) ⟨J, J, J, J, J, J, J, J, trivial⟩ ⟨gG, cV hnd (by intro q o hq'; have := hlt q o hq'; repeat (first | exact hq' | refine g1 om ?_))⟩ ⟨Nat.zero_le _, rfl, rfl, fun a ha => absurd ha om, by simp, by simp, om, om, om, om, om, om⟩ ?_
 rintro ⟨i, qa, qb, al, bl⟩ n hF
 change WC _ _ _ _ _ (_ :: _) (outH _ _ _ _ _) n _
 obtain ⟨hi, hal, hbl, hrows, hba, hbb, hqa, hqb, hqab, hqa3, hqb3, hn⟩ := hF
 obtain ⟨nK, hnK⟩ : ∃ z, z = n := ⟨n, rfl⟩
 subst hnK
 refine Rg 1 J <| aA (bP J J) J <| aX (fun h25 => ?_) (fun h25 => ?_)
 rotate_left
 ·refine Wn <| aU J <| aV <| aR <| aO J ?_
  obtain ⟨a0, at', rfl⟩ : ∃ a t, al = a :: t := by
   cases al with
   | nil => simp at hal; omega
   | cons a t => exact ⟨a, t, rfl⟩
  obtain ⟨b0, bt, rfl⟩ : ∃ a t, bl = a :: t := by
   cases bl with
   | nil => simp at hbl; omega
   | cons a t => exact ⟨a, t, rfl⟩
  obtain rfl : i = ss.length := by omega
  obtain ⟨hg1, _, hns, hsvl, hwv, hsb⟩ := qK hD hn40 hst (A := vX (a0 :: at')) (b := (b0 :: bt).map (·.1)) (by rw [dE]; exact hal) (by rw [List.length_map]; exact hbl) (fun a ha => by rw [dJ]; exact (hrows a ha).1) (fun a ha => by show fn_ ((b0 :: bt).map (·.1)) a = _; exact (mE (b0 :: bt) a).symm.trans (hrows a ha).2.2) (fun r hr x hx => by obtain ⟨y, hy, rfl⟩ := List.mem_map.1 hr; obtain ⟨z, hz, rfl⟩ := List.mem_map.1 hx; exact hba y hy z hz) (fun x hx => by obtain ⟨y, hy, rfl⟩ := List.mem_map.1 hx; exact hbb y hy)
  have hrow2 : ∀ r, r ∈ a0 :: at' → r.2.length = ss.length ∧ r.1 = kd r.2.length := fun r hr => by
   obtain ⟨a, ha, rfl⟩ := List.getElem_of_mem hr
   have h1 := hrows a om
   rw [show (a0 :: at').getD a default = (a0 :: at')[a] by rw [List.getD_eq_getElem?_getD, List.getElem?_eq_getElem ha]; rfl] at h1
   have h2 := h1.1.1
   rw [List.length_map] at h2
   exact ⟨h2, h1.2.1⟩
  obtain ⟨r, hr, hphi⟩ := oP (a0 :: at') 1 (b0 :: bt) ss.length (by simp) om (fun r hr => (hrow2 r hr).1) (fun r hr => (hrow2 r hr).2) om om 268435456 (Nat.le_refl _) hg1
  rw [if_neg (by rw [hns]; decide)] at hphi
  obtain ⟨xs, rfl, hxs⟩ := hphi
  have hxl : xs.length = ss.length := by have := congrArg List.length hxs; rw [hsvl, List.length_map] at this; exact this
  refine Rg 9 J <| Um J J <| Um J J <| Um J J <| aY (jK [.sl 1 ((a0 :: at').map fX), .sl 1 ((b0 :: bt).map xc), .v (.int .i64 (ss.length : Int))] [(qa, { cells := ((a0 :: at').map fX).flatten, sz := 1, elem := 104, st := 1 }), (qb, { cells := ((b0 :: bt).map xc).flatten, sz := 4, elem := 102, st := 1 })] J hr (.own (ob := { cells := ((a0 :: at').map fX).flatten, sz := 1, elem := 104, st := 0 }) ((a0 :: at').map fX) (by simp) g0 (by show (0 : Nat) ≠ 2; decide) J (by decide) (by simp [keys]) J (bX (f := fX) (n := 1) (fun _ => rfl)) (bN dfX) (.own (ob := { cells := ((b0 :: bt).map xc).flatten, sz := 4, elem := 102, st := 0 }) ((b0 :: bt).map xc) (by simp) (g1 om g0) (by show (0 : Nat) ≠ 2; decide) J (by decide) (by simp [keys]) J (bX (f := xc) (n := 4) (fun _ => rfl)) (bN dxc) (.data (.v _) .nil))) (by intro p hp; simp only [List.mem_cons, List.not_mem_nil, or_false] at hp; rcases hp with rfl | rfl; exact ⟨_, g0, (by show (0 : Nat) ≠ 2; decide), rfl⟩; exact ⟨_, g1 om g0, (by show (0 : Nat) ≠ 2; decide), rfl⟩)) J <| Um J J <| aA (dN J J) J <| aA (dN J J) J <| Ua J J <| Ua J J <| Nk [17] J <| Rg 2 J <| Um J J <| Ua J J <| Wn <| aQ <| ⟨.inr J, om, xs, rfl, hxl, by unfold vl; rw [hxs]; exact hwv, fun x hx => hsb _ (by rw [← hxs]; exact List.mem_map.2 ⟨x, hx, rfl⟩), (by intro q o hq'; have := hlt q o hq'; repeat (first | exact hq' | refine g1 om ?_))⟩
 refine Wn <| aT J <| aF <| aJ ?_
 have hm := bE (us := ss) (i := i) om
 obtain ⟨hs0, hs1⟩ := kB hst (i := i) om
 have hmc := bE (us := (ss.getD i default).2.2) (i := (st.getD i default).toNat) om
 obtain ⟨hrw, hvb⟩ : VN (ch ss i (st.getD i default).toNat).1 ∧ VB ss.length (ch ss i (st.getD i default).toNat).2.2 := kN hV hm hmc
 have hr3 := hrw.all3
 have hcl := hV1.cs _ hm
 have hqsn : qs < nK := by omega
 refine Rg 6 J <| Um J J <| aA (bO J J J J J om J) J <| aA (dF (l := .agg (stc (ss.getD i default))) J J J) J <| aY (dQ J) J <| Ua J J <| aZ (cE (cs' := stc (ss.getD i default)) J J J g0 J J J J) <| Wn <| bG (z := 10) J kR <| aC (bC J J J J J) J <| aC (aM J J gG J J) J ?_
 refine Dm J J <| Dm J J <| aC (cB (j := i) J J J J om om J) J <| aC (dV (f := ic) (us := st) (j := i) J J (by have := hlt qs _ hq; repeat (first | exact hq | refine g1 om ?_ | refine aL om ?_)) (fun _ => rfl) J (by decide) om J) J ?_
 refine aC (bO (j := (st.getD i default).toNat) J J J J om om J) J <| aC (dF (l := lvC (ch ss i (st.getD i default).toNat)) J J J) J <| WD.S (dQ J) J <| cA (cE (cs' := chc (ch ss i (st.getD i default).toNat)) J J J g0 J J J J) <| bD (eU (rn nK) (by simp only [List.reverse_cons, List.reverse_nil, List.nil_append, List.cons_append, List.map_cons, List.map_nil, ren, keys, Nat.add_assoc, lZ, oZ hqsn]; kernel_rfl)) J <| Ck [2,4,7,8,9,10,12,22,23,24] J <| Rg 3 J <| Um J J <| aY (oMk (a := ss.length) (b := ss.length) J J J J om om (by decide) om (by show 64 * ss.length ≤ _; omega) om) J <| Ua J J <| Wn <| aB <| Rg 4 J <| aA (bC J J J J J) J <| aA (aM J J gG J J) J ?_
 refine aA (bA J J) J <| Um J J <| Nk [2,4,7,8,9,10,12,13,22,23,24,40,41,42] J <| aJ <| aW (α := Nat × (List X)) (fun ⟨j, row⟩ => [(2, .ref qs 1 0 ss.length), (4, .ptr (n0 + 1) 0), (7, .v (.int .i64 (ss.length : Int))), (8, outV qa 1 (al.map fX)), (9, outV qb 4 (bl.map xc)), (10, .v (.int .i64 (i : Int))), (12, .ptr (nK + 1 + 6 + 8) 0), (13, .ref (nK + 1 + 6 + 10 + 1) 4 0 ss.length), (22, .sl k (ss.map stc)), (23, .v (.int .i64 (ss.length : Int))), (24, .v (.int .i64 (i : Int))), (40, .sl (ch ss i (st.getD i default).toNat).2.1 ((ch ss i (st.getD i default).toNat).2.2.map brc)), (41, .v (.int .i64 ((ch ss i (st.getD i default).toNat).2.2.length : Int))), (42, .v (.int .i64 (j : Int)))]) (fun ⟨j, row⟩ => ((nK + 1 + 6 + 10 + 1), { cells := (row.map xc).flatten, sz := 4, elem := (102), st := 0 }) :: ((nK + 1 + 6 + 8), { cells := chc (ch ss i (st.getD i default).toNat), sz := 3, elem := (57), st := 0 }) :: outH qa 1 104 (al.map fX) (outH qb 4 102 (bl.map xc) ((n0 + 1, { cells := xc (d), sz := 4, elem := (102), st := 0 }) :: H))) (fun ⟨j, row⟩ n => j ≤ (ch ss i (st.getD i default).toNat).2.2.length ∧ RowP ss.length d.1 (ch ss i (st.getD i default).toNat).2.2 j (row.map (·.1)) ∧ nK + 24 ≤ n) (fun ⟨j, row⟩ => (ch ss i (st.getD i default).toNat).2.2.length - j) (0, List.replicate ss.length x0) ⟨J, J, J, J, J, J, J, J, J, J, J, J, J, J, trivial⟩ ⟨g0.trans (by rw [List.map_replicate]; rfl), gG, bS (fun hne => by rw [cY hne]; repeat (first | exact g0 | refine g1 om ?_ | refine aL om ?_)) (bS (fun hne => by rw [cY hne]; repeat (first | exact g0 | refine g1 om ?_ | refine aL om ?_)) ⟨(by repeat (first | exact g0 | refine g1 om ?_ | refine aL om ?_)), cV hnd (by intro q o hq'; have := hlt q o hq'; repeat (first | exact hq' | refine g1 om ?_ | refine aL om ?_))⟩)⟩ ⟨Nat.zero_le _, by rw [List.map_replicate]; exact RowP.init _ _ _, om⟩ ?_
 rintro ⟨j, row⟩ n hF
 change WC _ _ _ _ _ [(2, .ref qs 1 0 ss.length), (4, .ptr (n0 + 1) 0), (7, .v (.int .i64 (ss.length : Int))), (8, outV qa 1 (al.map fX)), (9, outV qb 4 (bl.map xc)), (10, .v (.int .i64 (i : Int))), (12, .ptr (nK + 1 + 6 + 8) 0), (13, .ref (nK + 1 + 6 + 10 + 1) 4 0 ss.length), (22, .sl k (ss.map stc)), (23, .v (.int .i64 (ss.length : Int))), (24, .v (.int .i64 (i : Int))), (40, .sl (ch ss i (st.getD i default).toNat).2.1 ((ch ss i (st.getD i default).toNat).2.2.map brc)), (41, .v (.int .i64 ((ch ss i (st.getD i default).toNat).2.2.length : Int))), (42, .v (.int .i64 (j : Int)))] (((nK + 1 + 6 + 10 + 1), { cells := (row.map xc).flatten, sz := 4, elem := (102), st := 0 }) :: ((nK + 1 + 6 + 8), { cells := chc (ch ss i (st.getD i default).toNat), sz := 3, elem := (57), st := 0 }) :: outH qa 1 104 (al.map fX) (outH qb 4 102 (bl.map xc) ((n0 + 1, { cells := xc (d), sz := 4, elem := (102), st := 0 }) :: H))) n _
 obtain ⟨hj, hR, hn2⟩ := hF
 have hrl : row.length = ss.length := by have := hR.1; rwa [List.length_map] at this
 refine Rg 1 J <| aA (bP J J) J <| aX (fun h43 => ?_) (fun h43 => ?_)
 ·refine Nk [2,4,7,8,9,10,12,13,22,23,24,40,41,42,43] J <| aT J <| aF <| aJ ?_
  have hto := hvb.to j om
  have hvn := hvb.vn j om
  have hi3 := hvn.all3
  have hbl8 := hvb.len
  refine Rg 4 J <| aA (bO J J J J J om J) J <| aA (dF (l := .agg (brc ((ch ss i (st.getD i default).toNat).2.2.getD j default))) J J J) J <| aY (dQ J) J <| aZ (cE (cs' := brc ((ch ss i (st.getD i default).toNat).2.2.getD j default)) J J J g0 J J J J) <| Nk [2,4,7,8,9,10,12,13,15,22,23,24,40,41,42] J <| cM (z := 11) J kR <| Dm J J <| aC (bC J J J J J) J <| aC (aM J J gG J J) J ?_
  refine aC (aM (l := lvX d) J J (by repeat (first | exact g0 | refine g1 om ?_ | refine aL om ?_)) J J) J ?_
  refine aC (bC J J J J J) J <| aC (aM (l := lvM ((ch ss i (st.getD i default).toNat).2.2.getD j default).2) J J gG J J) J ?_
  refine aC (bM (b := lvX (nx ((ch ss i (st.getD i default).toNat).2.2.getD j default).2)) (aK J (iJ ((ch ss i (st.getD i default).toNat).2.2.getD j default).2 hi3.1 hi3.2.1 hi3.2.2) dD) J) J <| aC (aK J (jN d (nx ((ch ss i (st.getD i default).toNat).2.2.getD j default).2) (hd.mono om) (hvn.bd.mono om)) dD) J <| aC (aK J (kI (xmul d (nx ((ch ss i (st.getD i default).toNat).2.2.getD j default).2))) dD) J <| aC (cB (j := ((ch ss i (st.getD i default).toNat).2.2.getD j default).1.toNat) J J J J om om J) J <| cA (dS (f := xc) (us := row) (xneg (xmul d (nx ((ch ss i (st.getD i default).toNat).2.2.getD j default).2))) J J J gG (fun _ => rfl) J J om J) ?_
  refine bD (aP kR) J <| aE <| Ck [2,4,7,8,9,10,12,13,22,23,24,40,41,42] J <| aG (z := 2) J <| aA (cI (((j + 1 : Nat) : Int)) (aS J J om) om) J <| Um J J <| Wn <| aD <| ⟨⟨j + 1, row.set ((ch ss i (st.getD i default).toNat).2.2.getD j default).1.toNat (xneg (xmul d (nx ((ch ss i (st.getD i default).toNat).2.2.getD j default).2)))⟩, ⟨J, J, J, J, J, J, J, J, J, J, J, J, J, J, trivial⟩, ⟨gG, gG, bS (fun hne => by rw [cY hne]; repeat (first | exact g0 | refine g1 om ?_ | refine aL om ?_)) (bS (fun hne => by rw [cY hne]; repeat (first | exact g0 | refine g1 om ?_ | refine aL om ?_)) ⟨(by repeat (first | exact g0 | refine g1 om ?_ | refine aL om ?_)), cV hnd (by intro q o hq'; have := hlt q o hq'; repeat (first | exact hq' | refine g1 om ?_ | refine aL om ?_))⟩)⟩, ⟨om, by rw [List.map_set]; exact hR.step hvb om hd, om⟩, by show (ch ss i (st.getD i default).toNat).2.2.length - (j + 1) < (ch ss i (st.getD i default).toNat).2.2.length - j; omega⟩
 refine Nk [2,4,7,8,9,10,12,13,22,23,24,40,41,42,43] J <| aU J <| aV <| aR <| aO J <| Ck [2,4,7,8,9,10,12,13,22,23,24] J ?_
 have hjn : j = (ch ss i (st.getD i default).toNat).2.2.length := by have := hvb.len; omega
 subst hjn
 have hgi : Bd 4 (row.getD i default).1 := mI (by decide) (fun x hx => hR.2.2.2 _ (List.mem_map.2 ⟨x, hx, rfl⟩)) i
 have hrowok := hR.done (i := i) om
 rw [show (row.map (·.1)).set i ((row.map (·.1)).getD i default + 1) = (row.set i (xadd (row.getD i default) (xint 1))).map (·.1) by rw [List.map_set]; congr 1; show _ = (row.getD i default).1 + 1; rw [mE]; rfl] at hrowok
 have hov : outV (nK + 1 + 6 + 10 + 1) 4 ((row.set i (xadd (row.getD i default) (xint 1))).map xc) = .ref (nK + 1 + 6 + 10 + 1) 4 0 ss.length := by
  rw [oV (fun h => by have := congrArg List.length h; rw [List.length_map, List.length_set, List.length_nil] at this; omega), List.length_map, List.length_set, hrl]
 have hqa2 : qa < n := by omega
 have hqb2 : qb < n := by omega
 have h12 : nK + (1 + (6 + 8)) < n := by omega
 have h12b : nK + (1 + (6 + 8)) ≠ qb := by omega
 have h12a : nK + (1 + (6 + 8)) ≠ qa := by omega
 have hqba : qb ≠ qa := by omega
 refine bG (z := 10) J kR <| Dm J J <| Dm J J <| Dm J J <| Dm J J <| aC (cB (j := i) J J J J om om J) J <| aC (dV (f := xc) (us := row) (j := i) (l := lvX (row.getD i default)) J J gG (fun _ => rfl) J (by decide) om J) J ?_
 refine aC (aK J (jD 1 (by unfold I64; omega)) dD) J <| aC (aK J (jM (row.getD i default) (xint 1) (hgi.mono om) (Bd1.mono om)) dD) J <| aC (cB (j := i) J J J J om om J) J <| cA (dS (f := xc) (us := row) (xadd (row.getD i default) (xint 1)) J J J gG (fun _ => rfl) J J om J) ?_
 refine bD (aP kR) J <| Ck [2,4,7,8,9,12,13,22,23,24] J <| mG (z := 12) J kR <| Dm J J <| Dm J J <| aC (cW (cs := [_]) (rows := [[_]]) J J (by decide) J J J) J <| hO _ (subsM.get (bS (q := qa) (sz := 1) (el := 104) (us := al.map fX) (h := ((nK + 1 + 6 + 10 + 1), { cells := ((row.set i (xadd (row.getD i default) (xint 1))).map xc).flatten, sz := 4, elem := (102), st := 0 }) :: ((nK + 1 + 6 + 8), { cells := chc (ch ss i (st.getD i default).toNat), sz := 3, elem := (57), st := 0 }) :: outH qb 4 102 (bl.map xc) ((n0 + 1, { cells := xc (d), sz := 4, elem := (102), st := 0 }) :: H)) (fun hne => by rw [cY hne]; repeat (first | exact g0 | refine g1 om ?_ | refine aL om ?_)) ⟨(by repeat (first | exact g0 | refine g1 om ?_ | refine aL om ?_)), (by repeat (first | exact g0 | refine g1 om ?_ | refine aL om ?_)), bS (fun hne => by rw [cY hne]; repeat (first | exact g0 | refine g1 om ?_ | refine aL om ?_)) ⟨(by repeat (first | exact g0 | refine g1 om ?_ | refine aL om ?_)), cV hnd (by intro q o hq'; have := hlt q o hq'; repeat (first | exact hq' | refine g1 om ?_ | refine aL om ?_))⟩⟩)) ?_
 refine nV (te := ti104) (k0 := 0) (us := al.map fX) (rows := [[_]]) (.inl J) J J J (by rw [gX]; rfl) J (by decide) (by intro r hr; rw [List.mem_singleton] at hr; subst hr; rfl) (bX (f := fX) (n := 1) fun _ => rfl) (by simp) (by rw [List.length_map]; show (2 * (al.length + 1) + 256) * 24 ≤ _; omega) (by rw [List.length_map]; show al.length + 1 < _; omega) (gN om (gN om (cU om (gN om (hfr qa om))))) J <| Dm J J <| aC (bC J J J J J) J <| aC (aM (l := lvM (ch ss i (st.getD i default).toNat).1) J J (by repeat (first | exact g0 | refine g1 om ?_ | refine aL om ?_)) J J) J ?_
 refine aC (bM (b := lvX (nx (ch ss i (st.getD i default).toNat).1)) (aK J (iJ (ch ss i (st.getD i default).toNat).1 hr3.1 hr3.2.1 hr3.2.2) dD) J) J <| aC (cW (cs := [_, _, _, _]) (rows := [[_, _, _, _]]) J J (by decide) J J J) J <| hO _ (subsM.get (bS (q := qb) (sz := 4) (el := 102) (us := bl.map xc) (h := ((n + 1 + 10 + 3), { cells := (al.map fX).flatten ++ [[LV.ref (nK + 1 + 6 + 10 + 1) 4 0 ss.length]].flatten, sz := 1, elem := 104, st := 0 }) :: ((nK + 1 + 6 + 10 + 1), { cells := ((row.set i (xadd (row.getD i default) (xint 1))).map xc).flatten, sz := 4, elem := (102), st := 0 }) :: (n0 + 1, { cells := xc (d), sz := 4, elem := (102), st := 0 }) :: H) (fun hne => by rw [cY hne]; repeat (first | exact g0 | refine g1 om ?_ | refine aL om ?_)) ⟨(by repeat (first | exact g0 | refine g1 om ?_ | refine aL om ?_)), (by repeat (first | exact g0 | refine g1 om ?_ | refine aL om ?_)), (by repeat (first | exact g0 | refine g1 om ?_ | refine aL om ?_)), cV hnd (by intro q o hq'; have := hlt q o hq'; repeat (first | exact hq' | refine g1 om ?_ | refine aL om ?_))⟩)) ?_
 refine nV (te := ti102) (k0 := 0) (us := bl.map xc) (rows := [xc (nx (ch ss i (st.getD i default).toNat).1)]) (.inl J) J J J (by rw [gX]; rfl) J (by decide) (by intro r hr; rw [List.mem_singleton] at hr; subst hr; rfl) (bX (f := xc) (n := 4) fun _ => rfl) (by simp) (by rw [List.length_map]; show (2 * (bl.length + 1) + 256) * 64 ≤ _; omega) (by rw [List.length_map]; show bl.length + 1 < _; omega) (gN om (gN om (gN om (hfr qb om)))) J <| aC (gP J) J <| aC (gP J) J <| bD (eU (rq2 qa qb n) (by simp only [List.reverse_cons, List.reverse_nil, List.nil_append, List.cons_append, List.map_cons, List.map_nil, ren, keys, Nat.add_assoc, rq2_a, rq2_b hqba, rq2_lt h12 h12a h12b, rq2_add hqa2 hqb2]; kernel_rfl)) J <| Fz.weakH (outH (nK + 1 + 6 + 10 + 1) 4 (102) ((row.set i (xadd (row.getD i default) (xint 1))).map xc) (((n + 1 + 10 + 3), { cells := (al.map fX).flatten ++ [outV (nK + 1 + 6 + 10 + 1) 4 ((row.set i (xadd (row.getD i default) (xint 1))).map xc)], sz := 1, elem := 104, st := 0 }) :: ((n + 1 + 10 + 9), { cells := (bl.map xc).flatten ++ [xc (nx (ch ss i (st.getD i default).toNat).1)].flatten, sz := 4, elem := 102, st := 0 }) :: (n0 + 1, { cells := xc (d), sz := 4, elem := (102), st := 0 }) :: H)) (subsM.get (bS (fun _ => (by repeat (first | exact g0 | refine g1 om ?_ | refine aL om ?_))) ⟨by rw [hov]; exact (by repeat (first | exact g0 | refine g1 om ?_ | refine aL om ?_)), (by repeat (first | exact g0 | refine g1 om ?_ | refine aL om ?_)), (by repeat (first | exact g0 | refine g1 om ?_ | refine aL om ?_)), cV hnd (by intro q o hq'; have := hlt q o hq'; repeat (first | exact hq' | refine g1 om ?_ | refine aL om ?_))⟩)) ?_
 refine Fz.cellR [(2, _), (4, _), (7, _), (8, _), (9, _), (22, _), (23, _), (24, _)] ⟨J, J, J, J, J, J, J, J, trivial⟩ om (by decide) (bX (f := xc) (n := 4) fun _ => rfl) (bN dxc) (gN om (gN om (hfr _ om))) ?_
 rw [iR]
 refine aE <| aG (z := 2) J <| aA (cI (((i + 1 : Nat) : Int)) (aS J J om) om) J <| Um J J <| Wn <| aD <| ⟨⟨i + 1, (n + 1 + 10 + 3), (n + 1 + 10 + 9), al ++ [(kd (row.set i (xadd (row.getD i default) (xint 1))).length, (row.set i (xadd (row.getD i default) (xint 1))))], bl ++ [nx (ch ss i (st.getD i default).toNat).1]⟩, ⟨rfl, rfl, rfl, congrArg some (by rw [List.map_append]; exact outV_snoc.symm), congrArg some (by rw [List.map_append]; exact outV_snoc.symm), rfl, rfl, rfl, trivial⟩, by dsimp only; rw [List.map_append, List.map_append]; simp only [List.map_cons, List.map_nil]; rw [iZ, iZ]; exact ⟨gG, gG, gG, cV hnd (by intro q o hq'; have := hlt q o hq'; repeat (first | exact hq' | refine g1 om ?_))⟩, ⟨om, by rw [List.length_append]; show al.length + 1 = _; omega, by rw [List.length_append]; show bl.length + 1 = _; omega, fun a ha => ?_, fun r hr => ?_, fun x hx => ?_, om, om, om, om, om, om⟩, by show ss.length - (i + 1) < ss.length - i; omega⟩
 ·by_cases e : a = i
  ·subst e
   rw [show (al ++ [(kd (row.set a (xadd (row.getD a default) (xint 1))).length, (row.set a (xadd (row.getD a default) (xint 1))))]).getD a default = (kd (row.set a (xadd (row.getD a default) (xint 1))).length, (row.set a (xadd (row.getD a default) (xint 1)))) by rw [← hal]; simp [List.getD_eq_getElem?_getD], show (bl ++ [nx (ch ss a (st.getD a default).toNat).1]).getD a default = nx (ch ss a (st.getD a default).toNat).1 by rw [← hbl]; simp [List.getD_eq_getElem?_getD]]
   exact ⟨hrowok.1, rfl, rfl⟩
  ·rw [show (al ++ [(kd (row.set i (xadd (row.getD i default) (xint 1))).length, (row.set i (xadd (row.getD i default) (xint 1))))]).getD a default = al.getD a default by simp only [List.getD_eq_getElem?_getD]; rw [List.getElem?_append_left om], show (bl ++ [nx (ch ss i (st.getD i default).toNat).1]).getD a default = bl.getD a default by simp only [List.getD_eq_getElem?_getD]; rw [List.getElem?_append_left om]]
   exact hrows a om
 ·rcases List.mem_append.1 hr with h | h
  ·exact hba r h
  ·rw [List.mem_singleton] at h; subst h
   exact fun x hx => hrowok.2 _ (List.mem_map.2 ⟨x, hx, rfl⟩)
 ·rcases List.mem_append.1 hx with h | h
  ·exact hbb x h
  ·rw [List.mem_singleton] at h; subst h
   exact hrw.bd.mono (by decide)
theorem worth_wc (n0 : Nat) (H : Hp) (k ks : Nat) (ss : List Go.Ab.ST) (d : X) (st : List Int) (hnd : subsM H H) (hlt : ∀ q o, getH H q = some o → q < n0) (hV : VMo ss = true) (hd : Bd 2 d.1) (hd0 : 0 < d.1) (hd1 : d.1 < 1) (hst : vSt ss st = true) : WC Tryz.prog T E0 Tryz.f71.ntmps (codeOf Tryz.f71) (argsEnv 0 [lvMo k ss, lvX d, .sl ks (st.map ic)]) H n0 (fun x e' h' n' => (x = .normal ∨ x = .ret) ∧ n0 ≤ n' ∧ ∃ xs : List X, resE e' T h' Tryz.f71.results.toList = some [.sl 1 (xs.map xc)] ∧ xs.length = ss.length ∧ WV ss d.1 st (vl xs) ∧ (∀ x, x ∈ xs → Bd 268435456 x.1) ∧ ∀ q o, getH H q = some o → getH h' q = some o) := by
 have hV1 := jF hV
 have hn40 := hV1.wt.len
 have hpos := hV1.pos
 have hsl := fU hst
 have hD := jZ hV hd0 hd1
 have hfr : ∀ q, n0 ≤ q → getH H q = none := fun q hq => by
  cases h : getH H q with
  | none => rfl
  | some o => have := hlt q o h; omega
 change WC _ _ _ _ _ [(0, lvMo k ss), (1, lvX d), (2, .sl ks (st.map ic))] _ _ _
 refine Rg 3 J <| aY (dK J J) J <| aY (dK J J) J <| Ua J J <| Wn <| Rg 4 J <| aA (bC J J J J J) J <| aA (aM J J gG J J) J ?_
 refine aA (bA J J) J <| Ua J J <| Wn <| Rg 1 J <| Ua J J <| Wn <| Rg 1 J <| Ua J J <| Wn <| aB <| Rg 4 J <| aA (bC J J J J J) J <| aA (aM J J gG J J) J ?_
 refine aA (bA J J) J <| Um J J <| Nk [2,4,7,8,9,22,23,24] J <| aJ <| aW (α := Nat × Nat × Nat × (List X1) × (List X)) (fun ⟨i, qa, qb, al, bl⟩ => [(2, .sl ks (st.map ic)), (4, .ptr (n0 + 1) 0), (7, .v (.int .i64 (ss.length : Int))), (8, outV qa 1 (al.map fX)), (9, outV qb 4 (bl.map xc)), (22, .sl k (ss.map stc)), (23, .v (.int .i64 (ss.length : Int))), (24, .v (.int .i64 (i : Int)))]) (fun ⟨i, qa, qb, al, bl⟩ => outH qa 1 104 (al.map fX) (outH qb 4 102 (bl.map xc) ((n0 + 1, { cells := xc (d), sz := 4, elem := (102), st := 0 }) :: H))) (fun ⟨i, qa, qb, al, bl⟩ n => i ≤ ss.length ∧ al.length = i ∧ bl.length = i ∧ (∀ a, a < i → RowOk ss.length d.1 (ch ss a (st.getD a default).toNat).2.2 a ((al.getD a default).2.map (·.1)) ∧ (al.getD a default).1 = kd (al.getD a default).2.length ∧ (bl.getD a default).1 = nq (ch ss a (st.getD a default).toNat).1) ∧ (∀ r, r ∈ al → ∀ x, x ∈ r.2 → Bd 8 x.1) ∧ (∀ x, x ∈ bl → Bd 8 x.1) ∧ n0 + 1 < qa ∧ n0 + 1 < qb ∧ qa ≠ qb ∧ qa < n ∧ qb < n ∧ n0 + 6 ≤ n) (fun ⟨i, qa, qb, al, bl⟩ => ss.length - i) (0, n0 + 2, n0 + 3, [], []) ⟨J, J, J, J, J, J, J, J, trivial⟩ ⟨gG, cV hnd (by intro q o hq'; have := hlt q o hq'; repeat (first | exact hq' | refine g1 om ?_))⟩ ⟨Nat.zero_le _, rfl, rfl, fun a ha => absurd ha om, by simp, by simp, om, om, om, om, om, om⟩ ?_
 rintro ⟨i, qa, qb, al, bl⟩ n hF
 change WC _ _ _ _ _ (_ :: _) (outH _ _ _ _ _) n _
 obtain ⟨hi, hal, hbl, hrows, hba, hbb, hqa, hqb, hqab, hqa3, hqb3, hn⟩ := hF
 obtain ⟨nK, hnK⟩ : ∃ z, z = n := ⟨n, rfl⟩
 subst hnK
 refine Rg 1 J <| aA (bP J J) J <| aX (fun h25 => ?_) (fun h25 => ?_)
 rotate_left
 ·refine Wn <| aU J <| aV <| aR <| aO J ?_
  obtain ⟨a0, at', rfl⟩ : ∃ a t, al = a :: t := by
   cases al with
   | nil => simp at hal; omega
   | cons a t => exact ⟨a, t, rfl⟩
  obtain ⟨b0, bt, rfl⟩ : ∃ a t, bl = a :: t := by
   cases bl with
   | nil => simp at hbl; omega
   | cons a t => exact ⟨a, t, rfl⟩
  obtain rfl : i = ss.length := by omega
  obtain ⟨hg1, _, hns, hsvl, hwv, hsb⟩ := qK hD hn40 hst (A := vX (a0 :: at')) (b := (b0 :: bt).map (·.1)) (by rw [dE]; exact hal) (by rw [List.length_map]; exact hbl) (fun a ha => by rw [dJ]; exact (hrows a ha).1) (fun a ha => by show fn_ ((b0 :: bt).map (·.1)) a = _; exact (mE (b0 :: bt) a).symm.trans (hrows a ha).2.2) (fun r hr x hx => by obtain ⟨y, hy, rfl⟩ := List.mem_map.1 hr; obtain ⟨z, hz, rfl⟩ := List.mem_map.1 hx; exact hba y hy z hz) (fun x hx => by obtain ⟨y, hy, rfl⟩ := List.mem_map.1 hx; exact hbb y hy)
  have hrow2 : ∀ r, r ∈ a0 :: at' → r.2.length = ss.length ∧ r.1 = kd r.2.length := fun r hr => by
   obtain ⟨a, ha, rfl⟩ := List.getElem_of_mem hr
   have h1 := hrows a om
   rw [show (a0 :: at').getD a default = (a0 :: at')[a] by rw [List.getD_eq_getElem?_getD, List.getElem?_eq_getElem ha]; rfl] at h1
   have h2 := h1.1.1
   rw [List.length_map] at h2
   exact ⟨h2, h1.2.1⟩
  obtain ⟨r, hr, hphi⟩ := oP (a0 :: at') 1 (b0 :: bt) ss.length (by simp) om (fun r hr => (hrow2 r hr).1) (fun r hr => (hrow2 r hr).2) om om 268435456 (Nat.le_refl _) hg1
  rw [if_neg (by rw [hns]; decide)] at hphi
  obtain ⟨xs, rfl, hxs⟩ := hphi
  have hxl : xs.length = ss.length := by have := congrArg List.length hxs; rw [hsvl, List.length_map] at this; exact this
  refine Rg 9 J <| Um J J <| Um J J <| Um J J <| aY (jK [.sl 1 ((a0 :: at').map fX), .sl 1 ((b0 :: bt).map xc), .v (.int .i64 (ss.length : Int))] [(qa, { cells := ((a0 :: at').map fX).flatten, sz := 1, elem := 104, st := 1 }), (qb, { cells := ((b0 :: bt).map xc).flatten, sz := 4, elem := 102, st := 1 })] J hr (.own (ob := { cells := ((a0 :: at').map fX).flatten, sz := 1, elem := 104, st := 0 }) ((a0 :: at').map fX) (by simp) g0 (by show (0 : Nat) ≠ 2; decide) J (by decide) (by simp [keys]) J (bX (f := fX) (n := 1) (fun _ => rfl)) (bN dfX) (.own (ob := { cells := ((b0 :: bt).map xc).flatten, sz := 4, elem := 102, st := 0 }) ((b0 :: bt).map xc) (by simp) (g1 om g0) (by show (0 : Nat) ≠ 2; decide) J (by decide) (by simp [keys]) J (bX (f := xc) (n := 4) (fun _ => rfl)) (bN dxc) (.data (.v _) .nil))) (by intro p hp; simp only [List.mem_cons, List.not_mem_nil, or_false] at hp; rcases hp with rfl | rfl; exact ⟨_, g0, (by show (0 : Nat) ≠ 2; decide), rfl⟩; exact ⟨_, g1 om g0, (by show (0 : Nat) ≠ 2; decide), rfl⟩)) J <| Um J J <| aA (dN J J) J <| aA (dN J J) J <| Ua J J <| Ua J J <| Nk [17] J <| Rg 2 J <| Um J J <| Ua J J <| Wn <| aQ <| ⟨.inr J, om, xs, rfl, hxl, by unfold vl; rw [hxs]; exact hwv, fun x hx => hsb _ (by rw [← hxs]; exact List.mem_map.2 ⟨x, hx, rfl⟩), (by intro q o hq'; have := hlt q o hq'; repeat (first | exact hq' | refine g1 om ?_))⟩
 refine Wn <| aT J <| aF <| aJ ?_
 have hm := bE (us := ss) (i := i) om
 obtain ⟨hs0, hs1⟩ := kB hst (i := i) om
 have hmc := bE (us := (ss.getD i default).2.2) (i := (st.getD i default).toNat) om
 obtain ⟨hrw, hvb⟩ : VN (ch ss i (st.getD i default).toNat).1 ∧ VB ss.length (ch ss i (st.getD i default).toNat).2.2 := kN hV hm hmc
 have hr3 := hrw.all3
 have hcl := hV1.cs _ hm
 refine Rg 6 J <| Um J J <| aA (bO J J J J J om J) J <| aA (dF (l := .agg (stc (ss.getD i default))) J J J) J <| aY (dQ J) J <| Ua J J <| aZ (cE (cs' := stc (ss.getD i default)) J J J g0 J J J J) <| Wn <| bG (z := 10) J kR <| aC (bC J J J J J) J <| aC (aM J J gG J J) J ?_
 refine Dm J J <| Dm J J <| aC (bO (j := i) J J J J om om J) J <| aC (dF J J J) J <| aC (bO (j := (st.getD i default).toNat) J J J J om om J) J <| aC (dF (l := lvC (ch ss i (st.getD i default).toNat)) J J J) J <| WD.S (dQ J) J <| cA (cE (cs' := chc (ch ss i (st.getD i default).toNat)) J J J g0 J J J J) <| bD (eU (rn nK) (by simp only [List.reverse_cons, List.reverse_nil, List.nil_append, List.cons_append, List.map_cons, List.map_nil, ren, keys, Nat.add_assoc, lZ]; kernel_rfl)) J <| Ck [2,4,7,8,9,10,12,22,23,24] J <| Rg 3 J <| Um J J <| aY (oMk (a := ss.length) (b := ss.length) J J J J om om (by decide) om (by show 64 * ss.length ≤ _; omega) om) J <| Ua J J <| Wn <| aB <| Rg 4 J <| aA (bC J J J J J) J <| aA (aM J J gG J J) J ?_
 refine aA (bA J J) J <| Um J J <| Nk [2,4,7,8,9,10,12,13,22,23,24,40,41,42] J <| aJ <| aW (α := Nat × (List X)) (fun ⟨j, row⟩ => [(2, .sl ks (st.map ic)), (4, .ptr (n0 + 1) 0), (7, .v (.int .i64 (ss.length : Int))), (8, outV qa 1 (al.map fX)), (9, outV qb 4 (bl.map xc)), (10, .v (.int .i64 (i : Int))), (12, .ptr (nK + 1 + 6 + 8) 0), (13, .ref (nK + 1 + 6 + 10 + 1) 4 0 ss.length), (22, .sl k (ss.map stc)), (23, .v (.int .i64 (ss.length : Int))), (24, .v (.int .i64 (i : Int))), (40, .sl (ch ss i (st.getD i default).toNat).2.1 ((ch ss i (st.getD i default).toNat).2.2.map brc)), (41, .v (.int .i64 ((ch ss i (st.getD i default).toNat).2.2.length : Int))), (42, .v (.int .i64 (j : Int)))]) (fun ⟨j, row⟩ => ((nK + 1 + 6 + 10 + 1), { cells := (row.map xc).flatten, sz := 4, elem := (102), st := 0 }) :: ((nK + 1 + 6 + 8), { cells := chc (ch ss i (st.getD i default).toNat), sz := 3, elem := (57), st := 0 }) :: outH qa 1 104 (al.map fX) (outH qb 4 102 (bl.map xc) ((n0 + 1, { cells := xc (d), sz := 4, elem := (102), st := 0 }) :: H))) (fun ⟨j, row⟩ n => j ≤ (ch ss i (st.getD i default).toNat).2.2.length ∧ RowP ss.length d.1 (ch ss i (st.getD i default).toNat).2.2 j (row.map (·.1)) ∧ nK + 24 ≤ n) (fun ⟨j, row⟩ => (ch ss i (st.getD i default).toNat).2.2.length - j) (0, List.replicate ss.length x0) ⟨J, J, J, J, J, J, J, J, J, J, J, J, J, J, trivial⟩ ⟨g0.trans (by rw [List.map_replicate]; rfl), gG, bS (fun hne => by rw [cY hne]; repeat (first | exact g0 | refine g1 om ?_ | refine aL om ?_)) (bS (fun hne => by rw [cY hne]; repeat (first | exact g0 | refine g1 om ?_ | refine aL om ?_)) ⟨(by repeat (first | exact g0 | refine g1 om ?_ | refine aL om ?_)), cV hnd (by intro q o hq'; have := hlt q o hq'; repeat (first | exact hq' | refine g1 om ?_ | refine aL om ?_))⟩)⟩ ⟨Nat.zero_le _, by rw [List.map_replicate]; exact RowP.init _ _ _, om⟩ ?_
 rintro ⟨j, row⟩ n hF
 change WC _ _ _ _ _ [(2, .sl ks (st.map ic)), (4, .ptr (n0 + 1) 0), (7, .v (.int .i64 (ss.length : Int))), (8, outV qa 1 (al.map fX)), (9, outV qb 4 (bl.map xc)), (10, .v (.int .i64 (i : Int))), (12, .ptr (nK + 1 + 6 + 8) 0), (13, .ref (nK + 1 + 6 + 10 + 1) 4 0 ss.length), (22, .sl k (ss.map stc)), (23, .v (.int .i64 (ss.length : Int))), (24, .v (.int .i64 (i : Int))), (40, .sl (ch ss i (st.getD i default).toNat).2.1 ((ch ss i (st.getD i default).toNat).2.2.map brc)), (41, .v (.int .i64 ((ch ss i (st.getD i default).toNat).2.2.length : Int))), (42, .v (.int .i64 (j : Int)))] (((nK + 1 + 6 + 10 + 1), { cells := (row.map xc).flatten, sz := 4, elem := (102), st := 0 }) :: ((nK + 1 + 6 + 8), { cells := chc (ch ss i (st.getD i default).toNat), sz := 3, elem := (57), st := 0 }) :: outH qa 1 104 (al.map fX) (outH qb 4 102 (bl.map xc) ((n0 + 1, { cells := xc (d), sz := 4, elem := (102), st := 0 }) :: H))) n _
 obtain ⟨hj, hR, hn2⟩ := hF
 have hrl : row.length = ss.length := by have := hR.1; rwa [List.length_map] at this
 refine Rg 1 J <| aA (bP J J) J <| aX (fun h43 => ?_) (fun h43 => ?_)
 ·refine Nk [2,4,7,8,9,10,12,13,22,23,24,40,41,42,43] J <| aT J <| aF <| aJ ?_
  have hto := hvb.to j om
  have hvn := hvb.vn j om
  have hi3 := hvn.all3
  have hbl8 := hvb.len
  refine Rg 4 J <| aA (bO J J J J J om J) J <| aA (dF (l := .agg (brc ((ch ss i (st.getD i default).toNat).2.2.getD j default))) J J J) J <| aY (dQ J) J <| aZ (cE (cs' := brc ((ch ss i (st.getD i default).toNat).2.2.getD j default)) J J J g0 J J J J) <| Nk [2,4,7,8,9,10,12,13,15,22,23,24,40,41,42] J <| cM (z := 11) J kR <| Dm J J <| aC (bC J J J J J) J <| aC (aM J J gG J J) J ?_
  refine aC (aM (l := lvX d) J J (by repeat (first | exact g0 | refine g1 om ?_ | refine aL om ?_)) J J) J ?_
  refine aC (bC J J J J J) J <| aC (aM (l := lvM ((ch ss i (st.getD i default).toNat).2.2.getD j default).2) J J gG J J) J ?_
  refine aC (bM (b := lvX (nx ((ch ss i (st.getD i default).toNat).2.2.getD j default).2)) (aK J (iJ ((ch ss i (st.getD i default).toNat).2.2.getD j default).2 hi3.1 hi3.2.1 hi3.2.2) dD) J) J <| aC (aK J (jN d (nx ((ch ss i (st.getD i default).toNat).2.2.getD j default).2) (hd.mono om) (hvn.bd.mono om)) dD) J <| aC (aK J (kI (xmul d (nx ((ch ss i (st.getD i default).toNat).2.2.getD j default).2))) dD) J <| aC (cB (j := ((ch ss i (st.getD i default).toNat).2.2.getD j default).1.toNat) J J J J om om J) J <| cA (dS (f := xc) (us := row) (xneg (xmul d (nx ((ch ss i (st.getD i default).toNat).2.2.getD j default).2))) J J J gG (fun _ => rfl) J J om J) ?_
  refine bD (aP kR) J <| aE <| Ck [2,4,7,8,9,10,12,13,22,23,24,40,41,42] J <| aG (z := 2) J <| aA (cI (((j + 1 : Nat) : Int)) (aS J J om) om) J <| Um J J <| Wn <| aD <| ⟨⟨j + 1, row.set ((ch ss i (st.getD i default).toNat).2.2.getD j default).1.toNat (xneg (xmul d (nx ((ch ss i (st.getD i default).toNat).2.2.getD j default).2)))⟩, ⟨J, J, J, J, J, J, J, J, J, J, J, J, J, J, trivial⟩, ⟨gG, gG, bS (fun hne => by rw [cY hne]; repeat (first | exact g0 | refine g1 om ?_ | refine aL om ?_)) (bS (fun hne => by rw [cY hne]; repeat (first | exact g0 | refine g1 om ?_ | refine aL om ?_)) ⟨(by repeat (first | exact g0 | refine g1 om ?_ | refine aL om ?_)), cV hnd (by intro q o hq'; have := hlt q o hq'; repeat (first | exact hq' | refine g1 om ?_ | refine aL om ?_))⟩)⟩, ⟨om, by rw [List.map_set]; exact hR.step hvb om hd, om⟩, by show (ch ss i (st.getD i default).toNat).2.2.length - (j + 1) < (ch ss i (st.getD i default).toNat).2.2.length - j; omega⟩
 refine Nk [2,4,7,8,9,10,12,13,22,23,24,40,41,42,43] J <| aU J <| aV <| aR <| aO J <| Ck [2,4,7,8,9,10,12,13,22,23,24] J ?_
 have hjn : j = (ch ss i (st.getD i default).toNat).2.2.length := by have := hvb.len; omega
 subst hjn
 have hgi : Bd 4 (row.getD i default).1 := mI (by decide) (fun x hx => hR.2.2.2 _ (List.mem_map.2 ⟨x, hx, rfl⟩)) i
 have hrowok := hR.done (i := i) om
 rw [show (row.map (·.1)).set i ((row.map (·.1)).getD i default + 1) = (row.set i (xadd (row.getD i default) (xint 1))).map (·.1) by rw [List.map_set]; congr 1; show _ = (row.getD i default).1 + 1; rw [mE]; rfl] at hrowok
 have hov : outV (nK + 1 + 6 + 10 + 1) 4 ((row.set i (xadd (row.getD i default) (xint 1))).map xc) = .ref (nK + 1 + 6 + 10 + 1) 4 0 ss.length := by
  rw [oV (fun h => by have := congrArg List.length h; rw [List.length_map, List.length_set, List.length_nil] at this; omega), List.length_map, List.length_set, hrl]
 have hqa2 : qa < n := by omega
 have hqb2 : qb < n := by omega
 have h12 : nK + (1 + (6 + 8)) < n := by omega
 have h12b : nK + (1 + (6 + 8)) ≠ qb := by omega
 have h12a : nK + (1 + (6 + 8)) ≠ qa := by omega
 have hqba : qb ≠ qa := by omega
 refine bG (z := 10) J kR <| Dm J J <| Dm J J <| Dm J J <| Dm J J <| aC (cB (j := i) J J J J om om J) J <| aC (dV (f := xc) (us := row) (j := i) (l := lvX (row.getD i default)) J J gG (fun _ => rfl) J (by decide) om J) J ?_
 refine aC (aK J (jD 1 (by unfold I64; omega)) dD) J <| aC (aK J (jM (row.getD i default) (xint 1) (hgi.mono om) (Bd1.mono om)) dD) J <| aC (cB (j := i) J J J J om om J) J <| cA (dS (f := xc) (us := row) (xadd (row.getD i default) (xint 1)) J J J gG (fun _ => rfl) J J om J) ?_
 refine bD (aP kR) J <| Ck [2,4,7,8,9,12,13,22,23,24] J <| mG (z := 12) J kR <| Dm J J <| Dm J J <| aC (cW (cs := [_]) (rows := [[_]]) J J (by decide) J J J) J <| hO _ (subsM.get (bS (q := qa) (sz := 1) (el := 104) (us := al.map fX) (h := ((nK + 1 + 6 + 10 + 1), { cells := ((row.set i (xadd (row.getD i default) (xint 1))).map xc).flatten, sz := 4, elem := (102), st := 0 }) :: ((nK + 1 + 6 + 8), { cells := chc (ch ss i (st.getD i default).toNat), sz := 3, elem := (57), st := 0 }) :: outH qb 4 102 (bl.map xc) ((n0 + 1, { cells := xc (d), sz := 4, elem := (102), st := 0 }) :: H)) (fun hne => by rw [cY hne]; repeat (first | exact g0 | refine g1 om ?_ | refine aL om ?_)) ⟨(by repeat (first | exact g0 | refine g1 om ?_ | refine aL om ?_)), (by repeat (first | exact g0 | refine g1 om ?_ | refine aL om ?_)), bS (fun hne => by rw [cY hne]; repeat (first | exact g0 | refine g1 om ?_ | refine aL om ?_)) ⟨(by repeat (first | exact g0 | refine g1 om ?_ | refine aL om ?_)), cV hnd (by intro q o hq'; have := hlt q o hq'; repeat (first | exact hq' | refine g1 om ?_ | refine aL om ?_))⟩⟩)) ?_
 refine nV (te := ti104) (k0 := 0) (us := al.map fX) (rows := [[_]]) (.inl J) J J J (by rw [gX]; rfl) J (by decide) (by intro r hr; rw [List.mem_singleton] at hr; subst hr; rfl) (bX (f := fX) (n := 1) fun _ => rfl) (by simp) (by rw [List.length_map]; show (2 * (al.length + 1) + 256) * 24 ≤ _; omega) (by rw [List.length_map]; show al.length + 1 < _; omega) (gN om (gN om (cU om (gN om (hfr qa om))))) J <| Dm J J <| aC (bC J J J J J) J <| aC (aM (l := lvM (ch ss i (st.getD i default).toNat).1) J J (by repeat (first | exact g0 | refine g1 om ?_ | refine aL om ?_)) J J) J ?_
 refine aC (bM (b := lvX (nx (ch ss i (st.getD i default).toNat).1)) (aK J (iJ (ch ss i (st.getD i default).toNat).1 hr3.1 hr3.2.1 hr3.2.2) dD) J) J <| aC (cW (cs := [_, _, _, _]) (rows := [[_, _, _, _]]) J J (by decide) J J J) J <| hO _ (subsM.get (bS (q := qb) (sz := 4) (el := 102) (us := bl.map xc) (h := ((n + 1 + 10 + 3), { cells := (al.map fX).flatten ++ [[LV.ref (nK + 1 + 6 + 10 + 1) 4 0 ss.length]].flatten, sz := 1, elem := 104, st := 0 }) :: ((nK + 1 + 6 + 10 + 1), { cells := ((row.set i (xadd (row.getD i default) (xint 1))).map xc).flatten, sz := 4, elem := (102), st := 0 }) :: (n0 + 1, { cells := xc (d), sz := 4, elem := (102), st := 0 }) :: H) (fun hne => by rw [cY hne]; repeat (first | exact g0 | refine g1 om ?_ | refine aL om ?_)) ⟨(by repeat (first | exact g0 | refine g1 om ?_ | refine aL om ?_)), (by repeat (first | exact g0 | refine g1 om ?_ | refine aL om ?_)), (by repeat (first | exact g0 | refine g1 om ?_ | refine aL om ?_)), cV hnd (by intro q o hq'; have := hlt q o hq'; repeat (first | exact hq' | refine g1 om ?_ | refine aL om ?_))⟩)) ?_
 refine nV (te := ti102) (k0 := 0) (us := bl.map xc) (rows := [xc (nx (ch ss i (st.getD i default).toNat).1)]) (.inl J) J J J (by rw [gX]; rfl) J (by decide) (by intro r hr; rw [List.mem_singleton] at hr; subst hr; rfl) (bX (f := xc) (n := 4) fun _ => rfl) (by simp) (by rw [List.length_map]; show (2 * (bl.length + 1) + 256) * 64 ≤ _; omega) (by rw [List.length_map]; show bl.length + 1 < _; omega) (gN om (gN om (gN om (hfr qb om)))) J <| aC (gP J) J <| aC (gP J) J <| bD (eU (rq2 qa qb n) (by simp only [List.reverse_cons, List.reverse_nil, List.nil_append, List.cons_append, List.map_cons, List.map_nil, ren, keys, Nat.add_assoc, rq2_a, rq2_b hqba, rq2_lt h12 h12a h12b, rq2_add hqa2 hqb2]; kernel_rfl)) J <| Fz.weakH (outH (nK + 1 + 6 + 10 + 1) 4 (102) ((row.set i (xadd (row.getD i default) (xint 1))).map xc) (((n + 1 + 10 + 3), { cells := (al.map fX).flatten ++ [outV (nK + 1 + 6 + 10 + 1) 4 ((row.set i (xadd (row.getD i default) (xint 1))).map xc)], sz := 1, elem := 104, st := 0 }) :: ((n + 1 + 10 + 9), { cells := (bl.map xc).flatten ++ [xc (nx (ch ss i (st.getD i default).toNat).1)].flatten, sz := 4, elem := 102, st := 0 }) :: (n0 + 1, { cells := xc (d), sz := 4, elem := (102), st := 0 }) :: H)) (subsM.get (bS (fun _ => (by repeat (first | exact g0 | refine g1 om ?_ | refine aL om ?_))) ⟨by rw [hov]; exact (by repeat (first | exact g0 | refine g1 om ?_ | refine aL om ?_)), (by repeat (first | exact g0 | refine g1 om ?_ | refine aL om ?_)), (by repeat (first | exact g0 | refine g1 om ?_ | refine aL om ?_)), cV hnd (by intro q o hq'; have := hlt q o hq'; repeat (first | exact hq' | refine g1 om ?_ | refine aL om ?_))⟩)) ?_
 refine Fz.cellR [(2, _), (4, _), (7, _), (8, _), (9, _), (22, _), (23, _), (24, _)] ⟨J, J, J, J, J, J, J, J, trivial⟩ om (by decide) (bX (f := xc) (n := 4) fun _ => rfl) (bN dxc) (gN om (gN om (hfr _ om))) ?_
 rw [iR]
 refine aE <| aG (z := 2) J <| aA (cI (((i + 1 : Nat) : Int)) (aS J J om) om) J <| Um J J <| Wn <| aD <| ⟨⟨i + 1, (n + 1 + 10 + 3), (n + 1 + 10 + 9), al ++ [(kd (row.set i (xadd (row.getD i default) (xint 1))).length, (row.set i (xadd (row.getD i default) (xint 1))))], bl ++ [nx (ch ss i (st.getD i default).toNat).1]⟩, ⟨rfl, rfl, rfl, congrArg some (by rw [List.map_append]; exact outV_snoc.symm), congrArg some (by rw [List.map_append]; exact outV_snoc.symm), rfl, rfl, rfl, trivial⟩, by dsimp only; rw [List.map_append, List.map_append]; simp only [List.map_cons, List.map_nil]; rw [iZ, iZ]; exact ⟨gG, gG, gG, cV hnd (by intro q o hq'; have := hlt q o hq'; repeat (first | exact hq' | refine g1 om ?_))⟩, ⟨om, by rw [List.length_append]; show al.length + 1 = _; omega, by rw [List.length_append]; show bl.length + 1 = _; omega, fun a ha => ?_, fun r hr => ?_, fun x hx => ?_, om, om, om, om, om, om⟩, by show ss.length - (i + 1) < ss.length - i; omega⟩
 ·by_cases e : a = i
  ·subst e
   rw [show (al ++ [(kd (row.set a (xadd (row.getD a default) (xint 1))).length, (row.set a (xadd (row.getD a default) (xint 1))))]).getD a default = (kd (row.set a (xadd (row.getD a default) (xint 1))).length, (row.set a (xadd (row.getD a default) (xint 1)))) by rw [← hal]; simp [List.getD_eq_getElem?_getD], show (bl ++ [nx (ch ss a (st.getD a default).toNat).1]).getD a default = nx (ch ss a (st.getD a default).toNat).1 by rw [← hbl]; simp [List.getD_eq_getElem?_getD]]
   exact ⟨hrowok.1, rfl, rfl⟩
  ·rw [show (al ++ [(kd (row.set i (xadd (row.getD i default) (xint 1))).length, (row.set i (xadd (row.getD i default) (xint 1))))]).getD a default = al.getD a default by simp only [List.getD_eq_getElem?_getD]; rw [List.getElem?_append_left om], show (bl ++ [nx (ch ss i (st.getD i default).toNat).1]).getD a default = bl.getD a default by simp only [List.getD_eq_getElem?_getD]; rw [List.getElem?_append_left om]]
   exact hrows a om
 ·rcases List.mem_append.1 hr with h | h
  ·exact hba r h
  ·rw [List.mem_singleton] at h; subst h
   exact fun x hx => hrowok.2 _ (List.mem_map.2 ⟨x, hx, rfl⟩)
 ·rcases List.mem_append.1 hx with h | h
  ·exact hbb x h
  ·rw [List.mem_singleton] at h; subst h
   exact hrw.bd.mono (by decide)
theorem worth_run (k ks : Nat) (ss : List Go.Ab.ST) (d : X) (st : List Int) (hV : VMo ss = true) (hd : Bd 2 d.1) (hd0 : 0 < d.1) (hd1 : d.1 < 1) (hst : vSt ss st = true) :
  ∃ r, Run Tryz.prog T E0 (.call 71 [lvMo k ss, lvX d, .sl ks (st.map ic)] r) ∧ ∃ xs : List X, r = .sl 1 (xs.map xc) ∧ xs.length = ss.length ∧ WV ss d.1 st (vl xs) ∧ ∀ x, x ∈ xs → Bd 268435456 x.1 := by
 refine eM Tryz.func71 J J (dH J) <| (worth_wc 0 [] k ks ss d st trivial (by intro q o hq; simp [getH] at hq) hV hd hd0 hd1 hst).mono ?_
 rintro x e h n ⟨hx, _, xs, hr, hl, hw, hb, _⟩
 exact ⟨.sl 1 (xs.map xc), ⟨xs, rfl, hl, hw, hb⟩, post (n := n) hx hr J (.sl _ _ fun row hr => bN dxc row hr)⟩
end Go.Proofs.YtahljdjhhapngaaGreat
namespace Go.Proofs.YtahljdjhhapngaaGreat
open Go.Ab Go.RowKit
theorem g0' {h : Hp} {q : Nat} {a b : Ob} (h1 : getH h q = some a) (h2 : a = b) : getH h q = some b := by rw [h1, h2]
theorem four_set {a b c d : Nat} {o1 o2 o2' o3 o4 : Ob} {h' : Hp} (hq : getH h' b = some o2') (hf : ∀ q o, q ≠ b → getH [(a, o1), (b, o2), (c, o3), (d, o4)] q = some o → getH h' q = some o) (h1 : a ≠ b) (h3 : c ≠ b) (h4 : d ≠ b) : ∀ q o, getH [(a, o1), (b, o2'), (c, o3), (d, o4)] q = some o → getH h' q = some o := by
 intro q o h
 by_cases e : b = q
 ·subst e
  rw [g1 h1 g0] at h
  rw [hq]; exact h
 ·refine hf q o (fun h => e h.symm) ?_
  by_cases e1 : a = q
  ·subst e1; rw [g0] at h ⊢; exact h
  ·rw [g1 e1 rfl, g1 e rfl] at h ⊢; exact h
theorem answer_share (n0 : Nat) (hn0 : 9 ≤ n0) (k : Nat) (ss : List Go.Ab.ST) (d : X) (st : List Int) (hV : VMo ss = true) (hd : Bd 2 d.1) (hd0 : 0 < d.1) (hd1 : d.1 < 1) (hst : vSt ss st = true) : WC Tryz.prog T E0 Tryz.f96.ntmps (codeOf Tryz.f96) (argsEnv 0 ([] ++ [] ++ [.ptr 0 0, .ptr (0 + 1) 0, .ptr (0 + 3 + 4) 0])) [((0 + 3 + 4), { cells := [.ref (0 + 3 + 3) 1 0 ss.length], sz := 1, elem := (33), st := 0 }), ((0 + 3 + 3), { cells := ((st).map ic).flatten, sz := 1, elem := (3), st := 0 }), ((0 + 1), { cells := xc (d), sz := 4, elem := (102), st := 0 }), (0, { cells := [.sl k (ss.map stc)], sz := 1, elem := (24), st := 0 })] n0 (fun x e' h' n' => (x = .normal ∨ x = .ret) ∧ n0 ≤ n' ∧ ∃ (s' : List Int) (xs : List X), resE e' T h' Tryz.f96.results.toList = some [.sl 1 (xs.map xc)] ∧ vSt ss s' = true ∧ xs.length = ss.length ∧ WV ss d.1 s' (vl xs) ∧ NoImp ss d.1 1 (vl xs) ∧ (∀ j, j < ss.length → (ss.getD j default).1.1 ≠ 1 → s'.getD j default = st.getD j default) ∧ (∀ x, x ∈ xs → Bd 268435456 x.1) ∧ ∀ q o, getH [((0 + 3 + 4), { cells := [.ref (0 + 3 + 3) 1 0 ss.length], sz := 1, elem := (33), st := 0 }), ((0 + 3 + 3), { cells := ((s').map ic).flatten, sz := 1, elem := (3), st := 0 }), ((0 + 1), { cells := xc (d), sz := 4, elem := (102), st := 0 }), (0, { cells := [.sl k (ss.map stc)], sz := 1, elem := (24), st := 0 })] q = some o → getH h' q = some o) := by
 have hD := jZ hV hd0 hd1
 have hn40 := (jF hV).wt.len
 obtain ⟨μ, M, hM, hμ⟩ := rank1 hD
 change WC _ _ _ _ _ [(0, .ptr 0 0), (1, .ptr (0 + 1) 0), (2, .ptr (0 + 3 + 4) 0)] _ _ _
 refine Rg 1 J <| Ua J J <| Wn <| cJ <| aW (α := (List Int)) (fun s => [(0, .ptr 0 0), (1, .ptr (0 + 1) 0), (2, .ptr (0 + 3 + 4) 0)]) (fun s => [((0 + 3 + 4), { cells := [.ref (0 + 3 + 3) 1 0 ss.length], sz := 1, elem := (33), st := 0 }), ((0 + 3 + 3), { cells := ((s).map ic).flatten, sz := 1, elem := (3), st := 0 }), ((0 + 1), { cells := xc (d), sz := 4, elem := (102), st := 0 }), (0, { cells := [.sl k (ss.map stc)], sz := 1, elem := (24), st := 0 })]) (fun s n => vSt ss s = true ∧ (∀ j, j < ss.length → (ss.getD j default).1.1 ≠ 1 → s.getD j default = st.getD j default) ∧ n0 ≤ n) (fun s => μ s) (st) ⟨J, J, J, trivial⟩ ⟨gG, gG, gG, gG, trivial⟩ ⟨hst, fun _ _ _ => rfl, om⟩ ?_
 rintro s n hF
 change WC _ _ _ _ _ (_ :: _) (_ :: _) n _
 obtain ⟨hs, hsame, hn⟩ := hF
 refine cJ <| nU (z := 5) J <| gS (aM (l := lvMo k ss) J J gG J J) J ?_
 refine gS (aM (l := lvX d) J J gG J J) J ?_
 refine gS (aM (l := .ref (0 + 3 + 3) 1 0 ss.length) J J gG J J) J ?_
 refine WN.G (ls := [lvMo k ss, lvX d, .ref (0 + 3 + 3) 1 0 ss.length]) (Φ := fun r h' n' => ∃ xs : List X, r = .sl 1 (xs.map xc) ∧ xs.length = ss.length ∧ WV ss d.1 s (vl xs) ∧ (∀ x, x ∈ xs → Bd 268435456 x.1) ∧ n + 5 ≤ n' ∧ ∀ q o, getH [((0 + 3 + 4), { cells := [.ref (0 + 3 + 3) 1 0 ss.length], sz := 1, elem := (33), st := 0 }), ((0 + 3 + 3), { cells := ((s).map ic).flatten, sz := 1, elem := (3), st := 0 }), ((0 + 1), { cells := xc (d), sz := 4, elem := (102), st := 0 }), (0, { cells := [.sl k (ss.map stc)], sz := 1, elem := (24), st := 0 })] q = some o → getH h' q = some o) J Tryz.func71 J J (dH J) J ((worth_share (n + 5) [((0 + 3 + 4), { cells := [.ref (0 + 3 + 3) 1 0 ss.length], sz := 1, elem := (33), st := 0 }), ((0 + 3 + 3), { cells := ((s).map ic).flatten, sz := 1, elem := (3), st := 0 }), ((0 + 1), { cells := xc (d), sz := 4, elem := (102), st := 0 }), (0, { cells := [.sl k (ss.map stc)], sz := 1, elem := (24), st := 0 })] k ss d s (0 + 3 + 3) ⟨gG, gG, gG, gG, trivial⟩ (four_lt om om om om) gG hV hd hd0 hd1 hs).mono (by rintro x e h n' ⟨hx, h1, xs, hr, h2, h3, h4, h5⟩; exact ⟨hx, _, hr, xs, rfl, h2, h3, h4, h1, h5⟩)) ?_
 rintro r' h' n' ⟨xs, rfl, hxl, hwv, hxb, hn', hH⟩
 refine nX [((0 + 3 + 4), { cells := [.ref (0 + 3 + 3) 1 0 ss.length], sz := 1, elem := (33), st := 0 }), ((0 + 3 + 3), { cells := ((s).map ic).flatten, sz := 1, elem := (3), st := 0 }), ((0 + 1), { cells := xc (d), sz := 4, elem := (102), st := 0 }), (0, { cells := [.sl k (ss.map stc)], sz := 1, elem := (24), st := 0 })] ⟨hH _ _ gG, hH _ _ gG, hH _ _ gG, hH _ _ gG, trivial⟩ ?_
 refine gS (gP J) J <| nF <| nU (z := 6) J <| gS (aM (l := lvMo k ss) J J gG J J) J ?_
 refine gS (aM (l := lvX d) J J gG J J) J ?_
 refine gS (eG J) J <| gS (aM (l := .ref (0 + 3 + 3) 1 0 ss.length) J J gG J J) J ?_
 refine WN.G (ls := [lvMo k ss, lvX d, .sl 1 (xs.map xc), .ref (0 + 3 + 3) 1 0 ss.length, .v (.int .i64 1)]) (Φ := fun r h' m' => ∃ (b : Bool) (s2 : List Int), r = .v (.bool b) ∧ (∀ q o, getH [((0 + 3 + 4), { cells := [.ref (0 + 3 + 3) 1 0 ss.length], sz := 1, elem := (33), st := 0 }), ((0 + 3 + 3), { cells := ((s2).map ic).flatten, sz := 1, elem := (3), st := 0 }), ((0 + 1), { cells := xc (d), sz := 4, elem := (102), st := 0 }), (0, { cells := [.sl k (ss.map stc)], sz := 1, elem := (24), st := 0 })] q = some o → getH h' q = some o) ∧ m' ≥ n' + 6 ∧ (b = false → s2 = s ∧ NoImp ss d.1 1 (vl xs)) ∧ (b = true → ∃ i j : Nat, i < ss.length ∧ (ss.getD i default).1.1 = 1 ∧ j < (ss.getD i default).2.2.length ∧ btr 1 (yl d.1 (ch ss i j) (vl xs)) (vl xs i) ∧ s2 = s.set i (j : Int))) J Tryz.func97 J J (dH J) J ((lT (n' + 6) [((0 + 3 + 4), { cells := [.ref (0 + 3 + 3) 1 0 ss.length], sz := 1, elem := (33), st := 0 }), ((0 + 3 + 3), { cells := ((s).map ic).flatten, sz := 1, elem := (3), st := 0 }), ((0 + 1), { cells := xc (d), sz := 4, elem := (102), st := 0 }), (0, { cells := [.sl k (ss.map stc)], sz := 1, elem := (24), st := 0 })] k 1 ss d xs s 1 (0 + 3 + 3) ⟨gG, gG, gG, gG, trivial⟩ (four_lt om om om om) gG hV hd hxl (fU hs) 268435456 (by decide) (by decide) hxb).mono (by
  rintro x e h n' ⟨hx, h1, (⟨hr, hni, h2⟩ | ⟨i, j, hr, hi, ho, hj, hb, hq, h2⟩)⟩
  ·exact ⟨hx, _, hr, false, s, rfl, h2, h1, fun _ => ⟨rfl, hni⟩, fun h => by cases h⟩
  ·exact ⟨hx, _, hr, true, _, rfl, four_set hq (fun q o hq => h2 q o hq) om om om, h1, fun h => (by cases h), fun _ => ⟨i, j, hi, ho, hj, hb, rfl⟩⟩)) ?_
 rintro r' h' m' ⟨b, s2, rfl, hH, hm', hbF, hbT⟩
 refine nX [((0 + 3 + 4), { cells := [.ref (0 + 3 + 3) 1 0 ss.length], sz := 1, elem := (33), st := 0 }), ((0 + 3 + 3), { cells := ((s2).map ic).flatten, sz := 1, elem := (3), st := 0 }), ((0 + 1), { cells := xc (d), sz := 4, elem := (102), st := 0 }), (0, { cells := [.sl k (ss.map stc)], sz := 1, elem := (24), st := 0 })] ⟨hH _ _ gG, hH _ _ gG, hH _ _ gG, hH _ _ gG, trivial⟩ ?_
 refine WN.B (fun h13 => ?_) (fun h13 => ?_)
 rotate_left
 ·refine gS (dO J) J <| nF <| bT J <| Rg 2 J <| Um J J <| Ua J J <| Nk [3] J <| aQ <| eF <| bJ <| eF ?_
  obtain ⟨rfl, hni⟩ := hbF h13
  exact ⟨.inr J, om, s2, xs, rfl, hs, hxl, hwv, hni, hsame, hxb, fun q o hq => hq⟩
 refine gS (dO J) J <| nF <| bV J <| cC <| cK <| aD ?_
 obtain ⟨i, j, hi, ho, hj, hb, rfl⟩ := hbT h13
 unfold btr at hb
 rw [if_pos rfl] at hb
 have hs2 := vSt_set hs hj
 obtain ⟨_, _, ys, _, _, hys, _⟩ := worth_run k 0 ss d _ hV hd hd0 hd1 hs2
 obtain ⟨h5, h6⟩ := imp1 hD hs hi hj hwv hb hys
 refine ⟨s.set i (j : Int), ⟨J, J, J, trivial⟩, ⟨gG, gG, gG, gG, trivial⟩, ⟨hs2, fun a ha hoa => ?_, om⟩, hμ _ _ _ _ i hs2 hs hys hwv h5 hi h6⟩
 rw [mA (by rw [fU hs]; exact hi), if_neg (fun e => hoa (by rw [← e]; exact ho))]
 exact hsame a ha hoa
theorem values_run (k : Nat) (ss : List Go.Ab.ST) (d : X) (hV : VMo ss = true) (hd : Bd 2 d.1) (hd0 : 0 < d.1) (hd1 : d.1 < 1) : ∃ r, Run Tryz.prog T E0 (.call 60 [lvMo k ss, lvX d] r) ∧ ∃ (st : List Int) (xs : List X), r = .sl 1 (xs.map xc) ∧ vSt ss st = true ∧ xs.length = ss.length ∧ WV ss d.1 st (vl xs) ∧ Val ss d.1 (vl xs) ∧ ∀ x, x ∈ xs → Bd 268435456 x.1 := by
 have hD := jZ hV hd0 hd1
 have hV1 := jF hV
 have hn40 := hV1.wt.len
 obtain ⟨μ, M, hM, hμ⟩ := rank0 hD
 have hz0 : vSt ss (List.replicate ss.length 0) = true := by
  unfold vSt
  rw [decide_eq_true (by simp), Bool.true_and]
  refine fS fun i hi => ?_
  rw [List.length_replicate] at hi
  have := hV1.cs _ (bE (us := ss) hi)
  rw [show (List.replicate ss.length (0 : Int)).getD i default = 0 by rw [List.getD_eq_getElem?_getD, List.getElem?_replicate, if_pos hi]; rfl, decide_eq_true (by decide), decide_eq_true om]; rfl
 refine eM Tryz.func60 J J (dH J) <| Rg 3 J <| aY (dK J J) J <| aY (dK J J) J <| Ua J J <| Wn <| Rg 6 J <| aA (bC J J J J J) J <| aA (aM J J gG J J) J ?_
 refine aA (bA J J) J <| aY (oMk (a := ss.length) (b := ss.length) J J J J (by simp) (by simp) (by decide) om (by show 8 * ss.length ≤ _; omega) om) J <| aY (dQ J) J <| aZ (cE (cs' := [_]) J J J g0 J J J J) <| Wn <| Rg 2 J <| aA (oMf J) J <| Ua J J <| Wn <| cJ <| aW (α := (List Int) × Nat) (fun ⟨s, g⟩ => [(2, .ptr 0 0), (3, .ptr (0 + 1) 0), (5, .ptr (0 + 3 + 4) 0), (6, .fn (.func 96) [] [.ptr 0 0, .ptr (0 + 1) 0, .ptr (0 + 3 + 4) 0])]) (fun ⟨s, g⟩ => [((0 + 3 + 4), { cells := [.ref (0 + 3 + 3) 1 0 ss.length], sz := 1, elem := (33), st := 0 }), ((0 + 3 + 3), { cells := ((s).map ic).flatten, sz := 1, elem := (3), st := 0 }), ((0 + 1), { cells := xc (d), sz := 4, elem := (102), st := 0 }), (0, { cells := [.sl k (ss.map stc)], sz := 1, elem := (24), st := 0 })]) (fun ⟨s, g⟩ n => vSt ss s = true ∧ (∀ (s2 : List Int) (u : Nat → Rat), vSt ss s2 = true → WV ss d.1 s2 u → NoImp ss d.1 1 u → (∀ j, j < ss.length → (ss.getD j default).1.1 ≠ 1 → s2.getD j default = s.getD j default) → μ s2 < g) ∧ 9 ≤ n) (fun ⟨s, g⟩ => g) (List.replicate ss.length 0, M) ⟨J, J, J, J, trivial⟩ ⟨gG, g0' gG (by rw [List.map_replicate]; rfl), gG, gG, trivial⟩ ⟨hz0, fun s2 _ _ _ _ _ => hM s2, om⟩ ?_
 rintro ⟨s, g⟩ n hF
 change WC _ _ _ _ _ (_ :: _) (_ :: _) n _
 obtain ⟨hs, hfu, hn⟩ := hF
 refine cJ <| nU (z := 3) J <| gS (eG J) J <| WN.Gv (first := []) (cap := [.ptr 0 0, .ptr (0 + 1) 0, .ptr (0 + 3 + 4) 0]) (ls := []) (Φ := fun r h' n' => ∃ (s' : List Int) (xs : List X), r = .sl 1 (xs.map xc) ∧ vSt ss s' = true ∧ xs.length = ss.length ∧ WV ss d.1 s' (vl xs) ∧ NoImp ss d.1 1 (vl xs) ∧ (∀ j, j < ss.length → (ss.getD j default).1.1 ≠ 1 → s'.getD j default = s.getD j default) ∧ (∀ x, x ∈ xs → Bd 268435456 x.1) ∧ n + 3 ≤ n' ∧ ∀ q o, getH [((0 + 3 + 4), { cells := [.ref (0 + 3 + 3) 1 0 ss.length], sz := 1, elem := (33), st := 0 }), ((0 + 3 + 3), { cells := ((s').map ic).flatten, sz := 1, elem := (3), st := 0 }), ((0 + 1), { cells := xc (d), sz := 4, elem := (102), st := 0 }), (0, { cells := [.sl k (ss.map stc)], sz := 1, elem := (24), st := 0 })] q = some o → getH h' q = some o) J J Tryz.func96 J J (dH J) J ((answer_share (n + 3) om k ss d s hV hd hd0 hd1 hs).mono (by rintro x e h n' ⟨hx, h1, s', xs, hr, h2, h3, h4, h5, h6, h7, h8⟩; exact ⟨hx, _, hr, s', xs, rfl, h2, h3, h4, h5, h6, h7, h1, h8⟩)) ?_
 rintro r' h' n' ⟨s', xs, rfl, hs', hxl, hwv, hn1, hsame, hxb, hn', hH⟩
 refine nX [((0 + 3 + 4), { cells := [.ref (0 + 3 + 3) 1 0 ss.length], sz := 1, elem := (33), st := 0 }), ((0 + 3 + 3), { cells := ((s').map ic).flatten, sz := 1, elem := (3), st := 0 }), ((0 + 1), { cells := xc (d), sz := 4, elem := (102), st := 0 }), (0, { cells := [.sl k (ss.map stc)], sz := 1, elem := (24), st := 0 })] ⟨hH _ _ gG, hH _ _ gG, hH _ _ gG, hH _ _ gG, trivial⟩ ?_
 refine gS (gP J) J <| nF <| nU (z := 6) J <| gS (aM (l := lvMo k ss) J J gG J J) J ?_
 refine gS (aM (l := lvX d) J J gG J J) J ?_
 refine gS (eG J) J <| gS (aM (l := .ref (0 + 3 + 3) 1 0 ss.length) J J gG J J) J ?_
 refine WN.G (ls := [lvMo k ss, lvX d, .sl 1 (xs.map xc), .ref (0 + 3 + 3) 1 0 ss.length, .v (.int .i64 0)]) (Φ := fun r h' m' => ∃ (b : Bool) (s2 : List Int), r = .v (.bool b) ∧ (∀ q o, getH [((0 + 3 + 4), { cells := [.ref (0 + 3 + 3) 1 0 ss.length], sz := 1, elem := (33), st := 0 }), ((0 + 3 + 3), { cells := ((s2).map ic).flatten, sz := 1, elem := (3), st := 0 }), ((0 + 1), { cells := xc (d), sz := 4, elem := (102), st := 0 }), (0, { cells := [.sl k (ss.map stc)], sz := 1, elem := (24), st := 0 })] q = some o → getH h' q = some o) ∧ m' ≥ n' + 6 ∧ (b = false → s2 = s' ∧ NoImp ss d.1 0 (vl xs)) ∧ (b = true → ∃ i j : Nat, i < ss.length ∧ (ss.getD i default).1.1 = 0 ∧ j < (ss.getD i default).2.2.length ∧ btr 0 (yl d.1 (ch ss i j) (vl xs)) (vl xs i) ∧ s2 = s'.set i (j : Int))) J Tryz.func97 J J (dH J) J ((lT (n' + 6) [((0 + 3 + 4), { cells := [.ref (0 + 3 + 3) 1 0 ss.length], sz := 1, elem := (33), st := 0 }), ((0 + 3 + 3), { cells := ((s').map ic).flatten, sz := 1, elem := (3), st := 0 }), ((0 + 1), { cells := xc (d), sz := 4, elem := (102), st := 0 }), (0, { cells := [.sl k (ss.map stc)], sz := 1, elem := (24), st := 0 })] k 1 ss d xs s' 0 (0 + 3 + 3) ⟨gG, gG, gG, gG, trivial⟩ (four_lt om om om om) gG hV hd hxl (fU hs') 268435456 (by decide) (by decide) hxb).mono (by
  rintro x e h n' ⟨hx, h1, (⟨hr, hni, h2⟩ | ⟨i, j, hr, hi, ho, hj, hb, hq, h2⟩)⟩
  ·exact ⟨hx, _, hr, false, s', rfl, h2, h1, fun _ => ⟨rfl, hni⟩, fun h => by cases h⟩
  ·exact ⟨hx, _, hr, true, _, rfl, four_set hq (fun q o hq => h2 q o hq) om om om, h1, fun h => (by cases h), fun _ => ⟨i, j, hi, ho, hj, hb, rfl⟩⟩)) ?_
 rintro r' h' m' ⟨b, s2, rfl, hH, hm', hbF, hbT⟩
 refine nX [((0 + 3 + 4), { cells := [.ref (0 + 3 + 3) 1 0 ss.length], sz := 1, elem := (33), st := 0 }), ((0 + 3 + 3), { cells := ((s2).map ic).flatten, sz := 1, elem := (3), st := 0 }), ((0 + 1), { cells := xc (d), sz := 4, elem := (102), st := 0 }), (0, { cells := [.sl k (ss.map stc)], sz := 1, elem := (24), st := 0 })] ⟨hH _ _ gG, hH _ _ gG, hH _ _ gG, hH _ _ gG, trivial⟩ ?_
 refine WN.B (fun h19 => ?_) (fun h19 => ?_)
 ·refine gS (dO J) J <| nF <| bV J <| cC <| cK <| aD ?_
  obtain ⟨i, j, hi, ho, hj, hb, rfl⟩ := hbT h19
  unfold btr at hb
  rw [if_neg (by decide)] at hb
  refine ⟨⟨s'.set i (j : Int), μ s'⟩, ⟨J, J, J, J, trivial⟩, ⟨gG, gG, gG, gG, trivial⟩, ⟨vSt_set hs' hj, fun s2 u h1 h2 h3 h4 => ?_, om⟩, hfu s' _ hs' hwv hn1 hsame⟩
  obtain ⟨h5, h6⟩ := imp0 hD hs' h1 hi om hj hwv hn1 hb h4 h2
  exact hμ _ _ _ _ i h1 hs' h2 hwv h5 hi h6
 refine gS (dO J) J <| nF <| bT J <| Rg 2 J <| Um J J <| Ua J J <| Nk [4] J <| aQ <| eF <| bJ <| eF ?_
 obtain ⟨rfl, hn0⟩ := hbF h19
 exact ⟨.sl 1 (xs.map xc), ⟨s2, xs, rfl, hs', hxl, hwv, val_of (fun x hx => by have := hV1.own x hx; omega) hs' hwv hn0 hn1, hxb⟩, post (n := 0) (.inr J) J J (.sl _ _ fun row hr => bN dxc row hr)⟩
end Go.Proofs.YtahljdjhhapngaaGreat
namespace Go.Proofs.YtahljdjhhapngaaGreat
open Go.Ab Go.RowKit
theorem nG {ns : List NM} (h : (ns.any fun a => !vn a) = false) : ns.all vn = true := by
 rw [← any_not, h]; rfl
theorem xyl_v' {x : Go.Ab.ST} {d : X} {vx : List X} {k : Nat} : (xyl (x.2.2.getD k default) d vx).1 = ysF x d.1 (vl vx) k := xyl_v _ _ _
theorem e86 {h : Hp} {q : Nat} {a b : Ob} (h1 : getH h q = some a) (h2 : a = b) : getH h q = some b := by rw [h1, h2]
theorem best_run (x : Go.Ab.ST) (d : X) (kv : Nat) (vx : List X) (n0 : Nat) (hcs : 1 ≤ x.2.2.length ∧ x.2.2.length ≤ 8) (hvb : ∀ c, c ∈ x.2.2 → VN c.1 ∧ VB n0 c.2.2) (hd : Bd 2 d.1) (hl : vx.length = n0) (β : Nat) (h1β : 1 ≤ β) (hβ : β ≤ 2147483648) (hv : ∀ x, x ∈ vx → Bd β x.1) : Run Tryz.prog T E0 (.call 62 [.agg (stc x), lvX d, .sl kv (vx.map xc)] (.tup [lvX (xyl (x.2.2.getD (bsK x d.1 (vl vx)) default) d vx), .v (.int .i64 ((bsK x d.1 (vl vx) : Nat) : Int))])) := by
 refine bF Tryz.func62 J J (dH J) <| Rg 4 J <| aY (dK J J) J <| aY (dK J J) J <| aY (dQ J) J <| Ua J J <| Wn <| Rg 4 J <| aA (bC J J J J J) J <| aA (aM J J gG J J) J ?_
 refine aA (aK J (wants_run x.1.1) (bR (by intro c hc; simp only [List.mem_cons, List.not_mem_nil, or_false] at hc; rcases hc with rfl; exact .v _))) J <| Ua J J <| cL ?_
 have h0m := bE (us := x.2.2) (i := 0) om
 obtain ⟨hr0, hb0⟩ := hvb _ h0m
 refine bG (z := 10) J kR <| aC (bC J J J J J) J <| aC (aM J J gG J J) J ?_
 refine aC (bO (j := 0) J J J J J om J) J <| aC (dF (l := lvC (x.2.2.getD 0 default)) J J J) J <| aC (aM (l := lvX d) J J gG J J) J ?_
 refine Dm J J <| aC (aK J (qL (x.2.2.getD 0 default) d kv vx n0 hr0 hb0 hd hl β h1β hβ hv) (bR (by intro c hc; simp only [List.mem_cons, List.not_mem_nil, or_false] at hc; rcases hc with rfl | rfl | rfl; exact lQ; exact lQ; exact (.sl _ _ fun row hr => bN dxc row hr)))) J <| WD.S (dQ J) J <| cA (cE (cs' := xc (xyl (x.2.2.getD 0 default) d vx)) J J J g0 J J J J) <| aC (gP J) J <| bD (aP kR) J <| Ck [2,3,4,6,8,9,10] J <| aB <| Rg 4 J <| aA (bC J J J J J) J <| aA (aM J J gG J J) J ?_
 refine aA (bA J J) J <| Um J J <| Wn <| aJ <| aW (α := Nat) (fun i => [(2, .sl kv (vx.map xc)), (4, .ptr (0 + 1) 0), (6, .ptr (0 + 2) 0), (8, .fn (.func (if x.1.1 = 1 then 122 else 76)) [] []), (9, .ptr (0 + 4 + 4 + 7) 0), (10, .v (.int .i64 (((bkF x.1.1 (ysF x d.1 (vl vx)) i) : Nat) : Int))), (26, .sl x.2.1 (x.2.2.map chc)), (27, .v (.int .i64 (x.2.2.length : Int))), (28, .v (.int .i64 (i : Int)))]) (fun i => [((0 + 4 + 4 + 7), { cells := xc (xyl (x.2.2.getD (bkF x.1.1 (ysF x d.1 (vl vx)) i) default) d vx), sz := 4, elem := (102), st := 0 }), ((0 + 2), { cells := xc (x0), sz := 4, elem := (102), st := 0 }), ((0 + 1), { cells := xc (d), sz := 4, elem := (102), st := 0 })]) (fun i n => i ≤ x.2.2.length ∧ 20 ≤ n) (fun i => x.2.2.length - i) (0) ⟨J, J, J, J, J, J, J, J, J, trivial⟩ ⟨gG, gG, gG, trivial⟩ ⟨Nat.zero_le _, om⟩ ?_
 rintro i n hF
 change WC _ _ _ _ _ (_ :: _) (_ :: _) n _
 obtain ⟨hi, hn⟩ := hF
 refine Rg 1 J <| aA (bP J J) J <| aX (fun h29 => ?_) (fun h29 => ?_)
 rotate_left
 ·refine Wn <| aU J <| aV <| aR <| aO J <| Rg 4 J <| aA (aM (l := lvX (xyl (x.2.2.getD (bkF x.1.1 (ysF x d.1 (vl vx)) i) default) d vx)) J J gG J J) J ?_
  refine Um J J <| aZ (cE (cs' := xc (xyl (x.2.2.getD (bkF x.1.1 (ysF x d.1 (vl vx)) i) default) d vx)) J J J gG J J J J) ?_
  refine Ua J J <| Wn <| aQ ?_
  have hin : i = x.2.2.length := by omega
  subst hin
  refine post (n := 0) (.inr J) J J (.tup _ ?_)
  intro c hc
  simp only [List.mem_cons, List.not_mem_nil, or_false] at hc
  rcases hc with rfl | rfl
  ·exact lQ
  ·exact .v _
 refine Wn <| aT J <| aF <| aJ ?_
 have him := bE (us := x.2.2) (i := i) om
 obtain ⟨hri, hbi⟩ := hvb _ him
 have hyb := xyl_bd hri hbi hd h1β hv
 have hbl : (bkF x.1.1 (ysF x d.1 (vl vx)) i) < x.2.2.length := by
  rcases Nat.eq_zero_or_pos i with h | h
  ·rw [h]; show 0 < _; omega
  ·have := pI (p := x.1.1) (ys := (ysF x d.1 (vl vx))) i h; omega
 obtain ⟨hrb, hbb⟩ := hvb _ (bE (us := x.2.2) hbl)
 have hyb2 := xyl_bd hrb hbb hd h1β hv
 refine Rg 6 J <| Um J J <| aA (bO J J J J J om J) J <| aA (dF (l := lvC (x.2.2.getD i default)) J J J) J <| aY (dQ J) J <| Ua J J <| aZ (cE (cs' := chc (x.2.2.getD i default)) J J J g0 J J J J) <| Nk [2,4,6,8,9,10,11,12,26,27,28] J <| Rg 6 J <| aA (aM (l := lvC (x.2.2.getD i default)) J J gG J J) J ?_
 refine aA (aM (l := lvX d) J J gG J J) J ?_
 refine Um J J <| aA (aK J (qL (x.2.2.getD i default) d kv vx n0 hri hbi hd hl β h1β hβ hv) (bR (by intro c hc; simp only [List.mem_cons, List.not_mem_nil, or_false] at hc; rcases hc with rfl | rfl | rfl; exact lQ; exact lQ; exact (.sl _ _ fun row hr => bN dxc row hr)))) J <| aY (dQ J) J <| aZ (cE (cs' := xc (xyl (x.2.2.getD i default) d vx)) J J J g0 J J J J) <| Nk [2,4,6,8,9,10,11,13,26,27,28] J <| aB <| Rg 5 J <| Um J J <| aA (aM (l := lvX (xyl (x.2.2.getD i default) d vx)) J J gG J J) J ?_
 refine aA (aM (l := lvX (xyl (x.2.2.getD (bkF x.1.1 (ysF x d.1 (vl vx)) i) default) d vx)) J J gG J J) J ?_
 refine aA (oCallVD J J (cmpf_run x.1.1 (xyl (x.2.2.getD i default) d vx) (xyl (x.2.2.getD (bkF x.1.1 (ysF x d.1 (vl vx)) i) default) d vx) (hyb.mono om) (hyb2.mono om)) (data3 d0 (by intro c hc; simp only [List.mem_cons, List.not_mem_nil, or_false] at hc; rcases hc with rfl | rfl; exact lQ; exact lQ) d0)) J <| Ua J J <| Nk [2,4,6,8,9,10,11,13,14,26,27,28] J <| aJ <| aJ <| cJ <| aB <| aB <| Rg 3 J <| Um J J <| aA (eI J J) J <| aX (fun h43 => ?_) (fun h43 => ?_)
 ·refine Ua J J <| Nk [2,4,6,8,9,10,11,13,14,26,27,28,41] J <| aT J <| aV <| gB J <| aE <| aV <| lO J <| aO J <| aG (z := 2) J <| aA (cI (((i + 1 : Nat) : Int)) (aS J J om) om) J <| Um J J <| Wn <| aD ?_
  have eb : (bkF x.1.1 (ysF x d.1 (vl vx)) (i + 1)) = (bkF x.1.1 (ysF x d.1 (vl vx)) i) := by rw [show i = 0 by omega, bkF_one]; rfl
  refine ⟨i + 1, ⟨rfl, rfl, rfl, rfl, rfl, congrArg (fun z : Nat => some (LV.v (.int .i64 (z : Int)))) eb.symm, rfl, rfl, rfl, trivial⟩, ⟨e86 gG (by rw [eb]), gG, gG, trivial⟩, ⟨om, om⟩, by show x.2.2.length - (i + 1) < x.2.2.length - i; omega⟩
 refine Ua J J <| Nk [2,4,6,8,9,10,11,13,14,26,27,28,41] J <| aU J <| aF <| aB <| Rg 3 J <| Um J J <| aA (nO J J) J <| aX (fun h46 => ?_) (fun h46 => ?_)
 ·refine Ua J J <| Nk [2,4,6,8,9,10,11,13,26,27,28,44] J <| aT J <| aV <| gI J <| aO J <| aV <| lO J <| aO J <| aG (z := 2) J <| aA (cI (((i + 1 : Nat) : Int)) (aS J J om) om) J <| Um J J <| Wn <| aD ?_
  have eb : (bkF x.1.1 (ysF x d.1 (vl vx)) (i + 1)) = (bkF x.1.1 (ysF x d.1 (vl vx)) i) := nI fun hb => by have := pB.2 hb; rw [← xyl_v', ← xyl_v'] at this; omega
  refine ⟨i + 1, ⟨rfl, rfl, rfl, rfl, rfl, congrArg (fun z : Nat => some (LV.v (.int .i64 (z : Int)))) eb.symm, rfl, rfl, rfl, trivial⟩, ⟨e86 gG (by rw [eb]), gG, gG, trivial⟩, ⟨om, om⟩, by show x.2.2.length - (i + 1) < x.2.2.length - i; omega⟩
 refine Ua J J <| Nk [2,4,6,8,9,10,11,13,26,27,28,44] J <| aU J <| aF <| rF <| gI J <| lO J <| aO J <| aG (z := 4) J <| aA (aM (l := lvX (xyl (x.2.2.getD i default) d vx)) J J gG J J) J ?_
 refine Um J J <| aZ (cE (cs' := xc (xyl (x.2.2.getD i default) d vx)) J J J gG J J J J) ?_
 refine Ua J J <| Wn <| aE <| aG (z := 2) J <| aA (cI (((i + 1 : Nat) : Int)) (aS J J om) om) J <| Um J J <| Wn <| aD ?_
 have eb : (bkF x.1.1 (ysF x d.1 (vl vx)) (i + 1)) = i := oB (by have h7 : 0 < sgnF x.1.1 (xyl (x.2.2.getD i default) d vx).1 (xyl (x.2.2.getD (bkF x.1.1 (ysF x d.1 (vl vx)) i) default) d vx).1 := om; have h8 := pB.1 h7; rwa [xyl_v', xyl_v'] at h8)
 refine ⟨i + 1, ⟨rfl, rfl, rfl, rfl, rfl, congrArg (fun z : Nat => some (LV.v (.int .i64 (z : Int)))) eb.symm, rfl, rfl, rfl, trivial⟩, ⟨e86 gG (by rw [eb]), gG, gG, trivial⟩, ⟨om, om⟩, by show x.2.2.length - (i + 1) < x.2.2.length - i; omega⟩
theorem askv_run (a : NM) (h1 : I64 a.1) (h2 : I64 a.2) : Run Tryz.prog T E0 (.call 93 [lvM a] (.v (.bool (!vn a)))) := by
 refine bF Tryz.func93 J J (dH J) <| Rg 2 J <| aY (dK J J) J <| Ua J J <| Wn <| Rg 4 J <| aA (aM (l := lvM a) J J gG J J) J ?_
 refine aA (aK J (lF a h1 h2) dD) J <| aA (dO J) J <| Ua J J <| Wn <| aQ <| post (n := 0) (.inr J) J ?_ dD
 rfl
theorem dasked_run (k kn : Nat) (ss : List Go.Ab.ST) (f : NM) (ns : List NM) (hI : ∀ s, s ∈ ss → IS s) (hf1 : I64 f.1) (hf2 : I64 f.2) (hns : IV ns) (ln : ns.length < 1099511627776) : Run Tryz.prog T E0 (.call 58 [lvMo k ss, lvM f, .sl kn (ns.map mc)] (.v (.int .i64 (eD ss f ns)))) := by
 refine bF Tryz.func58 J J (dH J) <| Rg 3 J <| aY (dK J J) J <| aY (dK J J) J <| Ua J J <| Wn <| aJ <| Rg 13 J <| aA (aM (l := lvMo k ss) J J gG J J) J ?_
 refine aA (aK J (mvmodel_run k ss hI) dD) J <| eH (fun h9 => ?_) (fun h9 => ?_)
 rotate_left
 ·refine aA (dO J) J <| Um J J <| K1 J J <| K1 J J <| K1 J J <| aA (bH J J) J <| Um J J <| K1 J J <| K1 J J <| aA (bH J J) J <| Ua J J <| Nk [4,7] J <| bT J <| Rg 1 J <| Ua J J <| Wn <| aQ <| aN <| post (n := 0) (.inr J) J ?_ dD
  exact congrArg (fun z => LV.v (.int .i64 z)) (show 1 = (eD ss f ns) by unfold eD; rw [if_neg (fun h => by rw [h9] at h; cases h.1)])
 refine aA (dO J) J <| Um J J <| aI J (aM (l := lvM f) J J gG J J) J ?_
 refine aI J (aK J (lF f hf1 hf2) dD) J <| eH (fun h13 => ?_) (fun h13 => ?_)
 rotate_left
 ·refine aI J (dO J) J <| aA (bL J J) J <| Um J J <| K1 J J <| K1 J J <| aA (bH J J) J <| Ua J J <| Nk [4,7] J <| bT J <| Rg 1 J <| Ua J J <| Wn <| aQ <| aN <| post (n := 0) (.inr J) J ?_ dD
  exact congrArg (fun z => LV.v (.int .i64 z)) (show 1 = (eD ss f ns) by unfold eD; rw [if_neg (fun h => absurd h.2.1 (of_decide_eq_false h13))])
 refine aI J (dO J) J <| aA (bL J J) J <| Um J J <| aI J (eG J) J <| aI J (aK J (con1_run kn ns 93 [] (fun a => !vn a) d0 om (fun a ha => askv_run a (hns a ha).1 (hns a ha).2)) (bR (by intro c hc; simp only [List.mem_cons, List.not_mem_nil, or_false] at hc; rcases hc with rfl | rfl; exact (.sl _ _ fun row hr => bN dmc row hr); exact dfn d0 d0))) J <| eH (fun h18 => ?_) (fun h18 => ?_)
 ·refine aA (bL J J) J <| Ua J J <| Nk [4,7] J <| bT J <| Rg 1 J <| Ua J J <| Wn <| aQ <| aN <| post (n := 0) (.inr J) J ?_ dD
  exact congrArg (fun z => LV.v (.int .i64 z)) (show 1 = (eD ss f ns) by unfold eD; rw [if_neg (fun h => by have h7 := any_not vn ns; rw [h18, h.2.2] at h7; cases h7)])
 refine aA (bL J J) J <| Ua J J <| Nk [4,7] J <| bV J <| Rg 11 J <| aA (bC J J J J J) J <| aA (aM J J gG J J) J ?_
 refine aA (nO J J) J <| aX (fun h23 => ?_) (fun h23 => ?_)
 ·refine Um J J <| K1 J J <| K1 J J <| K1 J J <| K1 J J <| K1 J J <| aA (bH J J) J <| Ua J J <| Wn <| bT J <| Rg 1 J <| Ua J J <| Wn <| aQ <| aN <| post (n := 0) (.inr J) J ?_ dD
  exact congrArg (fun z => LV.v (.int .i64 z)) (show 6 = (eD ss f ns) by unfold eD; rw [if_pos ⟨h9, of_decide_eq_true h13, nG h18⟩, if_neg om])
 refine Um J J <| aI J (bC J J J J J) J <| aI J (aM J J gG J J) J ?_
 refine aI J (bC J J J J J) J <| aI J (aM J J gG J J) J ?_
 refine aI J (gW J J) J <| aX (fun h29 => ?_) (fun h29 => ?_)
 ·refine aA (bL J J) J <| Ua J J <| Wn <| bT J <| Rg 1 J <| Ua J J <| Wn <| aQ <| aN <| post (n := 0) (.inr J) J ?_ dD
  exact congrArg (fun z => LV.v (.int .i64 z)) (show 6 = (eD ss f ns) by unfold eD; rw [if_pos ⟨h9, of_decide_eq_true h13, nG h18⟩, if_neg om])
 refine aA (bL J J) J <| Ua J J <| Wn <| bV J <| cC <| aE <| Rg 1 J <| Ua J J <| Wn <| aQ <| post (n := 0) (.inr J) J ?_ dD
 exact congrArg (fun z => LV.v (.int .i64 z)) (show 0 = (eD ss f ns) by unfold eD; rw [if_pos ⟨h9, of_decide_eq_true h13, nG h18⟩, if_pos om])
end Go.Proofs.YtahljdjhhapngaaGreat
namespace Go.Proofs.YtahljdjhhapngaaGreat
open Go.Ab Go.RowKit
theorem qfactor_run (f : NM) : Run Tryz.prog T E0 (.call 23 [lvM f] (.v (.bool (decide (0 < f.1) && decide (f.1 < f.2))))) := by
 refine bF Tryz.func23 J J (dH J) <| Rg 2 J <| aY (dK J J) J <| Ua J J <| Wn <| Rg 11 J <| aA (bC J J J J J) J <| aA (aM J J gG J J) J ?_
 refine aA (dU J J) J <| aX (fun h5 => ?_) (fun h5 => ?_)
 ·refine Um J J <| aI J (bC J J J J J) J <| aI J (aM J J gG J J) J ?_
  refine aI J (bC J J J J J) J <| aI J (aM J J gG J J) J ?_
  refine aI J (bP J J) J <| aA (bH J J) J <| Ua J J <| Wn <| aQ <| post (n := 0) (.inr J) J ?_ dD
  exact congrArg (fun z => LV.v (.bool z)) (by simp; omega)
 refine Um J J <| K1 J J <| K1 J J <| K1 J J <| K1 J J <| K1 J J <| aA (bL J J) J <| Ua J J <| Wn <| aQ <| post (n := 0) (.inr J) J ?_ dD
 exact congrArg (fun z => LV.v (.bool z)) (show false = _ by rw [decide_eq_false om]; rfl)
theorem qmean_run (c : CH) (kv : Nat) (v : List Rat) (n0 : Nat) (hc : VB n0 c.2.2) (hl : v.length = n0) (β : Nat) (h1β : 1 ≤ β) (hβ : β ≤ 2147483648) (hv : ∀ x, x ∈ v → Bd β x) : Run Tryz.prog T E0 (.call 112 [lvC c, .sl kv (v.map qc)] (lvQ (mnF c.2.2 (fn_ v) c.2.2.length))) := by
 have hcl := hc.len
 refine bF Tryz.func112 J J (dH J) <| Rg 2 J <| aY (dK J J) J <| aY (dQ J) J <| Wn <| Rg 3 J <| aA (bM (b := lvQ 0) (aK J (fW 0 I64_0) dD) J) J <| aY (dQ J) J <| aZ (cE (cs' := qc 0) J J J g0 J J J J) <| Wn <| aB <| Rg 4 J <| aA (bC J J J J J) J <| aA (aM J J gG J J) J ?_
 refine aA (bA J J) J <| Um J J <| Wn <| aJ <| aW (α := Nat) (fun i => [(1, .sl kv (v.map qc)), (4, .ptr (0 + 1) 0), (5, .ptr (0 + 2 + 1) 0), (10, .sl c.2.1 (c.2.2.map brc)), (11, .v (.int .i64 (c.2.2.length : Int))), (12, .v (.int .i64 (i : Int)))]) (fun i => [((0 + 2 + 1), { cells := qc ((mnF c.2.2 (fn_ v) i)), sz := 6, elem := (39), st := 0 }), ((0 + 1), { cells := [.v (.int .i64 0), .v (.bool false), .sl 0 [], .v (.int .i64 0), .v (.bool false), .sl 0 []], sz := 6, elem := (39), st := 0 })]) (fun i n => i ≤ c.2.2.length ∧ 4 ≤ n) (fun i => c.2.2.length - i) (0) ⟨J, J, J, J, J, J, trivial⟩ ⟨gG, gG, trivial⟩ ⟨Nat.zero_le _, om⟩ ?_
 rintro i n hF
 change WC _ _ _ _ _ (_ :: _) (_ :: _) n _
 obtain ⟨hi, hn⟩ := hF
 refine Rg 1 J <| aA (bP J J) J <| aX (fun h13 => ?_) (fun h13 => ?_)
 rotate_left
 ·refine Wn <| aU J <| aV <| aR <| aO J <| Rg 2 J <| aA (aM (l := lvQ (mnF c.2.2 (fn_ v) i)) J J gG J J) J ?_
  refine aZ (cE (cs' := qc (mnF c.2.2 (fn_ v) i)) J J J gG J J J J) ?_
  refine Wn <| aQ ?_
  have hin : i = c.2.2.length := by omega
  rw [← hin]
  refine post (n := 0) (.inr J) J ?_ dD
  rfl
 refine Wn <| aT J <| aF <| aJ ?_
 have hto := hc.to i om
 have hvn := hc.vn i om
 have hm1 := mnF_bd hc h1β hv i hi
 have hm2 : i * (β + 3) ≤ 8 * (β + 3) := Nat.mul_le_mul_right _ om
 have hg := fn_bd h1β hv (c.2.2.getD i default).1.toNat
 refine Rg 4 J <| aA (bO J J J J J om J) J <| aA (dF (l := .agg (brc (c.2.2.getD i default))) J J J) J <| aY (dQ J) J <| aZ (cE (cs' := brc (c.2.2.getD i default)) J J J g0 J J J J) <| Wn <| cM (z := 12) J kR <| aC (aM (l := lvQ (mnF c.2.2 (fn_ v) i)) J J gG J J) J ?_
 refine aC (bC J J J J J) J <| aC (aM (l := lvM (c.2.2.getD i default).2) J J gG J J) J ?_
 refine aC (bM (b := lvQ (nq (c.2.2.getD i default).2)) (aK J (jV (c.2.2.getD i default).2 hvn.all3.1 hvn.all3.2.1 hvn) dD) J) J <| Dm J J <| aC (bC J J J J J) J <| aC (aM J J gG J J) J ?_
 refine aC (bO (j := (c.2.2.getD i default).1.toNat) J J J J om om J) J <| aC (dF (l := lvQ (fn_ v (c.2.2.getD i default).1.toNat)) J J J) J <| aC (aK J (mN (nq (c.2.2.getD i default).2) (fn_ v (c.2.2.getD i default).1.toNat) (hvn.bd.mono om) (hg.mono om)) dD) J <| aC (bM (b := lvQ (mnF c.2.2 (fn_ v) (i + 1))) (aK J (iY (mnF c.2.2 (fn_ v) i) (nq (c.2.2.getD i default).2 * fn_ v (c.2.2.getD i default).1.toNat) (hm1.mono om) ((hvn.bd.mul hg).mono om)) dD) J) J <| cA (cE (cs' := qc (mnF c.2.2 (fn_ v) (i + 1))) J J J gG J J J J) ?_
 refine bD (aP kR) J <| aE <| Ck [1,4,5,10,11,12] J <| aG (z := 2) J <| aA (cI (((i + 1 : Nat) : Int)) (aS J J om) om) J <| Um J J <| Wn <| aD <| ⟨i + 1, ⟨J, J, J, J, J, J, trivial⟩, ⟨gG, gG, trivial⟩, ⟨om, om⟩, by show c.2.2.length - (i + 1) < c.2.2.length - i; omega⟩
theorem qyield_run (c : CH) (d : Rat) (kv : Nat) (v : List Rat) (n0 : Nat) (hr : VN c.1) (hc : VB n0 c.2.2) (hd : Bd 2 d) (hl : v.length = n0) (β : Nat) (h1β : 1 ≤ β) (hβ : β ≤ 2147483648) (hv : ∀ x, x ∈ v → Bd β x) : Run Tryz.prog T E0 (.call 77 [lvC c, lvQ d, .sl kv (v.map qc)] (lvQ (yl d c (fn_ v)))) := by
 have hcl := hc.len
 have hm1 := mnF_bd hc h1β hv c.2.2.length (Nat.le_refl _)
 have hm2 : c.2.2.length * (β + 3) ≤ 8 * (β + 3) := Nat.mul_le_mul_right _ om
 refine bF Tryz.func77 J J (dH J) <| Rg 3 J <| aY (dK J J) J <| aY (dK J J) J <| aY (dQ J) J <| Wn <| bG (z := 10) J kR <| aC (bC J J J J J) J <| aC (aM (l := lvM c.1) J J gG J J) J ?_
 refine aC (bM (b := lvQ (nq c.1)) (aK J (jV c.1 hr.all3.1 hr.all3.2.1 hr) dD) J) J <| aC (aM (l := lvQ d) J J gG J J) J ?_
 refine aC (aM (l := lvC c) J J gG J J) J ?_
 refine Dm J J <| aC (bM (b := lvQ (mn c (fn_ v))) (aK J (qmean_run c kv v n0 hc hl β h1β hβ hv) (bR (by intro c hc; simp only [List.mem_cons, List.not_mem_nil, or_false] at hc; rcases hc with rfl | rfl; exact lQ; exact (.sl _ _ fun row hr => bN dqc row hr)))) J) J <| aC (aK J (mN d (mn c (fn_ v)) (hd.mono om) (hm1.mono om)) dD) J <| aC (bM (b := lvQ (yl d c (fn_ v))) (aK J (iY (nq c.1) (d * mn c (fn_ v)) (hr.bd.mono om) ((hd.mul hm1).mono om)) dD) J) J <| cA (cE (cs' := qc (yl d c (fn_ v))) J J J gG J J J J) ?_
 refine bD (aP kR) J <| Ck [6] J <| aQ <| post (n := 0) (.inr J) J ?_ dD
 rfl
theorem qpick_run (x : Go.Ab.ST) (d : Rat) (kv : Nat) (v : List Rat) (n0 : Nat) (hown : x.1.1 = 0 ∨ x.1.1 = 1) (hcs : 1 ≤ x.2.2.length ∧ x.2.2.length ≤ 8) (hvb : ∀ c, c ∈ x.2.2 → VN c.1 ∧ VB n0 c.2.2) (hd : Bd 2 d) (hl : v.length = n0) (β : Nat) (h1β : 1 ≤ β) (hβ : β ≤ 2147483648) (hv : ∀ x, x ∈ v → Bd β x) : Run Tryz.prog T E0 (.call 57 [.agg (stc x), lvQ d, .sl kv (v.map qc)] (.tup [.v (.int .i64 ((bsK x d (fn_ v) : Nat) : Int)), lvQ (bsV x d (fn_ v))])) := by
 refine bF Tryz.func57 J J (dH J) <| Rg 4 J <| aY (dK J J) J <| aY (dK J J) J <| Ua J J <| aY (dQ J) J <| cL ?_
 have h0m := bE (us := x.2.2) (i := 0) om
 obtain ⟨hr0, hb0⟩ := hvb _ h0m
 refine bG (z := 10) J kR <| aC (bC J J J J J) J <| aC (aM J J gG J J) J ?_
 refine aC (bO (j := 0) J J J J J om J) J <| aC (dF (l := lvC (x.2.2.getD 0 default)) J J J) J <| aC (aM (l := lvQ d) J J gG J J) J ?_
 refine Dm J J <| aC (bM (b := lvQ (ysF x d (fn_ v) 0)) (aK J (qyield_run (x.2.2.getD 0 default) d kv v n0 hr0 hb0 hd hl β h1β hβ hv) (bR (by intro c hc; simp only [List.mem_cons, List.not_mem_nil, or_false] at hc; rcases hc with rfl | rfl | rfl; exact lQ; exact lQ; exact (.sl _ _ fun row hr => bN dqc row hr)))) J) J <| WD.S (dQ J) J <| aC (gP J) J <| cA (cE (cs' := qc (ysF x d (fn_ v) 0)) J J J g0 J J J J) <| bD (aP kR) J <| Ck [2,3,4,7,8,9] J <| aB <| Rg 4 J <| aA (bC J J J J J) J <| aA (aM J J gG J J) J ?_
 refine aA (bA J J) J <| Um J J <| Wn <| aJ <| aW (α := Nat) (fun i => [(2, .sl kv (v.map qc)), (3, .ptr 0 0), (4, .ptr (0 + 1) 0), (7, .ptr (0 + 3) 0), (8, .v (.int .i64 (((bkF x.1.1 (ysF x d (fn_ v)) i) : Nat) : Int))), (9, .ptr (0 + 4 + 7) 0), (22, .sl x.2.1 (x.2.2.map chc)), (23, .v (.int .i64 (x.2.2.length : Int))), (24, .v (.int .i64 (i : Int)))]) (fun i => [((0 + 4 + 7), { cells := qc ((ysF x d (fn_ v) (bkF x.1.1 (ysF x d (fn_ v)) i))), sz := 6, elem := (39), st := 0 }), ((0 + 3), { cells := [.v (.int .i64 0), .v (.bool false), .sl 0 [], .v (.int .i64 0), .v (.bool false), .sl 0 []], sz := 6, elem := (39), st := 0 }), ((0 + 1), { cells := qc (d), sz := 6, elem := (39), st := 0 }), (0, { cells := stc x, sz := 3, elem := (54), st := 0 })]) (fun i n => i ≤ x.2.2.length ∧ 14 ≤ n) (fun i => x.2.2.length - i) (0) ⟨J, J, J, J, J, J, J, J, J, trivial⟩ ⟨gG, gG, gG, gG, trivial⟩ ⟨Nat.zero_le _, om⟩ ?_
 rintro i n hF
 change WC _ _ _ _ _ (_ :: _) (_ :: _) n _
 obtain ⟨hi, hn⟩ := hF
 refine Rg 1 J <| aA (bP J J) J <| aX (fun h25 => ?_) (fun h25 => ?_)
 rotate_left
 ·refine Wn <| aU J <| aV <| aR <| aO J <| bG (z := 4) J kR <| Dm J J <| aC (aM (l := lvQ (ysF x d (fn_ v) (bkF x.1.1 (ysF x d (fn_ v)) i))) J J gG J J) J ?_
  refine aC (gP J) J <| cA (cE (cs' := qc (ysF x d (fn_ v) (bkF x.1.1 (ysF x d (fn_ v)) i))) J J J gG J J J J) ?_
  refine bD (aP kR) J <| aQ ?_
  have hin : i = x.2.2.length := by omega
  subst hin
  refine post (n := 0) (.inr J) J J (dtup2 (.v _) lQ)
 refine Wn <| aT J <| aF <| aJ ?_
 have him := bE (us := x.2.2) (i := i) om
 obtain ⟨hri, hbi⟩ := hvb _ him
 have hyb := yl_bd hri hbi hd h1β hv
 have hbl : (bkF x.1.1 (ysF x d (fn_ v)) i) < x.2.2.length := by
  rcases Nat.eq_zero_or_pos i with h | h
  ·rw [h]; show 0 < _; omega
  ·have := pI (p := x.1.1) (ys := (ysF x d (fn_ v))) i h; omega
 obtain ⟨hrb, hbb⟩ := hvb _ (bE (us := x.2.2) hbl)
 have hyb2 := yl_bd hrb hbb hd h1β hv
 refine Rg 6 J <| Um J J <| aA (bO J J J J J om J) J <| aA (dF (l := lvC (x.2.2.getD i default)) J J J) J <| aY (dQ J) J <| Ua J J <| aZ (cE (cs' := chc (x.2.2.getD i default)) J J J g0 J J J J) <| Nk [2,3,4,7,8,9,10,11,22,23,24] J <| Rg 6 J <| aA (aM (l := lvC (x.2.2.getD i default)) J J gG J J) J ?_
 refine aA (aM (l := lvQ d) J J gG J J) J ?_
 refine Um J J <| aA (bM (b := lvQ (ysF x d (fn_ v) i)) (aK J (qyield_run (x.2.2.getD i default) d kv v n0 hri hbi hd hl β h1β hβ hv) (bR (by intro c hc; simp only [List.mem_cons, List.not_mem_nil, or_false] at hc; rcases hc with rfl | rfl | rfl; exact lQ; exact lQ; exact (.sl _ _ fun row hr => bN dqc row hr)))) J) J <| aY (dQ J) J <| aZ (cE (cs' := qc (ysF x d (fn_ v) i)) J J J g0 J J J J) <| Nk [2,3,4,7,8,9,10,12,22,23,24] J <| Rg 4 J <| aA (aM (l := lvQ (ysF x d (fn_ v) i)) J J gG J J) J ?_
 refine aA (aM (l := lvQ (ysF x d (fn_ v) (bkF x.1.1 (ysF x d (fn_ v)) i))) J J gG J J) J ?_
 refine aA (aK J (pZ (ysF x d (fn_ v) i) (ysF x d (fn_ v) (bkF x.1.1 (ysF x d (fn_ v)) i)) (hyb.mono om) (hyb2.mono om)) dD) J <| Ua J J <| Nk [2,3,4,7,8,9,10,12,13,22,23,24] J <| Rg 16 J <| aA (bC J J J J J) J <| aA (aM J J gG J J) J ?_
 refine aA (eI J J) J <| aX (fun h38 => ?_) (fun h38 => ?_)
 rotate_left
 ·refine Um J J <| K1 J J <| K1 J J <| aA (bL J J) J <| Um J J <| aI J (bC J J J J J) J <| aI J (aM J J gG J J) J ?_
  refine aI J (eI J J) J <| aX (fun h46 => ?_) (fun h46 => ?_)
  rotate_left
  ·refine aI J (eG J) J <| K1 J J <| K1 J J <| aI J (bL J J) J <| aA (bL J J) J <| Nk [2,3,4,7,8,9,10,12,22,23,24,40,41,44,45,46,47,48,49,50,51] J <| bV J <| cC <| aE <| Ck [2,3,4,7,8,9,22,23,24,40,41,44,45,46,47,48,49,50] J <| aG (z := 2) J <| aA (cI (((i + 1 : Nat) : Int)) (aS J J om) om) J <| Um J J <| Wn <| aD ?_
   have eb : (bkF x.1.1 (ysF x d (fn_ v)) (i + 1)) = (bkF x.1.1 (ysF x d (fn_ v)) i) := nI (not_btr (fun _ => by omega) (fun _ => by omega))
   refine ⟨i + 1, ⟨rfl, rfl, rfl, rfl, congrArg (fun z : Nat => some (LV.v (.int .i64 (z : Int)))) eb.symm, rfl, rfl, rfl, rfl, trivial⟩, ⟨e86 gG (by rw [eb]), gG, gG, gG, trivial⟩, ⟨om, om⟩, by show x.2.2.length - (i + 1) < x.2.2.length - i; omega⟩
  refine aI J (eG J) J <| aI J (eG J) J <| aI J (bP J J) J <| aX (fun h49 => ?_) (fun h49 => ?_)
  rotate_left
  ·refine aI J (bH J J) J <| aA (bL J J) J <| Nk [2,3,4,7,8,9,10,12,22,23,24,40,41,44,45,46,47,48,49,50,51] J <| bV J <| cC <| aE <| Ck [2,3,4,7,8,9,22,23,24,40,41,44,45,46,47,48,49,50] J <| aG (z := 2) J <| aA (cI (((i + 1 : Nat) : Int)) (aS J J om) om) J <| Um J J <| Wn <| aD ?_
   have eb : (bkF x.1.1 (ysF x d (fn_ v)) (i + 1)) = (bkF x.1.1 (ysF x d (fn_ v)) i) := nI (not_btr (fun _ => by omega) (fun _ => by omega))
   refine ⟨i + 1, ⟨rfl, rfl, rfl, rfl, congrArg (fun z : Nat => some (LV.v (.int .i64 (z : Int)))) eb.symm, rfl, rfl, rfl, rfl, trivial⟩, ⟨e86 gG (by rw [eb]), gG, gG, gG, trivial⟩, ⟨om, om⟩, by show x.2.2.length - (i + 1) < x.2.2.length - i; omega⟩
  refine aI J (bH J J) J <| aA (bL J J) J <| Nk [2,3,4,7,8,9,10,12,22,23,24,40,41,44,45,46,47,48,49,50,51] J <| bT J <| cM (z := 4) J kR <| Dm J J <| aC (aM (l := lvQ (ysF x d (fn_ v) i)) J J gG J J) J ?_
  refine aC (gP J) J <| cA (cE (cs' := qc (ysF x d (fn_ v) i)) J J J gG J J J J) ?_
  refine bD (aP kR) J <| aE <| Ck [2,3,4,7,8,9,22,23,24,40,41,44,45,46,47,48,49,50] J <| aG (z := 2) J <| aA (cI (((i + 1 : Nat) : Int)) (aS J J om) om) J <| Um J J <| Wn <| aD ?_
  have eb : (bkF x.1.1 (ysF x d (fn_ v)) (i + 1)) = i := oB ((btr_lt om).2 om)
  refine ⟨i + 1, ⟨rfl, rfl, rfl, rfl, congrArg (fun z : Nat => some (LV.v (.int .i64 (z : Int)))) eb.symm, rfl, rfl, rfl, rfl, trivial⟩, ⟨e86 gG (by rw [eb]), gG, gG, gG, trivial⟩, ⟨om, om⟩, by show x.2.2.length - (i + 1) < x.2.2.length - i; omega⟩
 refine Um J J <| aI J (eG J) J <| aI J (dU J J) J <| aX (fun h41 => ?_) (fun h41 => ?_)
 ·refine aA (bH J J) J <| Um J J <| K1 J J <| K1 J J <| K1 J J <| K1 J J <| K1 J J <| K1 J J <| K1 J J <| aA (bH J J) J <| Nk [2,3,4,7,8,9,10,12,22,23,24,40,41,44,45,46,47,48,49,50,51] J <| bT J <| cM (z := 4) J kR <| Dm J J <| aC (aM (l := lvQ (ysF x d (fn_ v) i)) J J gG J J) J ?_
  refine aC (gP J) J <| cA (cE (cs' := qc (ysF x d (fn_ v) i)) J J J gG J J J J) ?_
  refine bD (aP kR) J <| aE <| Ck [2,3,4,7,8,9,22,23,24,40,41,44,45,46,47,48,49,50] J <| aG (z := 2) J <| aA (cI (((i + 1 : Nat) : Int)) (aS J J om) om) J <| Um J J <| Wn <| aD ?_
  have eb : (bkF x.1.1 (ysF x d (fn_ v)) (i + 1)) = i := oB ((btr_gt om).2 om)
  refine ⟨i + 1, ⟨rfl, rfl, rfl, rfl, congrArg (fun z : Nat => some (LV.v (.int .i64 (z : Int)))) eb.symm, rfl, rfl, rfl, rfl, trivial⟩, ⟨e86 gG (by rw [eb]), gG, gG, gG, trivial⟩, ⟨om, om⟩, by show x.2.2.length - (i + 1) < x.2.2.length - i; omega⟩
 refine aA (bH J J) J <| Um J J <| aI J (bC J J J J J) J <| aI J (aM J J gG J J) J ?_
 refine aI J (eI J J) J <| aX (fun h46 => ?_) (fun h46 => ?_)
 rotate_left
 ·refine aI J (eG J) J <| K1 J J <| K1 J J <| aI J (bL J J) J <| aA (bL J J) J <| Nk [2,3,4,7,8,9,10,12,22,23,24,40,41,44,45,46,47,48,49,50,51] J <| bV J <| cC <| aE <| Ck [2,3,4,7,8,9,22,23,24,40,41,44,45,46,47,48,49,50] J <| aG (z := 2) J <| aA (cI (((i + 1 : Nat) : Int)) (aS J J om) om) J <| Um J J <| Wn <| aD ?_
  have eb : (bkF x.1.1 (ysF x d (fn_ v)) (i + 1)) = (bkF x.1.1 (ysF x d (fn_ v)) i) := nI (not_btr (fun _ => by omega) (fun _ => by omega))
  refine ⟨i + 1, ⟨rfl, rfl, rfl, rfl, congrArg (fun z : Nat => some (LV.v (.int .i64 (z : Int)))) eb.symm, rfl, rfl, rfl, rfl, trivial⟩, ⟨e86 gG (by rw [eb]), gG, gG, gG, trivial⟩, ⟨om, om⟩, by show x.2.2.length - (i + 1) < x.2.2.length - i; omega⟩
 refine aI J (eG J) J <| aI J (eG J) J <| aI J (bP J J) J <| aX (fun h49 => ?_) (fun h49 => ?_)
 rotate_left
 ·refine aI J (bH J J) J <| aA (bL J J) J <| Nk [2,3,4,7,8,9,10,12,22,23,24,40,41,44,45,46,47,48,49,50,51] J <| bV J <| cC <| aE <| Ck [2,3,4,7,8,9,22,23,24,40,41,44,45,46,47,48,49,50] J <| aG (z := 2) J <| aA (cI (((i + 1 : Nat) : Int)) (aS J J om) om) J <| Um J J <| Wn <| aD ?_
  have eb : (bkF x.1.1 (ysF x d (fn_ v)) (i + 1)) = (bkF x.1.1 (ysF x d (fn_ v)) i) := nI (not_btr (fun _ => by omega) (fun _ => by omega))
  refine ⟨i + 1, ⟨rfl, rfl, rfl, rfl, congrArg (fun z : Nat => some (LV.v (.int .i64 (z : Int)))) eb.symm, rfl, rfl, rfl, rfl, trivial⟩, ⟨e86 gG (by rw [eb]), gG, gG, gG, trivial⟩, ⟨om, om⟩, by show x.2.2.length - (i + 1) < x.2.2.length - i; omega⟩
 refine aI J (bH J J) J <| aA (bL J J) J <| Nk [2,3,4,7,8,9,10,12,22,23,24,40,41,44,45,46,47,48,49,50,51] J <| bT J <| cM (z := 4) J kR <| Dm J J <| aC (aM (l := lvQ (ysF x d (fn_ v) i)) J J gG J J) J ?_
 refine aC (gP J) J <| cA (cE (cs' := qc (ysF x d (fn_ v) i)) J J J gG J J J J) ?_
 refine bD (aP kR) J <| aE <| Ck [2,3,4,7,8,9,22,23,24,40,41,44,45,46,47,48,49,50] J <| aG (z := 2) J <| aA (cI (((i + 1 : Nat) : Int)) (aS J J om) om) J <| Um J J <| Wn <| aD ?_
 have eb : (bkF x.1.1 (ysF x d (fn_ v)) (i + 1)) = i := oB ((btr_lt om).2 om)
 refine ⟨i + 1, ⟨rfl, rfl, rfl, rfl, congrArg (fun z : Nat => some (LV.v (.int .i64 (z : Int)))) eb.symm, rfl, rfl, rfl, rfl, trivial⟩, ⟨e86 gG (by rw [eb]), gG, gG, gG, trivial⟩, ⟨om, om⟩, by show x.2.2.length - (i + 1) < x.2.2.length - i; omega⟩
theorem qasked_run (k kn : Nat) (ss : List Go.Ab.ST) (f : NM) (ns : List NM) (hI : ∀ s, s ∈ ss → IS s) (hf1 : I64 f.1) (hf2 : I64 f.2) (hns : IV ns) (ln : ns.length < 1099511627776) : Run Tryz.prog T E0 (.call 13 [lvMo k ss, lvM f, .sl kn (ns.map mc)] (.v (.int .i64 (eD ss f ns)))) := by
 refine bF Tryz.func13 J J (dH J) <| Rg 3 J <| aY (dK J J) J <| aY (dK J J) J <| Ua J J <| Wn <| aJ <| Rg 14 J <| aA (aM (l := lvMo k ss) J J (by repeat (first | exact g0 | refine g1 om ?_ | refine aL om ?_)) J J) J ?_
 refine aA (aK J (lY k ss hI) dD) J <| eH (fun h9 => ?_) (fun h9 => ?_)
 rotate_left
 ·refine aA (dO J) J <| Um J J <| K1 J J <| K1 J J <| K1 J J <| aA (bH J J) J <| Um J J <| K1 J J <| K1 J J <| K1 J J <| aA (bH J J) J <| Ua J J <| Nk [4,7] J <| bT J <| Rg 1 J <| Ua J J <| Wn <| aQ <| aN <| post (n := 0) (.inr J) J ?_ dD
  exact congrArg (fun z => LV.v (.int .i64 z)) (show 1 = (eD ss f ns) by unfold eD; rw [if_neg (fun h => by rw [h9] at h; cases h.1)])
 refine aA (dO J) J <| Um J J <| aI J (aM (l := lvM f) J J (by repeat (first | exact g0 | refine g1 om ?_ | refine aL om ?_)) J J) J ?_
 refine aI J (aK J (iI f hf1 hf2) dD) J <| eH (fun h13 => ?_) (fun h13 => ?_)
 rotate_left
 ·refine aI J (dO J) J <| aA (bL J J) J <| Um J J <| K1 J J <| K1 J J <| K1 J J <| aA (bH J J) J <| Ua J J <| Nk [4,7] J <| bT J <| Rg 1 J <| Ua J J <| Wn <| aQ <| aN <| post (n := 0) (.inr J) J ?_ dD
  exact congrArg (fun z => LV.v (.int .i64 z)) (show 1 = (eD ss f ns) by unfold eD; rw [if_neg (fun h => absurd h.2.1 (of_decide_eq_false h13))])
 refine aI J (dO J) J <| aA (bL J J) J <| Um J J <| aI J (eG J) J <| aI J (aK J (qall_run kn ns hns om) (bR (by intro c hc; rw [List.mem_singleton] at hc; subst hc; exact (.sl _ _ fun row hr => bN dmc row hr)))) J <| eH (fun h18 => ?_) (fun h18 => ?_)
 rotate_left
 ·refine aI J (dO J) J <| aA (bL J J) J <| Ua J J <| Nk [4,7] J <| bT J <| Rg 1 J <| Ua J J <| Wn <| aQ <| aN <| post (n := 0) (.inr J) J ?_ dD
  exact congrArg (fun z => LV.v (.int .i64 z)) (show 1 = (eD ss f ns) by unfold eD; rw [if_neg (fun h => by rw [h18] at h; cases h.2.2)])
 refine aI J (dO J) J <| aA (bL J J) J <| Ua J J <| Nk [4,7] J <| bV J <| Rg 4 J <| aA (aM (l := lvM f) J J (by repeat (first | exact g0 | refine g1 om ?_ | refine aL om ?_)) J J) J ?_
 refine aA (aK J (qfactor_run f) dD) J <| eH (fun h23 => ?_) (fun h23 => ?_)
 rotate_left
 ·refine aA (dO J) J <| Ua J J <| Wn <| bT J <| Rg 1 J <| Ua J J <| Wn <| aQ <| aN <| post (n := 0) (.inr J) J ?_ dD
  exact congrArg (fun z => LV.v (.int .i64 z)) (show 6 = (eD ss f ns) by unfold eD; rw [if_pos ⟨h9, of_decide_eq_true h13, h18⟩, if_neg (fun h => by rw [decide_eq_true h.1, decide_eq_true h.2] at h23; cases h23)])
 refine aA (dO J) J <| Ua J J <| Wn <| bV J <| cC <| aE <| Rg 1 J <| Ua J J <| Wn <| aQ <| post (n := 0) (.inr J) J ?_ dD
 exact congrArg (fun z => LV.v (.int .i64 z)) (show 0 = (eD ss f ns) by unfold eD; rw [if_pos ⟨h9, of_decide_eq_true h13, h18⟩, if_pos (by simpa using h23)])
theorem qis_run (k kv : Nat) (ss : List Go.Ab.ST) (d : Rat) (v : List Rat) (hV : VMo ss = true) (hd : Bd 2 d) (hl : v.length = ss.length) (β : Nat) (h1β : 1 ≤ β) (hβ : β ≤ 2147483648) (hv : ∀ x, x ∈ v → Bd β x) : Run Tryz.prog T E0 (.call 43 [lvMo k ss, lvQ d, .sl kv (v.map qc)] (.v (.bool (isV ss d (fn_ v))))) := by
 have hV1 := jF hV
 have hn40 := hV1.wt.len
 refine bF Tryz.func43 J J (dH J) <| Rg 3 J <| aY (dK J J) J <| aY (dK J J) J <| Ua J J <| Wn <| aB <| Rg 4 J <| aA (bC J J J J J) J <| aA (aM J J gG J J) J ?_
 refine aA (bA J J) J <| Um J J <| Wn <| aJ <| aW (α := Nat) (fun i => [(2, .sl kv (v.map qc)), (4, .ptr (0 + 1) 0), (12, .sl k (ss.map stc)), (13, .v (.int .i64 (ss.length : Int))), (14, .v (.int .i64 (i : Int)))]) (fun i => [((0 + 1), { cells := qc (d), sz := 6, elem := (39), st := 0 })]) (fun i n => i ≤ ss.length ∧ (∀ a, a < i → (fun a : Nat => decide (bsV (ss.getD a default) d (fn_ v) = fn_ v a)) a = true) ∧ 2 < n) (fun i => ss.length - i) (0) ⟨J, J, J, J, J, trivial⟩ ⟨gG, trivial⟩ ⟨Nat.zero_le _, fun a ha => absurd ha om, om⟩ ?_
 rintro i n hF
 change WC _ _ _ _ _ (_ :: _) (_ :: _) n _
 obtain ⟨hi, hA, hn⟩ := hF
 refine Rg 1 J <| aA (bP J J) J <| aX (fun h15 => ?_) (fun h15 => ?_)
 rotate_left
 ·refine Wn <| aU J <| aV <| aR <| aO J <| Rg 1 J <| Ua J J <| Wn <| aQ <| post (n := 0) (.inr J) J ?_ dD
  exact congrArg (fun z => LV.v (.bool z)) (show true = isV ss d (fn_ v) by unfold isV; rw [range_take hA om])
 refine Wn <| aT J <| aF <| aJ ?_
 have hm := bE (us := ss) (i := i) om
 have hcl := hV1.cs _ hm
 have how := hV1.own _ hm
 refine Rg 6 J <| Um J J <| aA (bO J J J J J om J) J <| aA (dF (l := .agg (stc (ss.getD i default))) J J J) J <| aY (dQ J) J <| Ua J J <| aZ (cE (cs' := stc (ss.getD i default)) J J J g0 J J J J) <| Wn <| Rg 10 J <| aA (aM (l := .agg (stc (ss.getD i default))) J J gG J J) J ?_
 refine aA (aM (l := lvQ d) J J gG J J) J ?_
 refine Um J J <| aA (aK J (qpick_run (ss.getD i default) d kv v ss.length om hcl (fun c hc => kN hV hm hc) hd hl β h1β hβ hv) (bR (by intro c hc; simp only [List.mem_cons, List.not_mem_nil, or_false] at hc; rcases hc with rfl | rfl | rfl; exact (.agg _ fun c hc => dstc1 _ c hc); exact lQ; exact (.sl _ _ fun row hr => bN dqc row hr)))) J <| Um J J <| aA (dN J J) J <| aA (dN J J) J <| aY (dQ J) J <| Ua J J <| aZ (cE (cs' := qc (bsV (ss.getD i default) d (fn_ v))) J J J g0 J J J J) <| Nk [2,4,7,10,12,13,14] J ?_
 have hbk := bsK_lt (d := d) (v := fn_ v) (x := (ss.getD i default)) om
 obtain ⟨hrb, hvbb⟩ := kN hV hm (bE (us := (ss.getD i default).2.2) hbk)
 have hyb : Bd _ (bsV (ss.getD i default) d (fn_ v)) := yl_bd hrb hvbb hd h1β hv
 have hgb := fn_bd h1β hv i
 refine bG (z := 7) J kR <| aC (aM (l := lvQ (bsV (ss.getD i default) d (fn_ v))) J J gG J J) J ?_
 refine Dm J J <| Dm J J <| aC (bO (j := i) J J J J om om J) J <| aC (dF (l := lvQ (fn_ v i)) J J J) J <| aC (aK J (pZ (bsV (ss.getD i default) d (fn_ v)) (fn_ v i) (hyb.mono om) (hgb.mono om)) dD) J <| aC (fP J J) J <| kO (fun h32 => ?_) (fun h32 => ?_)
 ·refine bD (aP kR) J <| bT J <| Rg 1 J <| Ua J J <| Nk [6] J <| aQ <| aN <| bJ <| aN <| post (n := 0) (.inr J) J ?_ dD
  exact congrArg (fun z => LV.v (.bool z)) (show false = isV ss d (fn_ v) by unfold isV; rw [oY (i := i) om (decide_eq_false (fun e => h32 (by rw [sign_num0, e])))])
 refine bD (aP kR) J <| bV J <| cC <| aE <| aG (z := 2) J <| aA (cI (((i + 1 : Nat) : Int)) (aS J J om) om) J <| Um J J <| Wn <| aD <| ⟨i + 1, ⟨J, J, J, J, J, trivial⟩, ⟨gG, trivial⟩, ⟨om, fun a ha => ?_, om⟩, by show ss.length - (i + 1) < ss.length - i; omega⟩
 by_cases e : a = i
 ·rw [e]; exact decide_eq_true (by have h57 := Classical.not_not.1 h32; rw [sign_num0] at h57; exact h57)
 ·exact hA a om
end Go.Proofs.YtahljdjhhapngaaGreat
namespace Go.Proofs.YtahljdjhhapngaaGreat
open Go.Ab Go.RowKit
theorem nN (k : Nat) (ss : List Go.Ab.ST) (f : NM) (hI : ∀ s, s ∈ ss → IS s) (hf1 : I64 f.1) (hf2 : I64 f.2) : Run Tryz.prog T E0 (.call 18 [lvMo k ss, lvM f] (dbO ss f)) := by
 refine bF Tryz.func18 J J (dH J) <| Rg 5 J <| aY (dK J J) J <| aY (dK J J) J <| Ua J J <| Ua J J <| Ua J J <| Wn <| aB <| Rg 4 J <| aA (aM (l := lvMo k ss) J J gG J J) J ?_
 refine aA (aM (l := lvM f) J J gG J J) J ?_
 refine aA (aK J (dasked_run k 0 ss f [] hI hf1 hf2 (by intro a ha; cases ha) (by decide)) (bR (by intro c hc; simp only [List.mem_cons, List.not_mem_nil, or_false] at hc; rcases hc with rfl | rfl | rfl; exact lQ; exact lQ; exact (.sl 0 [] (by simp))))) J <| Ua J J <| Wn <| aB <| Rg 2 J <| Um J J <| aA (fP J J) J <| aX (fun h19 => ?_) (fun h19 => ?_)
 ·refine Wn <| aT J <| aB <| Rg 4 J <| Um J J <| Ua J J <| Ua J J <| Ua J J <| Wn <| bB <| post (n := 0) (.inr J) J ?_ dbO_data
  show _ = dbO ss f
  unfold dbO; rw [if_neg h19]; rfl
 refine Wn <| aU J <| aF ?_
 have h0 := Classical.not_not.1 h19
 obtain ⟨hV, hvf, hall, hf0, hf3⟩ := eD_ok h0
 have hV1 := jF hV
 have hn40 := hV1.wt.len
 have hd01 := fac01 hvf hf0 hf3
 have hD := jZ hV hd01.1 hd01.2
 obtain ⟨_, hvr, st, xs, rfl, hst, hxl, hwv, hval, hxb⟩ := values_run k ss (nx f) hV hvf.bd hd01.1 hd01.2
 have hve : vals ss (nq f) = xs.map (·.1) := pG hD (by rw [List.length_map]; exact hxl) hval
 have hvv : vl xs = fn_ (vals ss (nq f)) := by rw [hve]; rfl
 refine Rg 4 J <| aA (aM (l := lvM f) J J gG J J) J ?_
 refine aA (bM (b := lvX (nx f)) (aK J (iJ f hf1 hf2 hvf.all3.2.2) dD) J) J <| aY (dQ J) J <| aZ (cE (cs' := xc (nx f)) J J J g0 J J J J) <| Nk [2,8] J <| Rg 4 J <| aA (aM (l := lvMo k ss) J J gG J J) J ?_
 refine aA (aM (l := lvX (nx f)) J J gG J J) J ?_
 refine aA (aK J (hvr) dD) J <| Ua J J <| cL ?_
 obtain ⟨oo, hoo⟩ : ∃ oo, (xs.mapM fun x => outN x.1) = oo := ⟨_, rfl⟩
 have hmo : (vals ss (nq f)).mapM outN = oo := by rw [hve, mapM_map']; exact hoo
 refine Rg 7 J <| Um J J <| aA (bM (b := .tup [.sl (kd (oo.getD []).length) ((oo.getD []).map mc), .v (.int .i64 (if oo.isSome = true then 0 else 3))]) (aK J (nouts_run 1 xs om) (bR (by intro c hc; rw [List.mem_singleton] at hc; subst hc; exact (.sl _ _ fun row hr => bN dxc row hr)))) (by rw [← hoo]; rfl)) J <| Um J J <| aA (dN J J) J <| aA (dN J J) J <| Ua J J <| Ua J J <| Wn <| aB <| Rg 2 J <| Um J J <| aA (fP J J) J <| aX (fun h32 => ?_) (fun h32 => ?_)
 ·refine Nk [2,8,9,10,11,32] J <| aT J <| aB <| Rg 4 J <| Um J J <| Ua J J <| Ua J J <| Ua J J <| Wn <| bB <| post (n := 0) (.inr J) J ?_ dbO_data
  show _ = dbO ss f
  cases oo with
  | some o => exact absurd rfl h32
  | none => unfold dbO; rw [if_pos h0, nH hmo]; rfl
 refine Nk [2,8,9,10,11,32] J <| aU J <| aF ?_
 obtain ⟨o, rfl⟩ : ∃ o, oo = some o := by
  cases oo with
  | none => exact absurd (by decide) h32
  | some o => exact ⟨o, rfl⟩
 refine Rg 4 J <| Um J J <| aA (cI ((ss.length : Int)) (bA J J) om) J <| aY (oMk (a := ss.length) (b := ss.length) J J J J om om (by decide) om (by show 8 * ss.length ≤ _; omega) om) J <| Ua J J <| Wn <| aB <| Rg 4 J <| aA (bC J J J J J) J <| aA (aM J J gG J J) J ?_
 refine aA (bA J J) J <| Um J J <| Wn <| aJ <| aW (α := Nat) (fun i => [(8, .ptr (0 + 5 + 4 + 2 + 2) 0), (9, .sl 1 (xs.map xc)), (10, .sl (kd o.length) (o.map mc)), (12, .ref (0 + 5 + 4 + 2 + 4 + 4 + 7 + 2 + 2) 1 0 ss.length), (38, .sl k (ss.map stc)), (39, .v (.int .i64 (ss.length : Int))), (40, .v (.int .i64 (i : Int)))]) (fun i => [((0 + 5 + 4 + 2 + 4 + 4 + 7 + 2 + 2), { cells := ((tab ss.length (mixf (fun _ => (0 : Int)) (fun s : Nat => ((bsK (ss.getD s default) (nq f) (fn_ (vals ss (nq f))) : Nat) : Int)) i)).map ic).flatten, sz := 1, elem := (3), st := 0 }), ((0 + 5 + 4 + 2 + 2), { cells := xc (nx f), sz := 4, elem := (102), st := 0 })]) (fun i n => i ≤ ss.length ∧ 32 < n) (fun i => ss.length - i) (0) ⟨J, J, J, J, J, J, J, trivial⟩ ⟨e86 gG (by exact tab_repiF fun s => by rw [mixf_zero]), gG, trivial⟩ ⟨Nat.zero_le _, om⟩ ?_
 rintro i n hF
 change WC _ _ _ _ _ (_ :: _) (_ :: _) n _
 obtain ⟨hi, hn⟩ := hF
 refine Rg 1 J <| aA (bP J J) J <| aX (fun h41 => ?_) (fun h41 => ?_)
 rotate_left
 ·refine Wn <| aU J <| aV <| aR <| aO J <| Rg 5 J <| Um J J <| Um J J <| Ua J J <| Ua J J <| Ua J J <| Wn <| aQ ?_
  have hin : i = ss.length := by omega
  have ee : tab ss.length (mixf (fun _ => (0 : Int)) (fun s : Nat => ((bsK (ss.getD s default) (nq f) (fn_ (vals ss (nq f))) : Nat) : Int)) i) = tab ss.length (fun s : Nat => ((bsK (ss.getD s default) (nq f) (fn_ (vals ss (nq f))) : Nat) : Int)) := tab_eq fun s hs => by unfold mixf; rw [if_pos om]
  rw [show dbO ss f = .tup [.sl (kd o.length) (o.map mc), .sl 1 ((tab ss.length (mixf (fun _ => (0 : Int)) (fun s : Nat => ((bsK (ss.getD s default) (nq f) (fn_ (vals ss (nq f))) : Nat) : Int)) i)).map ic), .v (.int .i64 0)] by unfold dbO; rw [if_pos h0, jG hmo, ee]]
  exact jW (n := 0) [((0 + 5 + 4 + 2 + 4 + 4 + 7 + 2 + 2), { cells := ((tab ss.length (mixf (fun _ => (0 : Int)) (fun s : Nat => ((bsK (ss.getD s default) (nq f) (fn_ (vals ss (nq f))) : Nat) : Int)) i)).map ic).flatten, sz := 1, elem := (3), st := 1 })] (.inr J) J (.data (.sl _ _ (bN dmc)) (.own ((tab ss.length (mixf (fun _ => (0 : Int)) (fun s : Nat => ((bsK (ss.getD s default) (nq f) (fn_ (vals ss (nq f))) : Nat) : Int)) i)).map ic) (by rw [List.length_map, iT]) gG (by show (0 : Nat) ≠ 2; decide) J (by decide) (by simp [keys]) J rows_ic (bN dic1) (.data (.v _) .nil))) (by intro p hp; rw [List.mem_singleton] at hp; subst hp; exact ⟨_, gG, by show (0 : Nat) ≠ 2; decide, rfl⟩)
 refine Wn <| aT J <| aF <| aJ ?_
 have hm := bE (us := ss) (i := i) om
 have hcl := hV1.cs _ hm
 refine Rg 6 J <| Um J J <| aA (bO J J J J J om J) J <| aA (dF (l := .agg (stc (ss.getD i default))) J J J) J <| aY (dQ J) J <| Ua J J <| aZ (cE (cs' := stc (ss.getD i default)) J J J g0 J J J J) <| Wn <| aG (z := 11) J <| Um J J <| Um J J <| aA (aM (l := .agg (stc (ss.getD i default))) J J gG J J) J ?_
 refine aA (aM (l := lvX (nx f)) J J gG J J) J ?_
 refine Um J J <| aA (aK J (best_run (ss.getD i default) (nx f) 1 xs ss.length hcl (fun c hc => kN hV hm hc) hvf.bd hxl 268435456 (by decide) (by decide) hxb) (bR (by intro c hc; simp only [List.mem_cons, List.not_mem_nil, or_false] at hc; rcases hc with rfl | rfl | rfl; exact (.agg _ fun c hc => dstc1 _ c hc); exact lQ; exact (.sl _ _ fun row hr => bN dxc row hr)))) J <| Um J J <| aA (dN J J) J <| aA (bM (b := .v (.int .i64 ((fun s : Nat => ((bsK (ss.getD s default) (nq f) (fn_ (vals ss (nq f))) : Nat) : Int)) i))) (dN J J) (congrArg (fun z => LV.v (.int .i64 ((bsK (ss.getD i default) (nq f) z : Nat) : Int))) hvv)) J <| aA (cB (j := i) J J J J om om J) J <| aZ (oStTi J J J gG om J) ?_
 refine Wn <| aE <| Ck [8,9,10,12,38,39,40] J <| aG (z := 2) J <| aA (cI (((i + 1 : Nat) : Int)) (aS J J om) om) J <| Um J J <| Wn <| aD <| ⟨i + 1, ⟨J, J, J, J, J, J, J, trivial⟩, ⟨e86 gG (congrArg (fun z => Ob.mk ((tab ss.length z).map ic).flatten 1 3 0) mixf_set.symm), gG, trivial⟩, ⟨om, om⟩, by show ss.length - (i + 1) < ss.length - i; omega⟩
theorem qfew6_run (k : Nat) (ss : List Go.Ab.ST) : Run Tryz.prog T E0 (.call 40 [.v (.int .i64 6), lvMo k ss] (.v (.bool (few6 ss)))) := by
 refine bF Tryz.func40 J J (dH J) <| Rg 2 J <| aY (dK J J) J <| Ua J J <| Wn <| aB <| Rg 17 J <| aA (bC J J J J J) J <| aA (aM J J gG J J) J ?_
 refine aA (bA J J) J <| Um J J <| aA (dU J J) J <| aX (fun h13 => ?_) (fun h13 => ?_)
 rotate_left
 ·refine Um J J <| K1 J J <| K1 J J <| K1 J J <| K1 J J <| aA (bL J J) J <| Um J J <| aI J (bC J J J J J) J <| aI J (aM J J gG J J) J ?_
  refine aI J (bA J J) J <| aI J (dU J J) J <| aX (fun h24 => ?_) (fun h24 => ?_)
  ·refine aA (bL J J) J <| Nk [3,25] J <| aT J <| aB <| Rg 1 J <| Ua J J <| Wn <| bB <| post (n := 0) (.inr J) J ?_ dD
   exact congrArg (fun z => LV.v (.bool z)) (show false = few6 ss by unfold few6 fewM; rw [decide_eq_false (show ¬ ss.length ≤ 45 by omega), Bool.false_and, Bool.and_false])
  refine aA (bL J J) J <| Nk [3,25] J <| aU J <| aF <| aB ?_
  have h6 : (!(decide (6 < ss.length) && decide (ss.length ≤ 40))) = true := by first | (rw [decide_eq_false (show ¬ 6 < ss.length by omega)]; rfl) | (rw [decide_eq_false (show ¬ ss.length ≤ 40 by omega), Bool.and_false]; rfl)
  refine Rg 4 J <| aA (bC J J J J J) J <| aA (aM J J gG J J) J ?_
  refine aA (bA J J) J <| Um J J <| Wn <| aJ <| aW (α := Nat) (fun i => [(27, .sl k (ss.map stc)), (28, .v (.int .i64 (ss.length : Int))), (29, .v (.int .i64 (i : Int)))]) (fun i => []) (fun i n => i ≤ ss.length ∧ (ss.take i).all fewS = true) (fun i => ss.length - i) (0) ⟨J, J, J, trivial⟩ trivial ⟨Nat.zero_le _, by simp⟩ ?_
  rintro i n hF
  change WC _ _ _ _ _ (_ :: _) ([]) n _
  obtain ⟨hi, ha⟩ := hF
  refine Rg 1 J <| aA (bP J J) J <| aX (fun h30 => ?_) (fun h30 => ?_)
  rotate_left
  ·refine Wn <| aU J <| aV <| aR <| aO J <| Rg 1 J <| Ua J J <| Wn <| aQ <| post (n := 0) (.inr J) J ?_ dD
   exact congrArg (fun z => LV.v (.bool z)) (show true = few6 ss by unfold few6 fewM; rw [h6, decide_eq_true om, iO ha om]; rfl)
  refine Wn <| aT J <| aF <| aJ <| Rg 4 J <| aA (bO J J J J J om J) J <| aA (dF (l := .agg (stc (ss.getD i default))) J J J) J <| aY (dQ J) J <| aZ (cE (cs' := stc (ss.getD i default)) J J J g0 J J J J) <| Wn <| aB <| Rg 4 J <| aA (bC J J J J J) J <| aA (aM J J gG J J) J ?_
  refine aA (bA J J) J <| aA (dU J J) J <| aX (fun h36 => ?_) (fun h36 => ?_)
  ·refine Wn <| aT J <| aB <| Rg 1 J <| Ua J J <| Wn <| bB <| aN <| bJ <| aN <| post (n := 0) (.inr J) J ?_ dD
   exact congrArg (fun z => LV.v (.bool z)) (show false = few6 ss by unfold few6; rw [rL (i := i) om (fewS_no1 om), Bool.and_false])
  refine Wn <| aU J <| aF <| Rg 4 J <| aA (bC J J J J J) J <| aA (aM J J gG J J) J ?_
  refine aA (bA J J) J <| Um J J <| Nk [27,28,29,38,39,40] J <| cJ <| aW (α := Nat) (fun j => [(27, .sl k (ss.map stc)), (28, .v (.int .i64 (ss.length : Int))), (29, .v (.int .i64 (i : Int))), (38, .sl (ss.getD i default).2.1 ((ss.getD i default).2.2.map chc)), (39, .v (.int .i64 ((ss.getD i default).2.2.length : Int))), (40, .v (.int .i64 (j : Int)))]) (fun j => []) (fun j n => j ≤ (ss.getD i default).2.2.length ∧ ((ss.getD i default).2.2.take j).all fewC = true) (fun j => (ss.getD i default).2.2.length - j) (0) ⟨J, J, J, J, J, J, trivial⟩ trivial ⟨Nat.zero_le _, by simp⟩ ?_
  rintro j n hF
  change WC _ _ _ _ _ (_ :: _) ([]) n _
  obtain ⟨hj, hb⟩ := hF
  refine Rg 1 J <| aA (bP J J) J <| aX (fun h41 => ?_) (fun h41 => ?_)
  rotate_left
  ·refine Wn <| aU J <| aV <| aR <| gB J <| aE <| aG (z := 2) J <| aA (cI (((i + 1 : Nat) : Int)) (aS J J om) om) J <| Um J J <| Wn <| aD <| ⟨i + 1, ⟨J, J, J, trivial⟩, trivial, ⟨om, gL ha om (by unfold fewS; rw [decide_eq_true om, iO hb om]; rfl)⟩, by show ss.length - (i + 1) < ss.length - i; omega⟩
  refine Wn <| aT J <| aF <| aJ <| Rg 4 J <| aA (bO J J J J J om J) J <| aA (dF (l := lvC ((ss.getD i default).2.2.getD j default)) J J J) J <| aY (dQ J) J <| aZ (cE (cs' := chc ((ss.getD i default).2.2.getD j default)) J J J g0 J J J J) <| Wn <| Rg 4 J <| aA (bC J J J J J) J <| aA (aM J J gG J J) J ?_
  refine aA (bA J J) J <| aA (dU J J) J <| aX (fun h47 => ?_) (fun h47 => ?_)
  rotate_left
  ·refine Wn <| bV J <| cC <| aE <| aG (z := 2) J <| aA (cI (((j + 1 : Nat) : Int)) (aS J J om) om) J <| Um J J <| Wn <| aD <| ⟨j + 1, ⟨J, J, J, J, J, J, trivial⟩, trivial, ⟨om, gL hb om (decide_eq_true om)⟩, by show (ss.getD i default).2.2.length - (j + 1) < (ss.getD i default).2.2.length - j; omega⟩
  refine Wn <| bT J <| Rg 1 J <| Ua J J <| Nk [4] J <| aQ <| aN <| bJ <| eF <| aN <| bJ <| aN <| post (n := 0) (.inr J) J ?_ dD
  exact congrArg (fun z => LV.v (.bool z)) (show false = few6 ss by unfold few6; rw [rL (i := i) om (fewS_no2 (j := j) om om), Bool.and_false])
 refine Um J J <| aI J (bC J J J J J) J <| aI J (aM J J gG J J) J ?_
 refine aI J (bA J J) J <| aI J (nO J J) J <| aX (fun h18 => ?_) (fun h18 => ?_)
 ·refine aA (bH J J) J <| Um J J <| K1 J J <| K1 J J <| K1 J J <| K1 J J <| aA (bH J J) J <| Nk [3,25] J <| aT J <| aB <| Rg 1 J <| Ua J J <| Wn <| bB <| post (n := 0) (.inr J) J ?_ dD
  exact congrArg (fun z => LV.v (.bool z)) (show false = few6 ss by unfold few6; rw [decide_eq_true (show 6 < ss.length by omega), decide_eq_true (show ss.length ≤ 40 by omega)]; rfl)
 refine aA (bH J J) J <| Um J J <| aI J (bC J J J J J) J <| aI J (aM J J gG J J) J ?_
 refine aI J (bA J J) J <| aI J (dU J J) J <| aX (fun h24 => ?_) (fun h24 => ?_)
 ·refine aA (bL J J) J <| Nk [3,25] J <| aT J <| aB <| Rg 1 J <| Ua J J <| Wn <| bB <| post (n := 0) (.inr J) J ?_ dD
  exact congrArg (fun z => LV.v (.bool z)) (show false = few6 ss by unfold few6 fewM; rw [decide_eq_false (show ¬ ss.length ≤ 45 by omega), Bool.false_and, Bool.and_false])
 refine aA (bL J J) J <| Nk [3,25] J <| aU J <| aF <| aB ?_
 have h6 : (!(decide (6 < ss.length) && decide (ss.length ≤ 40))) = true := by first | (rw [decide_eq_false (show ¬ 6 < ss.length by omega)]; rfl) | (rw [decide_eq_false (show ¬ ss.length ≤ 40 by omega), Bool.and_false]; rfl)
 refine Rg 4 J <| aA (bC J J J J J) J <| aA (aM J J gG J J) J ?_
 refine aA (bA J J) J <| Um J J <| Wn <| aJ <| aW (α := Nat) (fun i => [(27, .sl k (ss.map stc)), (28, .v (.int .i64 (ss.length : Int))), (29, .v (.int .i64 (i : Int)))]) (fun i => []) (fun i n => i ≤ ss.length ∧ (ss.take i).all fewS = true) (fun i => ss.length - i) (0) ⟨J, J, J, trivial⟩ trivial ⟨Nat.zero_le _, by simp⟩ ?_
 rintro i n hF
 change WC _ _ _ _ _ (_ :: _) ([]) n _
 obtain ⟨hi, ha⟩ := hF
 refine Rg 1 J <| aA (bP J J) J <| aX (fun h30 => ?_) (fun h30 => ?_)
 rotate_left
 ·refine Wn <| aU J <| aV <| aR <| aO J <| Rg 1 J <| Ua J J <| Wn <| aQ <| post (n := 0) (.inr J) J ?_ dD
  exact congrArg (fun z => LV.v (.bool z)) (show true = few6 ss by unfold few6 fewM; rw [h6, decide_eq_true om, iO ha om]; rfl)
 refine Wn <| aT J <| aF <| aJ <| Rg 4 J <| aA (bO J J J J J om J) J <| aA (dF (l := .agg (stc (ss.getD i default))) J J J) J <| aY (dQ J) J <| aZ (cE (cs' := stc (ss.getD i default)) J J J g0 J J J J) <| Wn <| aB <| Rg 4 J <| aA (bC J J J J J) J <| aA (aM J J gG J J) J ?_
 refine aA (bA J J) J <| aA (dU J J) J <| aX (fun h36 => ?_) (fun h36 => ?_)
 ·refine Wn <| aT J <| aB <| Rg 1 J <| Ua J J <| Wn <| bB <| aN <| bJ <| aN <| post (n := 0) (.inr J) J ?_ dD
  exact congrArg (fun z => LV.v (.bool z)) (show false = few6 ss by unfold few6; rw [rL (i := i) om (fewS_no1 om), Bool.and_false])
 refine Wn <| aU J <| aF <| Rg 4 J <| aA (bC J J J J J) J <| aA (aM J J gG J J) J ?_
 refine aA (bA J J) J <| Um J J <| Nk [27,28,29,38,39,40] J <| cJ <| aW (α := Nat) (fun j => [(27, .sl k (ss.map stc)), (28, .v (.int .i64 (ss.length : Int))), (29, .v (.int .i64 (i : Int))), (38, .sl (ss.getD i default).2.1 ((ss.getD i default).2.2.map chc)), (39, .v (.int .i64 ((ss.getD i default).2.2.length : Int))), (40, .v (.int .i64 (j : Int)))]) (fun j => []) (fun j n => j ≤ (ss.getD i default).2.2.length ∧ ((ss.getD i default).2.2.take j).all fewC = true) (fun j => (ss.getD i default).2.2.length - j) (0) ⟨J, J, J, J, J, J, trivial⟩ trivial ⟨Nat.zero_le _, by simp⟩ ?_
 rintro j n hF
 change WC _ _ _ _ _ (_ :: _) ([]) n _
 obtain ⟨hj, hb⟩ := hF
 refine Rg 1 J <| aA (bP J J) J <| aX (fun h41 => ?_) (fun h41 => ?_)
 rotate_left
 ·refine Wn <| aU J <| aV <| aR <| gB J <| aE <| aG (z := 2) J <| aA (cI (((i + 1 : Nat) : Int)) (aS J J om) om) J <| Um J J <| Wn <| aD <| ⟨i + 1, ⟨J, J, J, trivial⟩, trivial, ⟨om, gL ha om (by unfold fewS; rw [decide_eq_true om, iO hb om]; rfl)⟩, by show ss.length - (i + 1) < ss.length - i; omega⟩
 refine Wn <| aT J <| aF <| aJ <| Rg 4 J <| aA (bO J J J J J om J) J <| aA (dF (l := lvC ((ss.getD i default).2.2.getD j default)) J J J) J <| aY (dQ J) J <| aZ (cE (cs' := chc ((ss.getD i default).2.2.getD j default)) J J J g0 J J J J) <| Wn <| Rg 4 J <| aA (bC J J J J J) J <| aA (aM J J gG J J) J ?_
 refine aA (bA J J) J <| aA (dU J J) J <| aX (fun h47 => ?_) (fun h47 => ?_)
 rotate_left
 ·refine Wn <| bV J <| cC <| aE <| aG (z := 2) J <| aA (cI (((j + 1 : Nat) : Int)) (aS J J om) om) J <| Um J J <| Wn <| aD <| ⟨j + 1, ⟨J, J, J, J, J, J, trivial⟩, trivial, ⟨om, gL hb om (decide_eq_true om)⟩, by show (ss.getD i default).2.2.length - (j + 1) < (ss.getD i default).2.2.length - j; omega⟩
 refine Wn <| bT J <| Rg 1 J <| Ua J J <| Nk [4] J <| aQ <| aN <| bJ <| eF <| aN <| bJ <| aN <| post (n := 0) (.inr J) J ?_ dD
 exact congrArg (fun z => LV.v (.bool z)) (show false = few6 ss by unfold few6; rw [rL (i := i) om (fewS_no2 (j := j) om om), Bool.and_false])
theorem dfew_run (k kl kn : Nat) (ss : List Go.Ab.ST) (l : List Int) (ns : List NM) : Run Tryz.prog T E0 (.call 10 [lvMo k ss, .sl kl (l.map ic), .sl kn (ns.map mc)] (.v (.bool (few6 ss && decide (l.length ≤ 60) && decide (ns.length ≤ 60))))) := by
 refine bF Tryz.func10 J J (dH J) <| Rg 2 J <| aY (dK J J) J <| Ua J J <| Wn <| Rg 13 J <| aA (aM (l := lvMo k ss) J J gG J J) J ?_
 refine aA (aK J (qfew6_run k ss) dD) J <| eH (fun h8 => ?_) (fun h8 => ?_)
 rotate_left
 ·refine Um J J <| K1 J J <| K1 J J <| K1 J J <| aA (bL J J) J <| Um J J <| K1 J J <| K1 J J <| K1 J J <| aA (bL J J) J <| Ua J J <| Nk [6] J <| aQ <| post (n := 0) (.inr J) J ?_ dD
  exact congrArg (fun z => LV.v (.bool z)) (show false = (few6 ss && decide (l.length ≤ 60) && decide (ns.length ≤ 60)) by rw [h8]; rfl)
 refine Um J J <| aI J (eG J) J <| aI J (bA J J) J <| aI J (nO J J) J <| aX (fun h12 => ?_) (fun h12 => ?_)
 ·refine aA (bH J J) J <| Um J J <| aI J (eG J) J <| aI J (bA J J) J <| aI J (nO J J) J <| aA (bH J J) J <| Ua J J <| Nk [6] J <| aQ <| post (n := 0) (.inr J) J ?_ dD
  exact congrArg (fun z => LV.v (.bool z)) (by first | (rw [h8, decide_eq_true (show l.length ≤ 60 by omega), decide_eq_true (show ns.length ≤ 60 by omega)]; rfl) | (rw [h8, decide_eq_true (show l.length ≤ 60 by omega), decide_eq_false (show ¬ ns.length ≤ 60 by omega)]; rfl) | (rw [h8, decide_eq_true (show l.length ≤ 60 by omega)]; simp; omega))
 refine aA (bH J J) J <| Um J J <| K1 J J <| K1 J J <| K1 J J <| aA (bL J J) J <| Ua J J <| Nk [6] J <| aQ <| post (n := 0) (.inr J) J ?_ dD
 exact congrArg (fun z => LV.v (.bool z)) (show false = (few6 ss && decide (l.length ≤ 60) && decide (ns.length ≤ 60)) by rw [decide_eq_false (show ¬ l.length ≤ 60 by omega), Bool.and_false]; rfl)
theorem iG (a b : Int) : Run Tryz.prog T E0 (.call 50 [.v (.int .i64 a), .v (.int .i64 b)] (lvM (a, b))) := by
 refine bF Tryz.func50 J J (dH J) <| Rg 1 J <| aY (dQ J) J <| Wn <| Rg 4 J <| Um J J <| Um J J <| aA (gH (cs := [_, _]) J J J J J) J <| aZ (cE (cs' := [_, _]) J J J J J J J J) <| Wn <| aQ <| post (n := 0) (.inr J) J ?_ dD
 rfl
theorem leq_run (k k' : Nat) (l l' : List Int) (ll : l.length < 1099511627776) : Run Tryz.prog T E0 (.call 20 [.sl k (l.map ic), .sl k' (l'.map ic)] (.v (.bool (decide (l = l'))))) := by
 refine bF Tryz.func20 J J (dH J) <| Rg 1 J <| Ua J J <| Wn <| aB <| Rg 5 J <| Um J J <| aA (bA J J) J <| Um J J <| aA (bA J J) J <| aA (fP J J) J <| aX (fun h10 => ?_) (fun h10 => ?_)
 ·refine Wn <| aT J <| aB <| Rg 1 J <| Ua J J <| Wn <| bB <| post (n := 0) (.inr J) J ?_ dD
  exact congrArg (fun z => LV.v (.bool z)) (show false = decide (l = l') from (decide_eq_false fun h => h10 (by rw [h])).symm)
 refine Wn <| aU J <| aF <| aB <| Rg 3 J <| Um J J <| aA (bA J J) J <| Um J J <| Wn <| aJ <| aW (α := Nat) (fun i => [(0, .sl k (l.map ic)), (1, .sl k' (l'.map ic)), (12, .v (.int .i64 (l.length : Int))), (13, .v (.int .i64 (i : Int)))]) (fun i => []) (fun i n => i ≤ l.length ∧ l.take i = l'.take i) (fun i => l.length - i) (0) ⟨J, J, J, J, trivial⟩ trivial ⟨Nat.zero_le _, by simp⟩ ?_
 rintro i n hF
 change WC _ _ _ _ _ (_ :: _) ([]) n _
 obtain ⟨hi, ha⟩ := hF
 refine Rg 1 J <| aA (bP J J) J <| aX (fun h14 => ?_) (fun h14 => ?_)
 rotate_left
 ·refine Wn <| aU J <| aV <| aR <| aO J <| Rg 1 J <| Ua J J <| Wn <| aQ <| post (n := 0) (.inr J) J ?_ dD
  exact congrArg (fun z => LV.v (.bool z)) (show true = decide (l = l') from (decide_eq_true (by rw [List.take_of_length_le om, List.take_of_length_le om] at ha; exact ha)).symm)
 refine Wn <| aT J <| aF <| aJ <| Rg 2 J <| Um J J <| Ua J J <| Wn <| bG (z := 9) J kR <| Dm J J <| Dm J J <| aC (bO (j := i) J J J J om om J) J <| aC (dF J J J) J <| Dm J J <| Dm J J <| aC (bO (j := i) J J J J om om J) J <| aC (dF J J J) J <| aC (fP J J) J <| kO (fun h24 => ?_) (fun h24 => ?_)
 rotate_left
 ·refine bD (aP kR) J <| Ck [0,1,12,13,24] J <| bV J <| cC <| aE <| aG (z := 2) J <| aA (cI (((i + 1 : Nat) : Int)) (aS J J om) om) J <| Um J J <| Wn <| aD <| ⟨i + 1, ⟨J, J, J, J, trivial⟩, trivial, ⟨om, eqL_take ha om om om⟩, by show l.length - (i + 1) < l.length - i; omega⟩
 refine bD (aP kR) J <| Ck [0,1,12,13,24] J <| bT J <| Rg 1 J <| Ua J J <| Wn <| aQ <| aN <| bJ <| aN <| post (n := 0) (.inr J) J ?_ dD
 exact congrArg (fun z => LV.v (.bool z)) (show false = decide (l = l') from (decide_eq_false (eqL_no (i := i) om om om)).symm)
theorem pH  : Run Tryz.prog T E0 (.call 12 [] (.v (.bool true))) := by
 refine bF Tryz.func12 J J (dH J) <| Rg 1 J <| Ua J J <| Wn <| Rg 14 J <| aA (aK J (iG 1 1) dD) J <| aA (aK J (iG 1 1) dD) J <| aA (gH (cs := [_, _, _]) J J J J J) J <| aA (cW (cs := [_, _, _]) (rows := [[_, _, _]]) J J (by decide) J J J) J <| aA (gH (cs := [_, _, _]) J J J J J) J <| aA (aK J (iG 2 1) dD) J <| aA (aK J (iG 1 1) dD) J <| aA (gH (cs := [_, _, _]) J J J J J) J <| aA (cW (cs := [_, _, _]) (rows := [[_, _, _]]) J J (by decide) J J J) J <| aA (gH (cs := [_, _, _]) J J J J J) J <| aA (cW (cs := [_, _, _, _, _, _]) (rows := [[_, _, _], [_, _, _]]) J J (by decide) J J J) J <| aA (gH (cs := [_, _, _]) J J J J J) J <| aY (dQ J) J <| aZ (cE (cs' := [_, _, _]) J J J J J J J J) <| Wn <| bG (z := 12) J kR <| aC (aM (l := .agg (stc ((((0 : Int), (0 : Int)), (2, [((1, 1), (2, [(0, (1, 1))])), ((2, 1), (2, [(0, (1, 1))]))])) : Go.Ab.ST))) J J gG J J) J ?_
 refine aC (cW (cs := [_, _, _]) (rows := [[_, _, _]]) J J (by decide) J J J) J <| aC (gH (cs := [_]) J J J J J) J <| aC (aK J (iG 1 2) dD) J <| aC (bM (b := .tup [.sl 1 [mc (4, 1)], .sl 1 [ic 1], .v (.int .i64 0)]) (aK J (nN 2 (awk 0) (1, 2) (awk_is 0 I64_0) (by unfold I64; decide) (by unfold I64; decide)) (bR (by intro c hc; simp only [List.mem_cons, List.not_mem_nil, or_false] at hc; rcases hc with rfl | rfl; exact (awk_data 0); exact lQ))) awk_b0) J <| Dm J J <| aC (dN J J) J <| aC (dN J J) J <| aC (dN J J) J <| aC (gP J) J <| aC (gP J) J <| aC (gP J) J <| bD (aP kR) J <| Ck [1,2,3,4] J <| Rg 2 J <| aA (bC J J J J J) J <| aZ (cE (cs' := [_, _, _]) J J J J J J J J) <| Wn <| bG (z := 12) J kR <| aC (aM (l := .agg (stc ((((1 : Int), (0 : Int)), (2, [((1, 1), (2, [(0, (1, 1))])), ((2, 1), (2, [(0, (1, 1))]))])) : Go.Ab.ST))) J J gG J J) J ?_
 refine aC (cW (cs := [_, _, _]) (rows := [[_, _, _]]) J J (by decide) J J J) J <| aC (gH (cs := [_]) J J J J J) J <| aC (aK J (iG 1 2) dD) J <| aC (bM (b := .tup [.sl 1 [mc (2, 1)], .sl 1 [ic 0], .v (.int .i64 0)]) (aK J (nN 2 (awk 1) (1, 2) (awk_is 1 I64_1) (by unfold I64; decide) (by unfold I64; decide)) (bR (by intro c hc; simp only [List.mem_cons, List.not_mem_nil, or_false] at hc; rcases hc with rfl | rfl; exact (awk_data 1); exact lQ))) awk_b1) J <| Dm J J <| aC (dN J J) J <| aC (dN J J) J <| aC (dN J J) J <| aC (gP J) J <| aC (gP J) J <| aC (gP J) J <| bD (aP kR) J <| Ck [2,3,4,5,6,7] J <| Rg 29 J <| Um J J <| aA (eI J J) J <| aX (fun h40 => ?_) (fun h40 => ?_)
 rotate_left
 ·exact absurd J h40
 refine Um J J <| aI J (eG J) J <| aI J (aK J (iG 4 1) dD) J <| aI J (cW (cs := [_, _]) (rows := [[_, _]]) J J (by decide) J J J) J <| aI J (aK J (qA 1 2 [(4, 1)] (by decide)) (bR (by intro c hc; simp only [List.mem_cons, List.not_mem_nil, or_false] at hc; rcases hc with rfl | rfl; exact (mO 1 (4, 1)); exact (mO 2 (4, 1))))) J <| aA (bH J J) J <| Um J J <| aI J (eG J) J <| aI J (cW (cs := [_]) (rows := [[_]]) J J (by decide) J J J) J <| aI J (bM (b := .v (.bool true)) (aK J (leq_run 1 2 [1] [1] (by decide)) (bR (by intro c hc; simp only [List.mem_cons, List.not_mem_nil, or_false] at hc; rcases hc with rfl | rfl; exact (mJ 1 1); exact (mJ 2 1)))) J) J <| aA (bH J J) J <| Um J J <| aI J (eG J) J <| aI J (eI J J) J <| aX (fun h54 => ?_) (fun h54 => ?_)
 rotate_left
 ·exact absurd J h54
 refine aA (bH J J) J <| Um J J <| aI J (eG J) J <| aI J (aK J (iG 2 1) dD) J <| aI J (cW (cs := [_, _]) (rows := [[_, _]]) J J (by decide) J J J) J <| aI J (aK J (qA 1 2 [(2, 1)] (by decide)) (bR (by intro c hc; simp only [List.mem_cons, List.not_mem_nil, or_false] at hc; rcases hc with rfl | rfl; exact (mO 1 (2, 1)); exact (mO 2 (2, 1))))) J <| aA (bH J J) J <| Um J J <| aI J (eG J) J <| aI J (cW (cs := [_]) (rows := [[_]]) J J (by decide) J J J) J <| aI J (bM (b := .v (.bool true)) (aK J (leq_run 1 2 [0] [0] (by decide)) (bR (by intro c hc; simp only [List.mem_cons, List.not_mem_nil, or_false] at hc; rcases hc with rfl | rfl; exact (mJ 1 0); exact (mJ 2 0)))) J) J <| aA (bH J J) J <| Ua J J <| Nk [0] J <| aQ <| post (n := 0) (.inr J) J ?_ dD
 rfl
end Go.Proofs.YtahljdjhhapngaaGreat
namespace Go.Proofs.YtahljdjhhapngaaGreat
open Go.Ab Go.RowKit
theorem qzero_own (n0 : Nat) (hn0 : n0 ≤ 40) : ∃ sz len ob, Run Tryz.prog T E0 (.callO 68 [.v (.int .i64 (n0 : Int))] (.ref 0 sz 0 len) ob) ∧ sz = 6 ∧ len = n0 ∧ ob = { cells := ((List.replicate n0 (0 : Rat)).map qc).flatten, sz := 6, elem := (39), st := 0 } := by
 refine oO Tryz.func68 J J (dH J) <| Rg 1 J <| Ua J J <| Wn <| Rg 3 J <| Um J J <| aY (oMk (a := n0) (b := n0) J J J J om om (by decide) om (by show 80 * n0 ≤ _; omega) om) J <| Ua J J <| Wn <| aB <| Rg 3 J <| Um J J <| aA (gQ J J) J <| Um J J <| Wn <| aJ <| aW (α := Nat × (List (Option Rat))) (fun ⟨i, us⟩ => [(3, .ref (0 + 1 + 1) 6 0 n0), (8, .v (.int .i64 (n0 : Int))), (9, .v (.int .i64 (i : Int)))]) (fun ⟨i, us⟩ => [((0 + 1 + 1), { cells := ((us).map zq).flatten, sz := 6, elem := (39), st := 0 })]) (fun ⟨i, us⟩ n => i ≤ n0 ∧ us.length = n0 ∧ (∀ j, j < i → us.getD j default = some 0) ∧ 3 < n) (fun ⟨i, us⟩ => n0 - i) (0, List.replicate n0 none) ⟨J, J, J, trivial⟩ ⟨g0.trans (by rw [List.map_replicate]; rfl), trivial⟩ ⟨Nat.zero_le _, by simp, fun j hj => absurd hj om, om⟩ ?_
 rintro ⟨i, us⟩ n hF
 change WC _ _ _ _ _ (_ :: _) (_ :: _) n _
 obtain ⟨hi, hul, hz, hn⟩ := hF
 refine Rg 1 J <| aA (bP J J) J <| aX (fun h10 => ?_) (fun h10 => ?_)
 rotate_left
 ·refine Wn <| aU J <| aV <| aR <| aO J <| Rg 2 J <| Um J J <| Ua J J <| Wn <| aQ ?_
  have hin : i = n0 := by omega
  have hus : us.map zq = (List.replicate n0 (0 : Rat)).map qc := by
   rw [show us = List.replicate n0 (some (0 : Rat)) from kF (by rw [List.length_replicate]; exact hul) fun j hj => by rw [hz j om]; simp [List.getD_eq_getElem?_getD, show j < n0 by omega], List.map_replicate, List.map_replicate]; rfl
  refine ⟨6, n0, { cells := ((List.replicate n0 (0 : Rat)).map qc).flatten, sz := 6, elem := (39), st := 0 }, ⟨rfl, rfl, rfl⟩, .inr J, _, rfl, g0.trans (by rw [hus]), rfl, rfl, ?_⟩
  intro c hc; obtain ⟨row, hr, hc⟩ := List.mem_flatten.1 hc; exact bN dqc row hr c hc
 refine Wn <| aT J <| aF <| aJ <| Rg 2 J <| Um J J <| Ua J J <| Wn <| aG (z := 5) J <| Um J J <| Um J J <| aA (bM (b := lvQ 0) (aK J (fW 0 I64_0) dD) J) J <| aA (cB (j := i) J J J J om om J) J <| aZ (dS (f := zq) (us := us) (some 0) J J J gG zq_len J J om J) ?_
 refine Wn <| aE <| aG (z := 2) J <| aA (cI (((i + 1 : Nat) : Int)) (aS J J om) om) J <| Um J J <| Wn <| aD <| ⟨⟨i + 1, us.set i (some 0)⟩, ⟨J, J, J, trivial⟩, ⟨gG, trivial⟩, ⟨om, by rw [List.length_set]; exact hul, fun j hj => ?_, om⟩, by show n0 - (i + 1) < n0 - i; omega⟩
 rw [cG om]
 by_cases e : i = j
 ·rw [if_pos e]
 ·rw [if_neg e]; exact hz j om
theorem qworth_run (k ks : Nat) (ss : List Go.Ab.ST) (d : Rat) (st : List Int) (hV : VMo ss = true) (hd : Bd 2 d) (hd0 : 0 < d) (hd1 : d < 1) (hst : vSt ss st = true) : Run Tryz.prog T E0 (.call 36 [lvMo k ss, lvQ d, .sl ks (st.map ic)] (.sl 1 ((wor ss d st).map qc))) := by
 have hV1 := jF hV
 have hn40 := hV1.wt.len
 have hpos := hV1.pos
 have hsl := fU hst
 have hD := jZ hV hd0 hd1
 refine bF Tryz.func36 J J (dH J) <| Rg 3 J <| aY (dK J J) J <| aY (dK J J) J <| Ua J J <| Wn <| Rg 4 J <| aA (bC J J J J J) J <| aA (aM J J gG J J) J ?_
 refine aA (bA J J) J <| Ua J J <| Wn <| Rg 1 J <| Ua J J <| Wn <| Rg 1 J <| Ua J J <| Wn <| aB <| Rg 4 J <| aA (bC J J J J J) J <| aA (aM J J gG J J) J ?_
 refine aA (bA J J) J <| Um J J <| Nk [2,4,7,8,9,21,22,23] J <| aJ <| aW (α := Nat × Nat × Nat × (List Q1) × (List Rat)) (fun ⟨i, qa, qb, al, bl⟩ => [(2, .sl ks (st.map ic)), (4, .ptr (0 + 1) 0), (7, .v (.int .i64 (ss.length : Int))), (8, outV qa 1 (al.map fQ)), (9, outV qb 6 (bl.map qc)), (21, .sl k (ss.map stc)), (22, .v (.int .i64 (ss.length : Int))), (23, .v (.int .i64 (i : Int)))]) (fun ⟨i, qa, qb, al, bl⟩ => outH qa 1 34 (al.map fQ) (outH qb 6 39 (bl.map qc) [((0 + 1), { cells := qc (d), sz := 6, elem := (39), st := 0 })])) (fun ⟨i, qa, qb, al, bl⟩ n => i ≤ ss.length ∧ al.length = i ∧ bl.length = i ∧ (∀ a, a < i → RowOk ss.length d (ch ss a (st.getD a default).toNat).2.2 a (al.getD a default).2 ∧ (bl.getD a default) = nq (ch ss a (st.getD a default).toNat).1) ∧ (∀ r, r ∈ al → ∀ x, x ∈ r.2 → Bd 8 x) ∧ (∀ x, x ∈ bl → Bd 8 x) ∧ 1 < qa ∧ 1 < qb ∧ qa ≠ qb ∧ qa < n ∧ qb < n ∧ 6 ≤ n) (fun ⟨i, qa, qb, al, bl⟩ => ss.length - i) (0, 2, 3, [], []) ⟨J, J, J, J, J, J, J, J, trivial⟩ ⟨gG, trivial⟩ ⟨Nat.zero_le _, rfl, rfl, fun a ha => absurd ha om, by simp, by simp, om, om, om, om, om, om⟩ ?_
 rintro ⟨i, qa, qb, al, bl⟩ n hF
 change WC _ _ _ _ _ (_ :: _) (outH _ _ _ _ _) n _
 obtain ⟨hi, hal, hbl, hrows, hba, hbb, hqa, hqb, hqab, hqa3, hqb3, hn⟩ := hF
 obtain ⟨nK, hnK⟩ : ∃ z, z = n := ⟨n, rfl⟩
 subst hnK
 refine Rg 1 J <| aA (bP J J) J <| aX (fun h24 => ?_) (fun h24 => ?_)
 rotate_left
 ·refine Wn <| aU J <| aV <| aR <| aO J ?_
  obtain ⟨a0, at', rfl⟩ : ∃ a t, al = a :: t := by
   cases al with
   | nil => simp at hal; omega
   | cons a t => exact ⟨a, t, rfl⟩
  obtain ⟨b0, bt, rfl⟩ : ∃ a t, bl = a :: t := by
   cases bl with
   | nil => simp at hbl; omega
   | cons a t => exact ⟨a, t, rfl⟩
  obtain rfl : i = ss.length := by omega
  obtain ⟨_, hg1, hns, hsvl, hwv, hsb⟩ := qK hD hn40 hst (A := vQ (a0 :: at')) (b := b0 :: bt) (by rw [show (vQ (a0 :: at')).length = (a0 :: at').length from List.length_map _]; exact hal) hbl (fun a ha => by rw [show (vQ (a0 :: at')).getD a default = ((a0 :: at').getD a default).2 from mapD om]; exact (hrows a ha).1) (fun a ha => (hrows a ha).2) (fun r hr x hx => by obtain ⟨y, hy, rfl⟩ := List.mem_map.1 hr; exact hba y hy x hx) hbb
  have hrow2 : ∀ r, r ∈ a0 :: at' → r.2.length = ss.length := fun r hr => by
   obtain ⟨a, ha, rfl⟩ := List.getElem_of_mem hr
   have h1 := hrows a om
   rw [show (a0 :: at').getD a default = (a0 :: at')[a] by rw [List.getD_eq_getElem?_getD, List.getElem?_eq_getElem ha]; rfl] at h1
   exact h1.1.1
  obtain ⟨r, hr, hphi⟩ := qsolved_runB (a0 :: at') 1 (b0 :: bt) ss.length (by simp) om hrow2 om om 268435456 (Nat.le_refl _) hg1
  rw [if_neg (by rw [hns]; decide)] at hphi
  subst hphi
  rw [← wor_eq hD hst hsvl hwv] at hr
  refine Rg 9 J <| Um J J <| Um J J <| Um J J <| aY (jK [.sl 1 ((a0 :: at').map fQ), .sl 1 ((b0 :: bt).map qc), .v (.int .i64 (ss.length : Int))] [(qa, { cells := ((a0 :: at').map fQ).flatten, sz := 1, elem := 34, st := 1 }), (qb, { cells := ((b0 :: bt).map qc).flatten, sz := 6, elem := 39, st := 1 })] J hr (.own (ob := { cells := ((a0 :: at').map fQ).flatten, sz := 1, elem := 34, st := 0 }) ((a0 :: at').map fQ) (by simp) g0 (by show (0 : Nat) ≠ 2; decide) J (by decide) (by simp [keys]) J (bX (f := fQ) (n := 1) (fun _ => rfl)) (bN dfQ) (.own (ob := { cells := ((b0 :: bt).map qc).flatten, sz := 6, elem := 39, st := 0 }) ((b0 :: bt).map qc) (by simp) (g1 om g0) (by show (0 : Nat) ≠ 2; decide) J (by decide) (by simp [keys]) J (bX (f := qc) (n := 6) (fun _ => rfl)) (bN dqc) (.data (.v _) .nil))) (by intro p hp; simp only [List.mem_cons, List.not_mem_nil, or_false] at hp; rcases hp with rfl | rfl; exact ⟨_, g0, (by show (0 : Nat) ≠ 2; decide), rfl⟩; exact ⟨_, g1 om g0, (by show (0 : Nat) ≠ 2; decide), rfl⟩)) J <| Um J J <| aA (dN J J) J <| aA (dN J J) J <| Ua J J <| Ua J J <| Nk [16] J <| Rg 2 J <| Um J J <| Ua J J <| Wn <| aQ ?_
  exact post (n := 0) (.inr J) J J (.sl _ _ fun row hr => bN dqc row hr)
 refine Wn <| aT J <| aF <| aJ ?_
 have hm := bE (us := ss) (i := i) om
 obtain ⟨hs0, hs1⟩ := kB hst (i := i) om
 have hmc := bE (us := (ss.getD i default).2.2) (i := (st.getD i default).toNat) om
 obtain ⟨hrw, hvb⟩ : VN (ch ss i (st.getD i default).toNat).1 ∧ VB ss.length (ch ss i (st.getD i default).toNat).2.2 := kN hV hm hmc
 have hr3 := hrw.all3
 have hcl := hV1.cs _ hm
 refine Rg 6 J <| Um J J <| aA (bO J J J J J om J) J <| aA (dF (l := .agg (stc (ss.getD i default))) J J J) J <| aY (dQ J) J <| Ua J J <| aZ (cE (cs' := stc (ss.getD i default)) J J J g0 J J J J) <| cL ?_
 obtain ⟨_, _, _, hz, rfl, rfl, rfl⟩ := qzero_own ss.length hn40
 refine Rg 3 J <| Um J J <| aY (qB J hz dD) J <| Ua J J <| Nk [2,4,7,8,9,10,11,12,21,22,23] J <| Rg 5 J <| Um J J <| Um J J <| aA (bM (b := lvQ 1) (aK J (fW 1 I64_1) dD) J) J <| aA (cB (j := i) J J J J om om J) J <| aZ (dS (f := qc) (us := List.replicate ss.length 0) (1 : Rat) J J J (by repeat (first | exact g0 | refine g1 om ?_ | refine aL om ?_)) (fun _ => rfl) J J (by rw [List.length_replicate]; omega) J) ?_
 refine Nk [2,4,7,8,9,10,11,12,21,22,23] J <| aB <| bG (z := 11) J kR <| aC (bC J J J J J) J <| aC (aM J J (by repeat (first | exact g0 | refine g1 om ?_ | refine aL om ?_)) J J) J ?_
 refine Dm J J <| Dm J J <| aC (bO (j := i) J J J J om om J) J <| aC (dF J J J) J <| aC (bO (j := (st.getD i default).toNat) J J J J om om J) J <| aC (oFa J J J J J) J <| aC (dF J J J) J <| aC (bA J J) J <| Dm J J <| bD (eU (rn nK) (by simp only [List.reverse_cons, List.reverse_nil, List.nil_append, List.cons_append, List.map_cons, List.map_nil, ren, keys, Nat.add_assoc, lZ]; kernel_rfl)) J <| Ck [2,4,7,8,9,10,11,12,21,22,23,42,43,44] J <| aJ ?_
 refine aW (α := Nat × (List Rat)) (fun ⟨j, row⟩ => [(2, .sl ks (st.map ic)), (4, .ptr (0 + 1) 0), (7, .v (.int .i64 (ss.length : Int))), (8, outV qa 1 (al.map fQ)), (9, outV qb 6 (bl.map qc)), (10, .v (.int .i64 (i : Int))), (11, .ptr (nK + 1 + 3) 0), (12, .ref (nK + 1 + 6 + 1) 6 0 ss.length), (21, .sl k (ss.map stc)), (22, .v (.int .i64 (ss.length : Int))), (23, .v (.int .i64 (i : Int))), (42, .sl (ch ss i (st.getD i default).toNat).2.1 ((ch ss i (st.getD i default).toNat).2.2.map brc)), (43, .v (.int .i64 ((ch ss i (st.getD i default).toNat).2.2.length : Int))), (44, .v (.int .i64 (j : Int)))]) (fun ⟨j, row⟩ => ((nK + 1 + 6 + 1), { cells := (row.map qc).flatten, sz := 6, elem := (39), st := 0 }) :: ((nK + 1 + 3), { cells := stc (ss.getD i default), sz := 3, elem := (54), st := 0 }) :: outH qa 1 34 (al.map fQ) (outH qb 6 39 (bl.map qc) [((0 + 1), { cells := qc (d), sz := 6, elem := (39), st := 0 })])) (fun ⟨j, row⟩ n => j ≤ (ch ss i (st.getD i default).toNat).2.2.length ∧ RowR ss.length d (ch ss i (st.getD i default).toNat).2.2 i j row ∧ nK + 26 ≤ n) (fun ⟨j, row⟩ => (ch ss i (st.getD i default).toNat).2.2.length - j) (0, (List.replicate ss.length 0).set i 1) ⟨J, J, J, J, J, J, J, J, J, J, J, J, J, J, trivial⟩ ⟨(by repeat (first | exact g0 | refine g1 om ?_ | refine aL om ?_)), (by repeat (first | exact g0 | refine g1 om ?_ | refine aL om ?_)), bS (fun hne => by rw [cY hne]; repeat (first | exact g0 | refine g1 om ?_ | refine aL om ?_)) (bS (fun hne => by rw [cY hne]; repeat (first | exact g0 | refine g1 om ?_ | refine aL om ?_)) ⟨(by repeat (first | exact g0 | refine g1 om ?_ | refine aL om ?_)), trivial⟩)⟩ ⟨Nat.zero_le _, RowR.init _ _ (show i < ss.length by omega), om⟩ ?_
 rintro ⟨j, row⟩ n hF
 change WC _ _ _ _ _ [(2, .sl ks (st.map ic)), (4, .ptr (0 + 1) 0), (7, .v (.int .i64 (ss.length : Int))), (8, outV qa 1 (al.map fQ)), (9, outV qb 6 (bl.map qc)), (10, .v (.int .i64 (i : Int))), (11, .ptr (nK + 1 + 3) 0), (12, .ref (nK + 1 + 6 + 1) 6 0 ss.length), (21, .sl k (ss.map stc)), (22, .v (.int .i64 (ss.length : Int))), (23, .v (.int .i64 (i : Int))), (42, .sl (ch ss i (st.getD i default).toNat).2.1 ((ch ss i (st.getD i default).toNat).2.2.map brc)), (43, .v (.int .i64 ((ch ss i (st.getD i default).toNat).2.2.length : Int))), (44, .v (.int .i64 (j : Int)))] (((nK + 1 + 6 + 1), { cells := (row.map qc).flatten, sz := 6, elem := (39), st := 0 }) :: ((nK + 1 + 3), { cells := stc (ss.getD i default), sz := 3, elem := (54), st := 0 }) :: outH qa 1 34 (al.map fQ) (outH qb 6 39 (bl.map qc) [((0 + 1), { cells := qc (d), sz := 6, elem := (39), st := 0 })])) n _
 obtain ⟨hj, hR, hn2⟩ := hF
 have hrl : row.length = ss.length := hR.1
 refine WC.regF (z := 1) J <| aA (bP J J) J <| aX (fun h45 => ?_) (fun h45 => ?_)
 ·refine Wn <| Fz.same [(2, _), (4, _), (7, _), (8, _), (9, _), (10, _), (11, _), (12, _), (21, _), (22, _), (23, _), (42, _), (43, _), (44, _), (45, _)] _ ⟨J, J, J, J, J, J, J, J, J, J, J, J, J, J, J, trivial⟩ (fun _ _ h => h) <| aT J <| aF <| aJ ?_
  have hto := hvb.to j om
  have hvn := hvb.vn j om
  have hi3 := hvn.all3
  have hbl8 := hvb.len
  have hgb : Bd 8 (row.getD ((ch ss i (st.getD i default).toNat).2.2.getD j default).1.toNat default) := jX (by decide) hR.2.2.2 _
  refine Rg 4 J <| aA (bO J J J J J om J) J <| aA (dF (l := .agg (brc ((ch ss i (st.getD i default).toNat).2.2.getD j default))) J J J) J <| aY (dQ J) J <| aZ (cE (cs' := brc ((ch ss i (st.getD i default).toNat).2.2.getD j default)) J J J g0 J J J J) <| Nk [2,4,7,8,9,10,11,12,14,21,22,23,42,43,44] J <| cM (z := 16) J kR <| Dm J J <| aC (bC J J J J J) J <| aC (aM J J gG J J) J ?_
  refine Dm J J <| aC (bC J J J J J) J <| aC (aM J J gG J J) J ?_
  refine aC (cB (j := ((ch ss i (st.getD i default).toNat).2.2.getD j default).1.toNat) J J J J om om J) J <| aC (dV (f := qc) (us := row) (j := ((ch ss i (st.getD i default).toNat).2.2.getD j default).1.toNat) (l := lvQ (row.getD ((ch ss i (st.getD i default).toNat).2.2.getD j default).1.toNat default)) J J gG (fun _ => rfl) J (by decide) om J) J ?_
  refine aC (aM (l := lvQ d) J J (by repeat (first | exact g0 | refine g1 om ?_ | refine aL om ?_)) J J) J ?_
  refine aC (bC J J J J J) J <| aC (aM (l := lvM ((ch ss i (st.getD i default).toNat).2.2.getD j default).2) J J gG J J) J ?_
  refine aC (bM (b := lvQ (nq ((ch ss i (st.getD i default).toNat).2.2.getD j default).2)) (aK J (jV ((ch ss i (st.getD i default).toNat).2.2.getD j default).2 hi3.1 hi3.2.1 hvn) dD) J) J <| aC (aK J (mN d (nq ((ch ss i (st.getD i default).toNat).2.2.getD j default).2) (hd.mono om) (hvn.bd.mono om)) dD) J <| aC (aK J (nrless_run (row.getD ((ch ss i (st.getD i default).toNat).2.2.getD j default).1.toNat default) (d * nq ((ch ss i (st.getD i default).toNat).2.2.getD j default).2) (hgb.mono om) ((hd.mul hvn.bd).mono om)) dD) J <| aC (cB (j := ((ch ss i (st.getD i default).toNat).2.2.getD j default).1.toNat) J J J J om om J) J <| cA (dS (f := qc) (us := row) (row.getD ((ch ss i (st.getD i default).toNat).2.2.getD j default).1.toNat default - d * nq ((ch ss i (st.getD i default).toNat).2.2.getD j default).2) J J J gG (fun _ => rfl) J J om J) ?_
  refine bD (eU (rn n) (by simp only [List.reverse_cons, List.reverse_nil, List.nil_append, List.cons_append, List.map_cons, List.map_nil, ren, keys, Nat.add_assoc, lZ, show rn n (nK + (1 + (6 + 1))) = 0 from oZ om, show rn n (nK + 8) = 0 from oZ om, show rn n (0 + 1) = 0 from oZ om, show rn n 1 = 0 from oZ om]; kernel_rfl)) J <| aE <| Ck [2,4,7,8,9,10,11,12,21,22,23,42,43,44] J <| aG (z := 2) J <| aA (cI (((j + 1 : Nat) : Int)) (aS J J om) om) J <| Um J J <| Wn <| aD <| ⟨⟨j + 1, row.set ((ch ss i (st.getD i default).toNat).2.2.getD j default).1.toNat (row.getD ((ch ss i (st.getD i default).toNat).2.2.getD j default).1.toNat default - d * nq ((ch ss i (st.getD i default).toNat).2.2.getD j default).2)⟩, ⟨J, J, J, J, J, J, J, J, J, J, J, J, J, J, trivial⟩, ⟨gG, gG, bS (fun hne => by rw [cY hne]; repeat (first | exact g0 | refine g1 om ?_ | refine aL om ?_)) (bS (fun hne => by rw [cY hne]; repeat (first | exact g0 | refine g1 om ?_ | refine aL om ?_)) ⟨(by repeat (first | exact g0 | refine g1 om ?_ | refine aL om ?_)), trivial⟩)⟩, ⟨om, hR.step hvb om hd, om⟩, by show (ch ss i (st.getD i default).toNat).2.2.length - (j + 1) < (ch ss i (st.getD i default).toNat).2.2.length - j; omega⟩
 refine cL ?_
 have hov : outV (nK + 1 + 6 + 1) 6 (row.map qc) = .ref (nK + 1 + 6 + 1) 6 0 ss.length := by
  rw [oV (fun h => by have := congrArg List.length h; rw [List.length_map, List.length_nil] at this; omega), List.length_map, hrl]
 refine Fz.weakH (outH (nK + 1 + 6 + 1) 6 (39) (row.map qc) (((nK + 1 + 3), { cells := stc (ss.getD i default), sz := 3, elem := (54), st := 0 }) :: outH qa 1 34 (al.map fQ) (outH qb 6 39 (bl.map qc) [((0 + 1), { cells := qc (d), sz := 6, elem := (39), st := 0 })]))) (subsM.get (bS (fun _ => (by repeat (first | exact g0 | refine g1 om ?_ | refine aL om ?_))) ⟨(by repeat (first | exact g0 | refine g1 om ?_ | refine aL om ?_)), bS (fun hne => by rw [cY hne]; repeat (first | exact g0 | refine g1 om ?_ | refine aL om ?_)) (bS (fun hne => by rw [cY hne]; repeat (first | exact g0 | refine g1 om ?_ | refine aL om ?_)) ⟨(by repeat (first | exact g0 | refine g1 om ?_ | refine aL om ?_)), trivial⟩)⟩)) ?_
 refine Fz.env (t := 12) (us := row.map qc) [(2, _), (4, _), (7, _), (8, _), (9, _), (10, _), (11, _), (21, _), (22, _), (23, _), (42, _), (43, _), (44, _), (45, _)] ⟨J, J, J, J, J, J, J, J, J, J, J, J, J, J, trivial⟩ (by rw [hov]; rfl) (fun _ r o hr e => by subst e; have h0 : getH (((nK + 1 + 3), { cells := stc (ss.getD i default), sz := 3, elem := (54), st := 0 }) :: outH qa 1 34 (al.map fQ) (outH qb 6 39 (bl.map qc) [((0 + 1), { cells := qc (d), sz := 6, elem := (39), st := 0 })])) (nK + 1 + 6 + 1) = none := (gN om (cU om (cU om (gN om J)))); rw [h0] at hr; cases hr) (by decide) (bX (f := qc) (n := 6) fun _ => rfl) (bN dqc) <| aU J <| aV <| aR <| aO J <| Ck [2,4,7,8,9,10,11,12,21,22,23] J ?_
 have hjn : j = (ch ss i (st.getD i default).toNat).2.2.length := by have := hvb.len; omega
 subst hjn
 have hqb2 : qb < n := by omega
 refine Rg 5 J <| Um J J <| Um J J <| aA (cW (cs := [_]) (rows := [[_]]) J J (by decide) J J J) J <| iA _ (subsM.get (bS (q := qa) (sz := 1) (el := 34) (us := al.map fQ) (h := ((nK + 1 + 3), { cells := stc (ss.getD i default), sz := 3, elem := (54), st := 0 }) :: outH qb 6 39 (bl.map qc) [((0 + 1), { cells := qc (d), sz := 6, elem := (39), st := 0 })]) (fun hne => by rw [cY hne]; repeat (first | exact g0 | refine g1 om ?_ | refine aL om ?_)) ⟨(by repeat (first | exact g0 | refine g1 om ?_ | refine aL om ?_)), bS (fun hne => by rw [cY hne]; repeat (first | exact g0 | refine g1 om ?_ | refine aL om ?_)) ⟨(by repeat (first | exact g0 | refine g1 om ?_ | refine aL om ?_)), trivial⟩⟩)) ?_
 refine dB (te := ti34) (f := fQ) (q := qa) (us := al) (u := ((kd (row.map qc).length, row) : Q1)) J J J J J (fun _ => rfl) (by decide) (by show (2 * (al.length + 1) + 256) * 24 ≤ _; omega) om (gN om (cU om (gN om J))) (gN om (cU om (gN om J))) J <| Ua J J <| Nk [2,4,7,8,9,10,11,21,22,23] J <| cM (z := 14) J kR <| Dm J J <| aC (bC J J J J J) J <| aC (aM J J (by repeat (first | exact g0 | refine g1 om ?_ | refine aL om ?_)) J J) J ?_
 refine Dm J J <| Dm J J <| aC (bO (j := i) J J J J om om J) J <| aC (dF J J J) J <| aC (bO (j := (st.getD i default).toNat) J J J J om om J) J <| aC (oFa J J J J J) J <| aC (dF (l := lvM (ch ss i (st.getD i default).toNat).1) J J J) J <| aC (bM (b := lvQ (nq (ch ss i (st.getD i default).toNat).1)) (aK J (jV (ch ss i (st.getD i default).toNat).1 hr3.1 hr3.2.1 hrw) dD) J) J <| aC (cW (cs := [_, _, _, _, _, _]) (rows := [[_, _, _, _, _, _]]) J J (by decide) J J J) J <| hO _ (subsM.get (bS (q := qb) (sz := 6) (el := 39) (us := bl.map qc) (h := (outH (n + 1 + 3) 1 34 ((al ++ [((kd (row.map qc).length, row) : Q1)]).map fQ) (((nK + 1 + 3), { cells := stc (ss.getD i default), sz := 3, elem := (54), st := 0 }) :: [((0 + 1), { cells := qc (d), sz := 6, elem := (39), st := 0 })]))) (fun hne => by rw [cY hne]; repeat (first | exact g0 | refine g1 om ?_ | refine aL om ?_)) (bS (q := (n + 1 + 3)) (fun hne => by rw [cY hne]; repeat (first | exact g0 | refine g1 om ?_ | refine aL om ?_)) ⟨(by repeat (first | exact g0 | refine g1 om ?_ | refine aL om ?_)), (by repeat (first | exact g0 | refine g1 om ?_ | refine aL om ?_)), trivial⟩))) ?_
 refine nV (te := ti39) (k0 := 0) (us := bl.map qc) (rows := [qc (nq (ch ss i (st.getD i default).toNat).1)]) (.inl J) J J J (by rw [gX]; rfl) J (by decide) (by intro r hr; rw [List.mem_singleton] at hr; subst hr; rfl) (bX (f := qc) (n := 6) fun _ => rfl) (by simp) (by rw [List.length_map]; show (2 * (bl.length + 1) + 256) * 80 ≤ _; omega) (by rw [List.length_map]; show bl.length + 1 < _; omega) (cU om (gN om (gN om J))) J <| aC (gP J) J <| bD (eU (rq qb n) (by simp only [List.reverse_cons, List.reverse_nil, List.nil_append, List.cons_append, List.map_cons, List.map_nil, ren, keys, Nat.add_assoc, rq_add hqb2, rq_self, show rq qb n (nK + (1 + 3)) = 1 from rq_lt om om, show rq qb n (nK + 4) = 1 from rq_lt om om]; kernel_rfl)) J <| aE <| Ck [2,4,7,8,9,21,22,23] J <| aG (z := 2) J <| aA (cI (((i + 1 : Nat) : Int)) (aS J J om) om) J <| Um J J <| Wn <| aD ?_
 have eb : (bl ++ [nq (ch ss i (st.getD i default).toNat).1]).map qc = bl.map qc ++ [qc (nq (ch ss i (st.getD i default).toNat).1)] := by rw [List.map_append]; rfl
 refine ⟨⟨i + 1, (n + 1 + 3), (n + 1 + 5 + 12), al ++ [((kd (row.map qc).length, row) : Q1)], (bl ++ [nq (ch ss i (st.getD i default).toNat).1])⟩, ⟨rfl, rfl, rfl, rfl, congrArg some (by rw [eb]; exact outV_snoc.symm), rfl, rfl, rfl, trivial⟩, by dsimp only; rw [eb, iZ]; exact bS (fun hne => by rw [cY hne]; repeat (first | exact g0 | refine g1 om ?_ | refine aL om ?_)) ⟨(by repeat (first | exact g0 | refine g1 om ?_ | refine aL om ?_)), (by repeat (first | exact g0 | refine g1 om ?_ | refine aL om ?_)), trivial⟩, ⟨om, by rw [List.length_append]; show al.length + 1 = _; omega, by rw [List.length_append]; show bl.length + 1 = _; omega, fun a ha => ?_, fun r hr => ?_, fun x hx => ?_, om, om, om, om, om, om⟩, by show ss.length - (i + 1) < ss.length - i; omega⟩
 ·by_cases e : a = i
  ·subst e
   rw [show (al ++ [((kd (row.map qc).length, row) : Q1)]).getD a default = ((kd (row.map qc).length, row) : Q1) by rw [← hal]; simp [List.getD_eq_getElem?_getD], show (bl ++ [nq (ch ss a (st.getD a default).toNat).1]).getD a default = nq (ch ss a (st.getD a default).toNat).1 by rw [← hbl]; simp [List.getD_eq_getElem?_getD]]
   exact ⟨⟨hR.1, hR.2.1⟩, rfl⟩
  ·rw [show (al ++ [((kd (row.map qc).length, row) : Q1)]).getD a default = al.getD a default by simp only [List.getD_eq_getElem?_getD]; rw [List.getElem?_append_left om], show (bl ++ [nq (ch ss i (st.getD i default).toNat).1]).getD a default = bl.getD a default by simp only [List.getD_eq_getElem?_getD]; rw [List.getElem?_append_left om]]
   exact hrows a om
 ·rcases List.mem_append.1 hr with h | h
  ·exact hba r h
  ·rw [List.mem_singleton] at h; subst h
   exact hR.2.2.2
 ·rcases List.mem_append.1 hx with h | h
  ·exact hbb x h
  ·rw [List.mem_singleton] at h; subst h
   exact hrw.bd.mono (by decide)
end Go.Proofs.YtahljdjhhapngaaGreat
