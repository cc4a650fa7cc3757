/- Part F of the proof of sureAttains_holds: what it rests on. No condition. -/
import Derived.Test.YthpnlndhebcngaaGreatAttE
set_option linter.unusedVariables false
set_option linter.unusedSimpArgs false
set_option maxRecDepth 100000
set_option maxHeartbeats 16000000
namespace Go.Proofs.YthpnlndhebcngaaGreat
open Go.Ab Go.RowKit
theorem attains_run (k kl kL ks : Nat) (ss : List Go.Ab.ST) (l : List Int) (pl : Int) (L st : List Int) (b : Bool) (hI : ∀ s, s ∈ ss → IS s) (hKN : KN ss) (ll : l.length < 1099511627776) (hLL : L.length < 1099511627776) (hsl : st.length < 1099511627776) : Run Tryz.prog T E0 (.call 22 [lvMo k ss, lvL kl l, .v (.int .i64 pl), lvL kL L, lvL ks st, .v (.bool b)] (.tup [.v (.bool (aT ss l pl L st b)), .v (.int .i64 (eT ss l pl L st))])) := by
 refine mkcall Tryz.func22 rfl rfl (Nat.le_of_ble_eq_true rfl) <| Rg 3 rfl <| WO.S (oBx rfl rfl) rfl <| Ua rfl rfl <| Ua rfl rfl <| Wn <| WC.assoc <| Rg 21 rfl <| WO.U (oLdP (l := lvMo k ss) rfl rfl (by repeat (first | exact g0 | refine g1 (by decide) ?_)) rfl rfl) rfl ?_
 refine WO.U (oCall rfl (mvmodel_run k ss hI) dD) rfl <| WO.B (fun h22 => ?_) (fun h22 => ?_)
 rotate_left
 ·refine WO.U (oNot rfl) rfl <| Um rfl rfl <| K1 rfl rfl <| K1 rfl rfl <| K1 rfl rfl <| K1 rfl rfl <| WO.U (oPkT rfl rfl) rfl <| Um rfl rfl <| K1 rfl rfl <| K1 rfl rfl <| K1 rfl rfl <| K1 rfl rfl <| WO.U (oPkT rfl rfl) rfl <| Um rfl rfl <| K1 rfl rfl <| K1 rfl rfl <| K1 rfl rfl <| K1 rfl rfl <| WO.U (oPkT rfl rfl) rfl <| Nk [1,2,3,4,5,6,41] rfl <| WC.cT rfl <| WC.assoc <| Rg 2 rfl ?_
  refine Ua rfl rfl <| Ua rfl rfl <| Wn <| WC.rets ?_
  have he : (eT ss l pl L st) = 1 := eT_1 (fun h => by rw [h22] at h; cases h.1)
  have ha : (aT ss l pl L st b) = false := aT_no (by rw [he]; decide)
  rw [he, ha]
  refine post (n := 0) (.inr rfl) rfl ?_ dD
  rfl
 refine WO.U (oNot rfl) rfl <| Um rfl rfl <| WO.Ug rfl (oLdP (l := lvMo k ss) rfl rfl (by repeat (first | exact g0 | refine g1 (by decide) ?_)) rfl rfl) rfl ?_
 refine WO.Ug rfl (oMv rfl) rfl <| WO.Ug rfl (oCall rfl (mset_run k kl ss l ll) dD) rfl <| WO.B (fun h27 => ?_) (fun h27 => ?_)
 rotate_left
 ·refine WO.Ug rfl (oNot rfl) rfl <| WO.U (oPkF rfl rfl) rfl <| Um rfl rfl <| K1 rfl rfl <| K1 rfl rfl <| K1 rfl rfl <| K1 rfl rfl <| WO.U (oPkT rfl rfl) rfl <| Um rfl rfl <| K1 rfl rfl <| K1 rfl rfl <| K1 rfl rfl <| K1 rfl rfl <| WO.U (oPkT rfl rfl) rfl <| Nk [1,2,3,4,5,6,41] rfl <| WC.cT rfl <| WC.assoc <| Rg 2 rfl <| Ua rfl rfl <| Ua rfl rfl <| Wn <| WC.rets ?_
  have he : (eT ss l pl L st) = 1 := eT_1 (fun h => by rw [h27] at h; cases h.2.1)
  have ha : (aT ss l pl L st b) = false := aT_no (by rw [he]; decide)
  rw [he, ha]
  refine post (n := 0) (.inr rfl) rfl ?_ dD
  rfl
 refine WO.Ug rfl (oNot rfl) rfl <| WO.U (oPkF rfl rfl) rfl <| Um rfl rfl <| WO.Ug rfl (oLdP (l := lvMo k ss) rfl rfl (by repeat (first | exact g0 | refine g1 (by decide) ?_)) rfl rfl) rfl ?_
 refine WO.Ug rfl (oMv rfl) rfl <| WO.Ug rfl (oCall rfl (mset_run k kL ss L hLL) dD) rfl <| WO.B (fun h33 => ?_) (fun h33 => ?_)
 rotate_left
 ·refine WO.Ug rfl (oNot rfl) rfl <| WO.U (oPkF rfl rfl) rfl <| Um rfl rfl <| K1 rfl rfl <| K1 rfl rfl <| K1 rfl rfl <| K1 rfl rfl <| WO.U (oPkT rfl rfl) rfl <| Nk [1,2,3,4,5,6,41] rfl <| WC.cT rfl <| WC.assoc <| Rg 2 rfl <| Ua rfl rfl <| Ua rfl rfl <| Wn <| WC.rets ?_
  have he : (eT ss l pl L st) = 1 := eT_1 (fun h => by rw [h33] at h; cases h.2.2.1)
  have ha : (aT ss l pl L st b) = false := aT_no (by rw [he]; decide)
  rw [he, ha]
  refine post (n := 0) (.inr rfl) rfl ?_ dD
  rfl
 refine WO.Ug rfl (oNot rfl) rfl <| WO.U (oPkF rfl rfl) rfl <| Um rfl rfl <| WO.Ug rfl (oLdP (l := lvMo k ss) rfl rfl (by repeat (first | exact g0 | refine g1 (by decide) ?_)) rfl rfl) rfl ?_
 refine WO.Ug rfl (oMv rfl) rfl <| WO.Ug rfl (oCall rfl (mstrat_run k ks ss st hsl) dD) rfl <| WO.B (fun h39 => ?_) (fun h39 => ?_)
 rotate_left
 ·refine WO.Ug rfl (oNot rfl) rfl <| WO.U (oPkF rfl rfl) rfl <| Nk [1,2,3,4,5,6,41] rfl <| WC.cT rfl <| WC.assoc <| Rg 2 rfl <| Ua rfl rfl <| Ua rfl rfl <| Wn <| WC.rets ?_
  have he : (eT ss l pl L st) = 1 := eT_1 (fun h => by rw [h39] at h; cases h.2.2.2)
  have ha : (aT ss l pl L st b) = false := aT_no (by rw [he]; decide)
  rw [he, ha]
  refine post (n := 0) (.inr rfl) rfl ?_ dD
  rfl
 refine WO.Ug rfl (oNot rfl) rfl <| WO.U (oPkF rfl rfl) rfl <| Nk [1,2,3,4,5,6,41] rfl <| WC.cF rfl <| WC.skips <| WC.assoc <| Rg 6 rfl <| Um rfl rfl <| WO.U (oLss rfl rfl) rfl <| WO.D (fun h43 => ?_) (fun h43 => ?_)
 ·refine Um rfl rfl <| K1 rfl rfl <| K1 rfl rfl <| WO.U (oPkT rfl rfl) rfl <| Wn <| WC.cT rfl <| WC.assoc <| Rg 2 rfl <| Ua rfl rfl <| Ua rfl rfl <| Nk [12,13] rfl <| WC.rets ?_
  have he : (eT ss l pl L st) = 6 := eT_6 ⟨h22, h27, h33, h39⟩ om
  have ha : (aT ss l pl L st b) = false := aT_no (by rw [he]; decide)
  rw [he, ha]
  refine post (n := 0) (.inr rfl) rfl ?_ dD
  rfl
 refine Um rfl rfl <| WO.Ug rfl (oMv rfl) rfl <| WO.Ug rfl (oGtr rfl rfl) rfl <| WO.D (fun h46 => ?_) (fun h46 => ?_)
 ·refine WO.U (oPkF rfl rfl) rfl <| Wn <| WC.cT rfl <| WC.assoc <| Rg 2 rfl <| Ua rfl rfl <| Ua rfl rfl <| Nk [12,13] rfl <| WC.rets ?_
  have he : (eT ss l pl L st) = 6 := eT_6 ⟨h22, h27, h33, h39⟩ om
  have ha : (aT ss l pl L st b) = false := aT_no (by rw [he]; decide)
  rw [he, ha]
  refine post (n := 0) (.inr rfl) rfl ?_ dD
  rfl
 refine WO.U (oPkF rfl rfl) rfl <| Wn <| WC.cF rfl <| WC.skips <| WC.assoc ?_
 have hV := VMo_1 h22
 have hst := vSt_len h39
 have hp : pl = 0 ∨ pl = 1 := by omega
 have h4 := And.intro h22 (And.intro h27 (And.intro h33 h39))
 have hn40 := hV.wt.len
 refine Rg 3 rfl <| Um rfl rfl <| WO.U (oLenM rfl rfl) rfl <| Um rfl rfl <| Nk [1,2,3,4,5,6,48,49,50] rfl <| WC.block <| WC.loopV (α := Nat) (fun i => [(1, lvL kl l), (2, .v (.int .i64 pl)), (3, lvL kL L), (4, lvL ks st), (5, .v (.bool b)), (6, .ptr 0 0), (48, lvL ks st), (49, .v (.int .i64 (st.length : Int))), (50, .v (.int .i64 (i : Int)))]) (fun i => [(0, { cells := [.sl k (ss.map stc)], sz := 1, elem := (24), st := 0 })]) (fun i n => i ≤ st.length ∧ (∀ j, j < i → (decide ((ss.getD j default).1.1 = pl) || decide (st.getD j default = 0)) = true) ∧ 0 < n) (fun i => st.length - i) (0) ⟨rfl, rfl, rfl, rfl, rfl, rfl, rfl, rfl, rfl, trivial⟩ ⟨(by repeat (first | exact g0 | refine g1 (by decide) ?_)), trivial⟩ ⟨Nat.zero_le _, fun j hj => absurd hj om, om⟩ ?_
 rintro i n hF
 change WC _ _ _ _ _ (_ :: _) (_ :: _) n _
 obtain ⟨hi, hok, hn⟩ := hF
 refine Rg 1 rfl <| WO.U (oLss rfl rfl) rfl <| WO.D (fun h51 => ?_) (fun h51 => ?_)
 ·refine Wn <| WC.cT rfl <| WC.skips <| WC.block <| Rg 5 rfl <| Um rfl rfl <| WO.U (oIxM rfl rfl rfl rfl rfl om rfl) rfl <| WO.U (oLd rfl rfl rfl) rfl <| Ua rfl rfl <| Ua rfl rfl <| Nk [1,2,3,4,5,6,14,15,48,49,50] rfl <| Rg 12 rfl <| WO.U (oFaP rfl rfl rfl rfl rfl) rfl <| WO.U (oLdP rfl rfl gG rfl rfl) rfl ?_
  refine Um rfl rfl <| WO.U (oIxM (j := i) rfl rfl rfl rfl om om rfl) rfl <| WO.U (oFa rfl rfl rfl rfl rfl) rfl <| WO.U (oLd rfl rfl rfl) rfl <| Um rfl rfl <| WO.U (oNeq rfl rfl) rfl <| WO.D (fun h62 => ?_) (fun h62 => ?_)
  rotate_left
  ·refine Um rfl rfl <| K1 rfl rfl <| K1 rfl rfl <| WO.U (oPkF rfl rfl) rfl <| Nk [1,2,3,4,5,6,48,49,50,64,65,66] rfl <| WC.cF1 rfl <| WC.skip <| after_normal <| WC.reg1z (z := 2) rfl <| WO.U (cI (((i + 1 : Nat) : Int)) (oAdd64 rfl rfl om) om) rfl <| Um rfl rfl <| Wn <| loopR_normal <| ⟨i + 1, ⟨rfl, rfl, rfl, rfl, rfl, rfl, rfl, rfl, rfl, trivial⟩, ⟨gG, trivial⟩, ⟨om, fun j hj => ?_, om⟩, by show st.length - (i + 1) < st.length - i; omega⟩
   by_cases e : j = i
   ·rw [e, decide_eq_true om, Bool.true_or]
   ·exact hok j om
  refine Um rfl rfl <| WO.Ug rfl (oMv rfl) rfl <| WO.Ug rfl (oNeq rfl rfl) rfl <| WO.D (fun h65 => ?_) (fun h65 => ?_)
  rotate_left
  ·refine WO.U (oPkT rfl rfl) rfl <| Nk [1,2,3,4,5,6,48,49,50,64,65,66] rfl <| WC.cF1 rfl <| WC.skip <| after_normal <| WC.reg1z (z := 2) rfl <| WO.U (cI (((i + 1 : Nat) : Int)) (oAdd64 rfl rfl om) om) rfl <| Um rfl rfl <| Wn <| loopR_normal <| ⟨i + 1, ⟨rfl, rfl, rfl, rfl, rfl, rfl, rfl, rfl, rfl, trivial⟩, ⟨gG, trivial⟩, ⟨om, fun j hj => ?_, om⟩, by show st.length - (i + 1) < st.length - i; omega⟩
   by_cases e : j = i
   ·rw [e, decide_eq_true (show (st.getD i default) = 0 by omega), Bool.or_true]
   ·exact hok j om
  refine WO.U (oPkT rfl rfl) rfl <| Nk [1,2,3,4,5,6,48,49,50,64,65,66] rfl <| WC.cT1 rfl <| Rg 2 rfl <| Ua rfl rfl <| Ua rfl rfl <| Wn <| WC.ret <| after_ret <| loopR_ret <| after_ret ?_
  have he : (eT ss l pl L st) = 7 := eT_7 h4 hp (by unfold aln; rw [range_all_no (i := i) om (by rw [decide_eq_false (show ¬ (ss.getD i default).1.1 = pl by omega), decide_eq_false (show ¬ (st.getD i default) = 0 by omega)]; rfl), Bool.and_false])
  have ha : (aT ss l pl L st b) = false := aT_no (by rw [he]; decide)
  rw [he, ha]
  refine post (n := 0) (.inr rfl) rfl ?_ dD
  rfl
 refine Wn <| WC.cF rfl <| WC.exits <| loopR_exit <| after_exit rfl ?_
 have he : (eT ss l pl L st) = 0 := eT_0 h4 hp (by unfold aln; rw [h39, range_take hok om]; rfl)
 have hXl := kpt_len (qf ss st pl) ss
 have hX40 : (kpt (qf ss st pl) ss).length ≤ 40 := by omega
 have hXV := kpt_vm (p := pl) hV h39
 have hSx : VSet (kpt (qf ss st pl) ss).length l = true := by rw [hXl]; exact h27
 refine Rg 6 rfl <| WO.U (oLdP (l := lvMo k ss) rfl rfl gG rfl rfl) rfl ?_
 refine Um rfl rfl <| Um rfl rfl <| WO.U (oCall rfl (fixedfor_run k ks ss st pl hV (hKN.ne hV) hst) dD) rfl <| WO.S (oAl rfl) rfl <| WO.S0 (oSt (cs' := [_]) rfl rfl rfl g0 rfl rfl rfl rfl) <| Nk [1,2,3,5,16] rfl <| Rg 1 rfl <| Ua rfl rfl <| Wn <| WC.assoc <| Rg 1 rfl <| Um rfl rfl <| WO.B (fun h72 => ?_) (fun h72 => ?_)
 rotate_left
 ·refine Wn <| WC.cF rfl <| WC.skips <| Rg 10 rfl <| Um rfl rfl <| WO.U (oLdP (l := lvMo 1 (kpt (qf ss st pl) ss)) rfl rfl gG rfl rfl) rfl ?_
  refine Um rfl rfl <| Um rfl rfl <| WO.U (oCallVD rfl rfl (can_run 1 kl (kpt (qf ss st pl) ss) l pl hXV hSx ll) (data3 d0 (by intro c hc; simp only [List.mem_cons, List.not_mem_nil, or_false] at hc; rcases hc with rfl | rfl | rfl; exact dc1; exact dc1; exact .v _) d0)) rfl <| Um rfl rfl <| WO.U (oEx rfl rfl) rfl <| WO.U (oEx rfl rfl) rfl <| Ua rfl rfl <| Ua rfl rfl <| Nk [3,18] rfl <| Rg 4 rfl <| Um rfl rfl <| WO.U (oCall rfl (sof_run (kd (fl (kpt (qf ss st pl) ss).length (gX (kpt (qf ss st pl) ss) pl (fun _ => true) (inL l))).length) (kpt (qf ss st pl) ss).length (fl (kpt (qf ss st pl) ss).length (gX (kpt (qf ss st pl) ss) pl (fun _ => true) (inL l))) hX40 (VSet_fl _ _) (by have := fl_len (kpt (qf ss st pl) ss).length (gX (kpt (qf ss st pl) ss) pl (fun _ => true) (inL l)); omega)) dD) rfl <| WO.S (oAlS rfl rfl rfl) rfl <| WO.S0 (oStS rfl rfl rfl g0 (sb_len _) rfl) <| Wn <| Rg 6 rfl <| Um rfl rfl <| WO.U (oMf rfl) rfl <| WO.U (oCallB [(n + 1 + 6 + 1 + 1 + 10 + 2)] [lvL kL L, .fn (.func 47) [] [.ro (sb (inL (fl (kpt (qf ss st pl) ss).length (gX (kpt (qf ss st pl) ss) pl (fun _ => true) (inL l)))))]] rfl (coni_run kL L 47 [.ro (sb (inL (fl (kpt (qf ss st pl) ss).length (gX (kpt (qf ss st pl) ss) pl (fun _ => true) (inL l)))))] (fun t => !inL (fl (kpt (qf ss st pl) ss).length (gX (kpt (qf ss st pl) ss) pl (fun _ => true) (inL l))) t.toNat) (dro _) om (fun a ha => attains1_run (inL (fl (kpt (qf ss st pl) ss).length (gX (kpt (qf ss st pl) ss) pl (fun _ => true) (inL l)))) a (by have := VSet_mem h33 ha; omega) (by have := VSet_mem h33 ha; omega))) (.data (dlvL _ _) (.fn .nil (.box (ob := { cells := sb (inL (fl (kpt (qf ss st pl) ss).length (gX (kpt (qf ss st pl) ss) pl (fun _ => true) (inL l)))), sz := 40, elem := (65), st := 0 }) gG (by simp) (by show (0 : Nat) ≠ 2; decide) (data_sb _) .nil) .nil)) (.cons gG (by show (0 : Nat) ≠ 2; decide) lent0)) rfl ?_
  refine WO.U (oNot rfl) rfl <| Ua rfl rfl <| Ua rfl rfl <| Wn <| WC.ret ?_
  rw [h72] at *
  rw [he, ← aT_prog he]
  refine post (n := 0) (.inr rfl) rfl ?_ dD
  rfl
 refine Wn <| WC.cT rfl <| Rg 1 rfl <| Ua rfl rfl <| Wn <| Rg 10 rfl <| Um rfl rfl <| WO.U (oLdP (l := lvMo 1 (kpt (qf ss st pl) ss)) rfl rfl gG rfl rfl) rfl ?_
 refine Um rfl rfl <| Um rfl rfl <| WO.U (oCallVD rfl rfl (must_run 1 kl (kpt (qf ss st pl) ss) l pl hXV hSx ll) (data3 d0 (by intro c hc; simp only [List.mem_cons, List.not_mem_nil, or_false] at hc; rcases hc with rfl | rfl | rfl; exact dc1; exact dc1; exact .v _) d0)) rfl <| Um rfl rfl <| WO.U (oEx rfl rfl) rfl <| WO.U (oEx rfl rfl) rfl <| Ua rfl rfl <| Ua rfl rfl <| Nk [3,18] rfl <| Rg 4 rfl <| Um rfl rfl <| WO.U (oCall rfl (sof_run (kd (fl (kpt (qf ss st pl) ss).length (mX (kpt (qf ss st pl) ss) pl (inL l))).length) (kpt (qf ss st pl) ss).length (fl (kpt (qf ss st pl) ss).length (mX (kpt (qf ss st pl) ss) pl (inL l))) hX40 (VSet_fl _ _) (by have := fl_len (kpt (qf ss st pl) ss).length (mX (kpt (qf ss st pl) ss) pl (inL l)); omega)) dD) rfl <| WO.S (oAlS rfl rfl rfl) rfl <| WO.S0 (oStS rfl rfl rfl g0 (sb_len _) rfl) <| Wn <| Rg 6 rfl <| Um rfl rfl <| WO.U (oMf rfl) rfl <| WO.U (oCallB [(n + 1 + 6 + 1 + 1 + 1 + 10 + 2)] [lvL kL L, .fn (.func 47) [] [.ro (sb (inL (fl (kpt (qf ss st pl) ss).length (mX (kpt (qf ss st pl) ss) pl (inL l)))))]] rfl (coni_run kL L 47 [.ro (sb (inL (fl (kpt (qf ss st pl) ss).length (mX (kpt (qf ss st pl) ss) pl (inL l)))))] (fun t => !inL (fl (kpt (qf ss st pl) ss).length (mX (kpt (qf ss st pl) ss) pl (inL l))) t.toNat) (dro _) om (fun a ha => attains1_run (inL (fl (kpt (qf ss st pl) ss).length (mX (kpt (qf ss st pl) ss) pl (inL l)))) a (by have := VSet_mem h33 ha; omega) (by have := VSet_mem h33 ha; omega))) (.data (dlvL _ _) (.fn .nil (.box (ob := { cells := sb (inL (fl (kpt (qf ss st pl) ss).length (mX (kpt (qf ss st pl) ss) pl (inL l)))), sz := 40, elem := (65), st := 0 }) gG (by simp) (by show (0 : Nat) ≠ 2; decide) (data_sb _) .nil) .nil)) (.cons gG (by show (0 : Nat) ≠ 2; decide) lent0)) rfl ?_
 refine WO.U (oNot rfl) rfl <| Ua rfl rfl <| Ua rfl rfl <| Wn <| WC.ret ?_
 rw [h72] at *
 rw [he, ← aT_prog he]
 refine post (n := 0) (.inr rfl) rfl ?_ dD
 rfl
theorem sureAttains_run (k kl kL ks : Nat) (ss : List Go.Ab.ST) (l : List Int) (pl : Int) (L st : List Int) (b : Bool) (hI : ∀ s, s ∈ ss → IS s) (hKN : KN ss) : Run Tryz.prog T E0 (.call 4 [lvMo k ss, lvL kl l, .v (.int .i64 pl), lvL kL L, lvL ks st, .v (.bool b)] (.v (.bool true))) := by
 refine mkcall Tryz.func4 rfl rfl (Nat.le_of_ble_eq_true rfl) <| Rg 2 rfl <| WO.S (oBx rfl rfl) rfl <| Ua rfl rfl <| Wn <| WC.assoc <| Rg 7 rfl <| WO.U (oLdP (l := lvMo k ss) rfl rfl (by repeat (first | exact g0 | refine g1 (by decide) ?_)) rfl rfl) rfl ?_
 refine Um rfl rfl <| Um rfl rfl <| Um rfl rfl <| WO.U (oBs' (cs := [_, _, _]) (rows := [[_], [_], [_]]) rfl rfl (by decide) rfl rfl rfl) rfl <| WO.U (oCall rfl (lfew_run k 2 ss [(kl, l), (kL, L), (ks, st)] (by simp)) (allData_of (by intro c hc; simp only [List.mem_cons, List.not_mem_nil, or_false] at hc; rcases hc with rfl | rfl; exact dc1; exact .sl _ _ (data_of dgL (us := [(kl, l), (kL, L), (ks, st)]))))) rfl <| WO.B (fun h22 => ?_) (fun h22 => ?_)
 rotate_left
 ·refine WO.U (oNot rfl) rfl <| Nk [1,2,3,4,5,6,23] rfl <| WC.cT rfl <| WC.assoc <| Rg 2 rfl <| WO.U (oCall rfl (awake_run) dD) rfl <| Ua rfl rfl <| Wn <| WC.rets ?_
  exact post (n := 0) (.inr rfl) rfl rfl (by simp)
 have hl60 := fewG_len h22
 have ll : l.length < 1099511627776 := by have : l.length ≤ 60 := hl60 (kl, l) (by simp); omega
 have hLL : L.length < 1099511627776 := by have : L.length ≤ 60 := hl60 (kL, L) (by simp); omega
 have hsl : st.length < 1099511627776 := by have : st.length ≤ 60 := hl60 (ks, st) (by simp); omega
 refine WO.U (oNot rfl) rfl <| Nk [1,2,3,4,5,6,23] rfl <| WC.cF rfl <| WC.skips <| Rg 5 rfl <| WO.U (oLdP (l := lvMo k ss) rfl rfl (by repeat (first | exact g0 | refine g1 (by decide) ?_)) rfl rfl) rfl ?_
 refine Um rfl rfl <| Um rfl rfl <| WO.U (oCall rfl (qasked_run k kl ss l pl hI ll) dD) rfl <| Ua rfl rfl <| Wn <| Rg 1 rfl <| Ua rfl rfl <| Wn <| WC.block <| Rg 15 rfl <| Um rfl rfl <| WO.U (oEql rfl rfl) rfl <| WO.D (fun h38 => ?_) (fun h38 => ?_)
 ·refine Um rfl rfl <| K1 rfl rfl <| K1 rfl rfl <| K1 rfl rfl <| K1 rfl rfl <| WO.U (oPkT rfl rfl) rfl <| Um rfl rfl <| K1 rfl rfl <| K1 rfl rfl <| K1 rfl rfl <| K1 rfl rfl <| WO.U (oPkT rfl rfl) rfl <| Ua rfl rfl <| Nk [1,2,3,4,5,6,13,14,36] rfl <| WC.cT1 rfl <| WC.reg1z (z := 1) rfl <| Ua rfl rfl <| Wn <| after_normal ?_
  have he : (eT ss l pl L st) = 1 := eT_1 (eA_no h38)
  refine Rg 12 rfl <| WO.U (oLdP (l := lvMo k ss) rfl rfl (by repeat (first | exact g0 | refine g1 (by decide) ?_)) rfl rfl) rfl ?_
  refine Um rfl rfl <| Um rfl rfl <| Um rfl rfl <| Um rfl rfl <| Um rfl rfl <| WO.U (OP.cast (b := .tup [.v (.bool false), .v (.int .i64 1)]) (oCall rfl (attains_run k kl kL ks ss l pl L st b hI hKN ll hLL hsl) (allData_of (by intro c hc; simp only [List.mem_cons, List.not_mem_nil, or_false] at hc; rcases hc with rfl | rfl | rfl | rfl | rfl | rfl; exact dc1; exact dc1; exact .v _; exact dc1; exact dc1; exact .v _))) (by rw [he, aT_no (by rw [he]; decide)])) rfl <| Um rfl rfl <| WO.U (oEx rfl rfl) rfl <| WO.U (oEx rfl rfl) rfl <| Ua rfl rfl <| Ua rfl rfl <| Nk [13,14,15,16] rfl <| Rg 12 rfl <| Um rfl rfl <| Um rfl rfl <| WO.U (OP.cast (b := .v (.bool true)) (oEqB rfl rfl rfl) (by exact congrArg (fun z => LV.v (.bool z)) (rfl))) rfl <| Um rfl rfl <| WO.Ug rfl (oMv rfl) rfl <| WO.Ug rfl (oMv rfl) rfl <| WO.Ug rfl (OP.cast (b := .v (.bool true)) (oEql rfl rfl) (by exact congrArg (fun z => LV.v (.bool z)) (decide_eq_true rfl))) rfl <| WO.U (oPkT rfl rfl) rfl <| Um rfl rfl <| WO.Ug rfl (oCall rfl (awake_run) dD) rfl ?_
  refine WO.U (oPkT rfl rfl) rfl <| Ua rfl rfl <| Nk [12] rfl <| WC.ret <| post (n := 0) (.inr rfl) rfl ?_ dD
  rfl
 refine Um rfl rfl <| WO.Ug rfl (oLdP (l := lvMo k ss) rfl rfl (by repeat (first | exact g0 | refine g1 (by decide) ?_)) rfl rfl) rfl ?_
 refine WO.Ug rfl (oMv rfl) rfl <| WO.Ug rfl (oCall rfl (qset_run k kL ss L hLL) dD) rfl <| WO.B (fun h42 => ?_) (fun h42 => ?_)
 rotate_left
 ·refine WO.Ug rfl (oNot rfl) rfl <| WO.U (oPkF rfl rfl) rfl <| Um rfl rfl <| K1 rfl rfl <| K1 rfl rfl <| K1 rfl rfl <| K1 rfl rfl <| WO.U (oPkT rfl rfl) rfl <| Ua rfl rfl <| Nk [1,2,3,4,5,6,13,14,36] rfl <| WC.cT1 rfl <| WC.reg1z (z := 1) rfl <| Ua rfl rfl <| Wn <| after_normal ?_
  have he : (eT ss l pl L st) = 1 := eT_1 (fun h => by rw [h42] at h; cases h.2.2.1)
  refine Rg 12 rfl <| WO.U (oLdP (l := lvMo k ss) rfl rfl (by repeat (first | exact g0 | refine g1 (by decide) ?_)) rfl rfl) rfl ?_
  refine Um rfl rfl <| Um rfl rfl <| Um rfl rfl <| Um rfl rfl <| Um rfl rfl <| WO.U (OP.cast (b := .tup [.v (.bool false), .v (.int .i64 1)]) (oCall rfl (attains_run k kl kL ks ss l pl L st b hI hKN ll hLL hsl) (allData_of (by intro c hc; simp only [List.mem_cons, List.not_mem_nil, or_false] at hc; rcases hc with rfl | rfl | rfl | rfl | rfl | rfl; exact dc1; exact dc1; exact .v _; exact dc1; exact dc1; exact .v _))) (by rw [he, aT_no (by rw [he]; decide)])) rfl <| Um rfl rfl <| WO.U (oEx rfl rfl) rfl <| WO.U (oEx rfl rfl) rfl <| Ua rfl rfl <| Ua rfl rfl <| Nk [13,14,15,16] rfl <| Rg 12 rfl <| Um rfl rfl <| Um rfl rfl <| WO.U (OP.cast (b := .v (.bool true)) (oEqB rfl rfl rfl) (by exact congrArg (fun z => LV.v (.bool z)) (rfl))) rfl <| Um rfl rfl <| WO.Ug rfl (oMv rfl) rfl <| WO.Ug rfl (oMv rfl) rfl <| WO.Ug rfl (OP.cast (b := .v (.bool true)) (oEql rfl rfl) (by exact congrArg (fun z => LV.v (.bool z)) (decide_eq_true rfl))) rfl <| WO.U (oPkT rfl rfl) rfl <| Um rfl rfl <| WO.Ug rfl (oCall rfl (awake_run) dD) rfl ?_
  refine WO.U (oPkT rfl rfl) rfl <| Ua rfl rfl <| Nk [12] rfl <| WC.ret ?_
  exact post (n := 0) (.inr rfl) rfl rfl (by simp)
 refine WO.Ug rfl (oNot rfl) rfl <| WO.U (oPkF rfl rfl) rfl <| Um rfl rfl <| WO.Ug rfl (oLdP (l := lvMo k ss) rfl rfl (by repeat (first | exact g0 | refine g1 (by decide) ?_)) rfl rfl) rfl ?_
 refine WO.Ug rfl (oMv rfl) rfl <| WO.Ug rfl (oCall rfl (qstrat_run k ks ss st hsl) dD) rfl <| WO.B (fun h48 => ?_) (fun h48 => ?_)
 rotate_left
 ·refine WO.Ug rfl (oNot rfl) rfl <| WO.U (oPkF rfl rfl) rfl <| Ua rfl rfl <| Nk [1,2,3,4,5,6,13,14,36] rfl <| WC.cT1 rfl <| WC.reg1z (z := 1) rfl <| Ua rfl rfl <| Wn <| after_normal ?_
  have he : (eT ss l pl L st) = 1 := eT_1 (fun h => by rw [h48] at h; cases h.2.2.2)
  refine Rg 12 rfl <| WO.U (oLdP (l := lvMo k ss) rfl rfl (by repeat (first | exact g0 | refine g1 (by decide) ?_)) rfl rfl) rfl ?_
  refine Um rfl rfl <| Um rfl rfl <| Um rfl rfl <| Um rfl rfl <| Um rfl rfl <| WO.U (OP.cast (b := .tup [.v (.bool false), .v (.int .i64 1)]) (oCall rfl (attains_run k kl kL ks ss l pl L st b hI hKN ll hLL hsl) (allData_of (by intro c hc; simp only [List.mem_cons, List.not_mem_nil, or_false] at hc; rcases hc with rfl | rfl | rfl | rfl | rfl | rfl; exact dc1; exact dc1; exact .v _; exact dc1; exact dc1; exact .v _))) (by rw [he, aT_no (by rw [he]; decide)])) rfl <| Um rfl rfl <| WO.U (oEx rfl rfl) rfl <| WO.U (oEx rfl rfl) rfl <| Ua rfl rfl <| Ua rfl rfl <| Nk [13,14,15,16] rfl <| Rg 12 rfl <| Um rfl rfl <| Um rfl rfl <| WO.U (OP.cast (b := .v (.bool true)) (oEqB rfl rfl rfl) (by exact congrArg (fun z => LV.v (.bool z)) (rfl))) rfl <| Um rfl rfl <| WO.Ug rfl (oMv rfl) rfl <| WO.Ug rfl (oMv rfl) rfl <| WO.Ug rfl (OP.cast (b := .v (.bool true)) (oEql rfl rfl) (by exact congrArg (fun z => LV.v (.bool z)) (decide_eq_true rfl))) rfl <| WO.U (oPkT rfl rfl) rfl <| Um rfl rfl <| WO.Ug rfl (oCall rfl (awake_run) dD) rfl ?_
  refine WO.U (oPkT rfl rfl) rfl <| Ua rfl rfl <| Nk [12] rfl <| WC.ret ?_
  exact post (n := 0) (.inr rfl) rfl rfl (by simp)
 refine WO.Ug rfl (oNot rfl) rfl <| WO.U (oPkF rfl rfl) rfl <| Ua rfl rfl <| Nk [1,2,3,4,5,6,13,14,36] rfl <| WC.cF1 rfl <| Rg 3 rfl <| Um rfl rfl <| WO.U (oNeq rfl rfl) rfl <| WO.D (fun h53 => ?_) (fun h53 => ?_)
 ·refine Ua rfl rfl <| Wn <| WC.cT1 rfl <| WC.skip <| after_normal ?_
  have he : (eT ss l pl L st) = (eA ss l pl) := (eT_6 ⟨(eA_1 h38).1, (eA_1 h38).2, h42, h48⟩ (eA_6 h38 h53).1).trans (eA_6 h38 h53).2.symm
  refine Rg 12 rfl <| WO.U (oLdP (l := lvMo k ss) rfl rfl (by repeat (first | exact g0 | refine g1 (by decide) ?_)) rfl rfl) rfl ?_
  refine Um rfl rfl <| Um rfl rfl <| Um rfl rfl <| Um rfl rfl <| Um rfl rfl <| WO.U (OP.cast (b := .tup [.v (.bool false), .v (.int .i64 (eA ss l pl))]) (oCall rfl (attains_run k kl kL ks ss l pl L st b hI hKN ll hLL hsl) (allData_of (by intro c hc; simp only [List.mem_cons, List.not_mem_nil, or_false] at hc; rcases hc with rfl | rfl | rfl | rfl | rfl | rfl; exact dc1; exact dc1; exact .v _; exact dc1; exact dc1; exact .v _))) (by rw [he, aT_no (by rw [he]; exact h53)])) rfl <| Um rfl rfl <| WO.U (oEx rfl rfl) rfl <| WO.U (oEx rfl rfl) rfl <| Ua rfl rfl <| Ua rfl rfl <| Nk [13,14,15,16] rfl <| Rg 12 rfl <| Um rfl rfl <| Um rfl rfl <| WO.U (OP.cast (b := .v (.bool true)) (oEqB rfl rfl rfl) (by exact congrArg (fun z => LV.v (.bool z)) (rfl))) rfl <| Um rfl rfl <| WO.Ug rfl (oMv rfl) rfl <| WO.Ug rfl (oMv rfl) rfl <| WO.Ug rfl (OP.cast (b := .v (.bool true)) (oEql rfl rfl) (by exact congrArg (fun z => LV.v (.bool z)) (decide_eq_true rfl))) rfl <| WO.U (oPkT rfl rfl) rfl <| Um rfl rfl <| WO.Ug rfl (oCall rfl (awake_run) dD) rfl ?_
  refine WO.U (oPkT rfl rfl) rfl <| Ua rfl rfl <| Nk [12] rfl <| WC.ret ?_
  exact post (n := 0) (.inr rfl) rfl rfl (by simp)
 refine Ua rfl rfl <| Wn <| WC.cF1 rfl ?_
 have h1 := eA_1 h38
 have hp : pl = 0 ∨ pl = 1 := (eA_ok (show eA ss l pl = 0 by omega)).2.2
 have hV := VMo_1 h1.1
 refine Rg 6 rfl <| WO.U (oLdP (l := lvMo k ss) rfl rfl (by repeat (first | exact g0 | refine g1 (by decide) ?_)) rfl rfl) rfl ?_
 refine Um rfl rfl <| Um rfl rfl <| WO.U (oCall rfl (qalone_run k ks ss pl st hsl) dD) rfl <| WO.B (fun h58 => ?_) (fun h58 => ?_)
 rotate_left
 ·refine WO.U (oNot rfl) rfl <| Ua rfl rfl <| Nk [1,2,3,4,5,6,13,14,54] rfl <| WC.cT1 rfl <| WC.reg1z (z := 1) rfl <| Ua rfl rfl <| Wn <| after_normal ?_
  have he : (eT ss l pl L st) = 7 := eT_7 ⟨h1.1, h1.2, h42, h48⟩ hp h58
  refine Rg 12 rfl <| WO.U (oLdP (l := lvMo k ss) rfl rfl (by repeat (first | exact g0 | refine g1 (by decide) ?_)) rfl rfl) rfl ?_
  refine Um rfl rfl <| Um rfl rfl <| Um rfl rfl <| Um rfl rfl <| Um rfl rfl <| WO.U (OP.cast (b := .tup [.v (.bool false), .v (.int .i64 7)]) (oCall rfl (attains_run k kl kL ks ss l pl L st b hI hKN ll hLL hsl) (allData_of (by intro c hc; simp only [List.mem_cons, List.not_mem_nil, or_false] at hc; rcases hc with rfl | rfl | rfl | rfl | rfl | rfl; exact dc1; exact dc1; exact .v _; exact dc1; exact dc1; exact .v _))) (by rw [he, aT_no (by rw [he]; decide)])) rfl <| Um rfl rfl <| WO.U (oEx rfl rfl) rfl <| WO.U (oEx rfl rfl) rfl <| Ua rfl rfl <| Ua rfl rfl <| Nk [13,14,15,16] rfl <| Rg 12 rfl <| Um rfl rfl <| Um rfl rfl <| WO.U (OP.cast (b := .v (.bool true)) (oEqB rfl rfl rfl) (by exact congrArg (fun z => LV.v (.bool z)) (rfl))) rfl <| Um rfl rfl <| WO.Ug rfl (oMv rfl) rfl <| WO.Ug rfl (oMv rfl) rfl <| WO.Ug rfl (OP.cast (b := .v (.bool true)) (oEql rfl rfl) (by exact congrArg (fun z => LV.v (.bool z)) (decide_eq_true rfl))) rfl <| WO.U (oPkT rfl rfl) rfl <| Um rfl rfl <| WO.Ug rfl (oCall rfl (awake_run) dD) rfl ?_
  refine WO.U (oPkT rfl rfl) rfl <| Ua rfl rfl <| Nk [12] rfl <| WC.ret ?_
  exact post (n := 0) (.inr rfl) rfl rfl (by simp)
 refine WO.U (oNot rfl) rfl <| Ua rfl rfl <| Nk [1,2,3,4,5,6,13,14,54] rfl <| WC.cF1 rfl <| WC.reg1z (z := 8) rfl <| WO.U (oLdP (l := lvMo k ss) rfl rfl (by repeat (first | exact g0 | refine g1 (by decide) ?_)) rfl rfl) rfl ?_
 refine Um rfl rfl <| Um rfl rfl <| Um rfl rfl <| Um rfl rfl <| Um rfl rfl <| WO.U (oCall rfl (qholds_run k kl kL ks ss l pl L st b hp hV.wl hV.pos h48 h1.2 ll h42 hLL) (allData_of (by intro c hc; simp only [List.mem_cons, List.not_mem_nil, or_false] at hc; rcases hc with rfl | rfl | rfl | rfl | rfl | rfl; exact dc1; exact dc1; exact .v _; exact dc1; exact dc1; exact .v _))) rfl <| Ua rfl rfl <| Wn <| after_normal <| Ck [1,2,3,4,5,6,13,14] rfl ?_
 have he : (eT ss l pl L st) = (eA ss l pl) := (eT_0 ⟨h1.1, h1.2, h42, h48⟩ hp h58).trans (show 0 = eA ss l pl by omega)
 refine Rg 12 rfl <| WO.U (oLdP (l := lvMo k ss) rfl rfl (by repeat (first | exact g0 | refine g1 (by decide) ?_)) rfl rfl) rfl ?_
 refine Um rfl rfl <| Um rfl rfl <| Um rfl rfl <| Um rfl rfl <| Um rfl rfl <| WO.U (OP.cast (b := .tup [.v (.bool (hlds ss l pl L st b)), .v (.int .i64 (eA ss l pl))]) (oCall rfl (attains_run k kl kL ks ss l pl L st b hI hKN ll hLL hsl) (allData_of (by intro c hc; simp only [List.mem_cons, List.not_mem_nil, or_false] at hc; rcases hc with rfl | rfl | rfl | rfl | rfl | rfl; exact dc1; exact dc1; exact .v _; exact dc1; exact dc1; exact .v _))) (by rw [he, aT_hlds (he.trans (show eA ss l pl = 0 by omega))])) rfl <| Um rfl rfl <| WO.U (oEx rfl rfl) rfl <| WO.U (oEx rfl rfl) rfl <| Ua rfl rfl <| Ua rfl rfl <| Nk [13,14,15,16] rfl <| Rg 12 rfl <| Um rfl rfl <| Um rfl rfl <| WO.U (OP.cast (b := .v (.bool true)) (oEqB rfl rfl rfl) (by exact congrArg (fun z => LV.v (.bool z)) (by simp))) rfl <| Um rfl rfl <| WO.Ug rfl (oMv rfl) rfl <| WO.Ug rfl (oMv rfl) rfl <| WO.Ug rfl (OP.cast (b := .v (.bool true)) (oEql rfl rfl) (by exact congrArg (fun z => LV.v (.bool z)) (decide_eq_true rfl))) rfl <| WO.U (oPkT rfl rfl) rfl <| Um rfl rfl <| WO.Ug rfl (oCall rfl (awake_run) dD) rfl ?_
 refine WO.U (oPkT rfl rfl) rfl <| Ua rfl rfl <| Nk [12] rfl <| WC.ret ?_
 exact post (n := 0) (.inr rfl) rfl rfl (by simp)
end Go.Proofs.YthpnlndhebcngaaGreat
