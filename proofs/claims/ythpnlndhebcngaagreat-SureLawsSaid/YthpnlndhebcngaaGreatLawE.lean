/- Part E of the proof of sureLaws_holds: what it rests on. No condition. -/
import Derived.Test.YthpnlndhebcngaaGreatLawD
set_option linter.unusedVariables false
set_option linter.unusedSimpArgs false
set_option maxRecDepth 100000
set_option maxHeartbeats 8000000
namespace Go.Proofs.YthpnlndhebcngaaGreat
open Go.Ab Go.RowKit
theorem qchoice_run (m : Nat) (c : CH) (hI : IC c) (hm : m < 1000000) : Run Tryz.prog T E0 (.call 49 [lvC c, .v (.int .i64 (m : Int))] (.v (.bool (VC m c)))) := by
 refine mkcall Tryz.func49 rfl rfl (Nat.le_of_ble_eq_true rfl) <| Rg 2 rfl <| WO.S (oBx rfl rfl) rfl <| Ua rfl rfl <| Wn <| WC.assoc <| Rg 16 rfl <| WO.U (oFaP rfl rfl rfl rfl rfl) rfl <| WO.U (oLdP (l := lvM c.1) rfl rfl (by repeat (first | exact g0 | refine g1 (by decide) ?_)) rfl rfl) rfl ?_
 refine WO.U (oCall rfl (nnvalid_run c.1 hI.1 hI.2.1) dD) rfl <| WO.B (fun h10 => ?_) (fun h10 => ?_)
 rotate_left
 ·refine WO.U (oNot rfl) rfl <| Um rfl rfl <| K1 rfl rfl <| K1 rfl rfl <| K1 rfl rfl <| K1 rfl rfl <| WO.U (oPkT rfl rfl) rfl <| Um rfl rfl <| K1 rfl rfl <| K1 rfl rfl <| K1 rfl rfl <| K1 rfl rfl <| WO.U (oPkT rfl rfl) rfl <| Nk [1,2,23] rfl <| WC.cT rfl <| WC.assoc <| Rg 1 rfl <| Ua rfl rfl <| Wn <| WC.rets <| post (n := 0) (.inr rfl) rfl ?_ dD
  exact congrArg (fun z => LV.v (.bool z)) (show false = VC m c from (VC_no1 h10).symm)
 refine WO.U (oNot rfl) rfl <| Um rfl rfl <| WO.Ug rfl (oFaP rfl rfl rfl rfl rfl) rfl <| WO.Ug rfl (oLdP rfl rfl (by repeat (first | exact g0 | refine g1 (by decide) ?_)) rfl rfl) rfl ?_
 refine WO.Ug rfl (oLenM rfl rfl) rfl <| WO.Ug rfl (oLss rfl rfl) rfl <| WO.D (fun h16 => ?_) (fun h16 => ?_)
 ·refine WO.U (oPkF rfl rfl) rfl <| Um rfl rfl <| K1 rfl rfl <| K1 rfl rfl <| K1 rfl rfl <| K1 rfl rfl <| WO.U (oPkT rfl rfl) rfl <| Nk [1,2,23] rfl <| WC.cT rfl <| WC.assoc <| Rg 1 rfl <| Ua rfl rfl <| Wn <| WC.rets <| post (n := 0) (.inr rfl) rfl ?_ dD
  exact congrArg (fun z => LV.v (.bool z)) (show false = VC m c from (VC_no2 om).symm)
 refine WO.U (oPkF rfl rfl) rfl <| Um rfl rfl <| WO.Ug rfl (oFaP rfl rfl rfl rfl rfl) rfl <| WO.Ug rfl (oLdP rfl rfl (by repeat (first | exact g0 | refine g1 (by decide) ?_)) rfl rfl) rfl ?_
 refine WO.Ug rfl (oLenM rfl rfl) rfl <| WO.Ug rfl (oGtr rfl rfl) rfl <| WO.D (fun h22 => ?_) (fun h22 => ?_)
 ·refine WO.U (oPkF rfl rfl) rfl <| Nk [1,2,23] rfl <| WC.cT rfl <| WC.assoc <| Rg 1 rfl <| Ua rfl rfl <| Wn <| WC.rets <| post (n := 0) (.inr rfl) rfl ?_ dD
  exact congrArg (fun z => LV.v (.bool z)) (show false = VC m c from (VC_no2 om).symm)
 refine WO.U (oPkF rfl rfl) rfl <| Nk [1,2,23] rfl <| WC.cF rfl <| WC.skips <| Rg 3 rfl <| WO.U (OP.cast (b := lvQ 0) (oCall rfl (nwhole_run 0 (by unfold I64; omega)) dD) rfl) rfl <| WO.S (oAl rfl) rfl <| WO.S0 (oSt (cs' := qc 0) rfl rfl rfl g0 rfl rfl rfl rfl) <| Wn <| WC.assoc <| Rg 4 rfl <| WO.U (oFaP rfl rfl rfl rfl rfl) rfl <| WO.U (oLdP rfl rfl (by repeat (first | exact g0 | refine g1 (by decide) ?_)) rfl rfl) rfl ?_
 refine WO.U (oLenM rfl rfl) rfl <| Um rfl rfl <| Wn <| WC.block <| WC.loopV (α := Nat × Rat) (fun ⟨i, s⟩ => [(1, .v (.int .i64 (m : Int))), (2, .ptr 0 0), (5, .ptr 19 0), (26, .sl c.2.1 (c.2.2.map brc)), (27, .v (.int .i64 (c.2.2.length : Int))), (28, .v (.int .i64 (i : Int)))]) (fun ⟨i, s⟩ => [(19, { cells := qc (s), sz := 6, elem := 98, st := 0 }), (0, { cells := chc c, sz := 3, elem := (73), st := 0 })]) (fun ⟨i, s⟩ n => i ≤ c.2.2.length ∧ s = psum c.2.2 i ∧ (∀ j, j < i → okB m c.2.2 j = true) ∧ 19 < n) (fun ⟨i, s⟩ => c.2.2.length - i) (0, 0) ⟨rfl, rfl, rfl, rfl, rfl, rfl, trivial⟩ ⟨(by repeat (first | exact g0 | refine g1 (by decide) ?_)), (by repeat (first | exact g0 | refine g1 (by decide) ?_)), trivial⟩ ⟨Nat.zero_le _, rfl, fun j hj => absurd hj om, om⟩ ?_
 rintro ⟨i, s⟩ n hF
 change WC _ _ _ _ _ (_ :: _) (_ :: _) n _
 obtain ⟨hi, hs, hok, hn⟩ := hF
 refine Rg 1 rfl <| WO.U (oLss rfl rfl) rfl <| WO.D (fun h29 => ?_) (fun h29 => ?_)
 rotate_left
 ·refine Wn <| WC.cF rfl <| WC.exits <| loopR_exit <| after_exit rfl ?_
  have hok' : ∀ j, j < c.2.2.length → okB m c.2.2 j = true := fun j hj => hok j om
  have hsb := psum_bd (bs := c.2.2) i om (fun j hj => (okB_vn (hok j hj)).1)
  have hil : i = c.2.2.length := by omega
  refine WC.draw (z := 5) rfl (by kernel_rfl) <| WD.U (oLdP (l := lvQ s) rfl rfl gG rfl rfl) rfl ?_
  refine WD.U (OP.cast (b := lvQ 1) (oCall rfl (nwhole_run 1 (by unfold I64; omega)) dD) rfl) rfl <| WD.U (oCall rfl (nrcmp_run s 1 (by rw [hs]; exact hsb.mono om) (Bd1.mono (by decide))) dD) rfl <| WD.U (OP.cast (b := .v (.bool (decide (psum c.2.2 c.2.2.length = 1)))) (oEql rfl rfl) (congrArg (fun z => LV.v (.bool z)) (decide_eq_decide.2 (by rw [hs, hil]; exact sign_one)))) rfl <| WD.U (oAs rfl) rfl <| WD.nil (drawOk_of (by kernel_rfl)) rfl <| WC.ret <| post (n := 0) (.inr rfl) rfl ?_ dD
  exact congrArg (fun z => LV.v (.bool z)) (show decide (psum c.2.2 c.2.2.length = 1) = VC m c from (VC_yes h10 om om hok').symm)
 refine Wn <| WC.cT rfl <| WC.skips <| WC.block ?_
 have hIb := hI.2.2 _ (getD_mem (us := c.2.2) (i := i) om)
 have hlo := okB_lo i hok
 have hl0 : 0 < i → lastB c.2.2 i = (c.2.2.getD (i - 1) default).1 := lastB_pos
 have hl1 : ¬ 0 < i → lastB c.2.2 i = -1 := fun h => by rw [show i = 0 by omega]; rfl
 refine Rg 6 rfl <| Um rfl rfl <| WO.U (oIxM rfl rfl rfl rfl rfl om rfl) rfl <| WO.U (oLd (l := .agg [_, _, _]) rfl rfl rfl) rfl <| WO.S (oAl rfl) rfl <| Ua rfl rfl <| WO.S0 (oSt (cs' := [_, _, _]) rfl rfl rfl gG rfl rfl rfl rfl) ?_
 refine Wn <| WC.assoc <| WC.draw (z := 37) rfl (by kernel_rfl) <| WD.U (oFaP rfl rfl rfl rfl rfl) rfl <| WD.U (oLdP rfl rfl gG rfl rfl) rfl ?_
 refine WD.U (oLss rfl rfl) rfl <| WD.D (fun h35 => ?_) (fun h35 => ?_)
 ·refine Dm rfl rfl <| WD.K rfl rfl <| WD.K rfl rfl <| WD.K rfl rfl <| WD.K rfl rfl <| WD.U (oPkT rfl rfl) rfl <| Dm rfl rfl <| WD.K rfl rfl <| WD.K rfl rfl <| WD.K rfl rfl <| WD.K rfl rfl <| WD.K rfl rfl <| WD.K rfl rfl <| WD.K rfl rfl <| WD.K rfl rfl <| WD.K rfl rfl <| WD.K rfl rfl <| WD.K rfl rfl <| WD.K rfl rfl <| WD.K rfl rfl <| WD.K rfl rfl <| WD.U (oPkT rfl rfl) rfl <| Dm rfl rfl <| WD.K rfl rfl ?_
  refine WD.K rfl rfl <| WD.K rfl rfl <| WD.K rfl rfl <| WD.U (oPkT rfl rfl) rfl <| Dm rfl rfl <| WD.K rfl rfl <| WD.K rfl rfl <| WD.K rfl rfl <| WD.K rfl rfl <| WD.U (oPkT rfl rfl) rfl <| WD.nil (drawOk_of (by kernel_rfl)) rfl <| Ck [1,2,5,7,26,27,28,37,38,39,40,43,44,45,46,47,48,49,50,51,52,53,54,55,56,59,60,61,62,65,66,67,68,69] rfl <| WC.cT rfl <| WC.assoc <| Rg 1 rfl <| Ua rfl rfl <| Nk [4] rfl <| WC.rets <| after_ret <| loopR_ret <| after_ret <| post (n := 0) (.inr rfl) rfl ?_ dD
  exact congrArg (fun z => LV.v (.bool z)) (show false = VC m c from (VC_no3 (i := i) om (okB_no (.inl om))).symm)
 refine Dm rfl rfl <| WD.Ug rfl (oFaP rfl rfl rfl rfl rfl) rfl <| WD.Ug rfl (oLdP rfl rfl gG rfl rfl) rfl ?_
 refine WD.Ug rfl (oMv rfl) rfl <| WD.Ug rfl (oGeq rfl rfl) rfl <| WD.D (fun h40 => ?_) (fun h40 => ?_)
 ·refine WD.U (oPkF rfl rfl) rfl <| Dm rfl rfl <| WD.K rfl rfl <| WD.K rfl rfl <| WD.K rfl rfl <| WD.K rfl rfl <| WD.K rfl rfl <| WD.K rfl rfl <| WD.K rfl rfl <| WD.K rfl rfl <| WD.K rfl rfl <| WD.K rfl rfl <| WD.K rfl rfl <| WD.K rfl rfl <| WD.K rfl rfl <| WD.K rfl rfl <| WD.U (oPkT rfl rfl) rfl <| Dm rfl rfl <| WD.K rfl rfl <| WD.K rfl rfl <| WD.K rfl rfl <| WD.K rfl rfl <| WD.U (oPkT rfl rfl) rfl <| Dm rfl rfl ?_
  refine WD.K rfl rfl <| WD.K rfl rfl <| WD.K rfl rfl <| WD.K rfl rfl <| WD.U (oPkT rfl rfl) rfl <| WD.nil (drawOk_of (by kernel_rfl)) rfl <| Ck [1,2,5,7,26,27,28,37,38,39,40,43,44,45,46,47,48,49,50,51,52,53,54,55,56,59,60,61,62,65,66,67,68,69] rfl <| WC.cT rfl <| WC.assoc <| Rg 1 rfl <| Ua rfl rfl <| Nk [4] rfl <| WC.rets <| after_ret <| loopR_ret <| after_ret <| post (n := 0) (.inr rfl) rfl ?_ dD
  exact congrArg (fun z => LV.v (.bool z)) (show false = VC m c from (VC_no3 (i := i) om (okB_no (.inr (.inl om)))).symm)
 refine WD.U (oPkF rfl rfl) rfl <| Dm rfl rfl <| WD.Ug rfl (oMv rfl) rfl <| WD.Ug rfl (oGtr rfl rfl) rfl <| WD.D (fun h44 => ?_) (fun h44 => ?_)
 rotate_left
 ·refine WD.Ug rfl (oMv rfl) rfl <| WD.K rfl rfl <| WD.K rfl rfl <| WD.K rfl rfl <| WD.K rfl rfl <| WD.K rfl rfl <| WD.K rfl rfl <| WD.K rfl rfl <| WD.K rfl rfl <| WD.K rfl rfl <| WD.K rfl rfl <| WD.Ug rfl (oPkF rfl rfl) rfl <| WD.U (oPkF rfl rfl) rfl <| Dm rfl rfl <| WD.Ug rfl (oFaP rfl rfl rfl rfl rfl) rfl <| WD.Ug rfl (oLdP (l := lvM (c.2.2.getD i default).2) rfl rfl gG rfl rfl) rfl ?_
  refine WD.Ug rfl (oCall rfl (nnvalid_run (c.2.2.getD i default).2 hIb.2.1 hIb.2.2) dD) rfl <| WD.B (fun h61 => ?_) (fun h61 => ?_)
  rotate_left
  ·refine WD.Ug rfl (oNot rfl) rfl <| WD.U (oPkF rfl rfl) rfl <| Dm rfl rfl <| WD.K rfl rfl <| WD.K rfl rfl <| WD.K rfl rfl <| WD.K rfl rfl <| WD.U (oPkT rfl rfl) rfl <| WD.nil (drawOk_of (by kernel_rfl)) rfl <| Ck [1,2,5,7,26,27,28,37,38,39,40,43,44,45,46,47,48,49,50,51,52,53,54,55,56,59,60,61,62,65,66,67,68,69] rfl <| WC.cT rfl <| WC.assoc <| Rg 1 rfl <| Ua rfl rfl <| Nk [4] rfl <| WC.rets <| after_ret <| loopR_ret <| after_ret <| post (n := 0) (.inr rfl) rfl ?_ dD
   exact congrArg (fun z => LV.v (.bool z)) (show false = VC m c from (VC_no3 (i := i) om (okB_no (.inr (.inr (.inl h61))))).symm)
  refine WD.Ug rfl (oNot rfl) rfl <| WD.U (oPkF rfl rfl) rfl <| Dm rfl rfl <| WD.Ug rfl (oFaP rfl rfl rfl rfl rfl) rfl <| WD.Ug rfl (oFaP rfl rfl rfl rfl rfl) rfl <| WD.Ug rfl (oLdP rfl rfl gG rfl rfl) rfl ?_
  refine WD.Ug rfl (oLeq rfl rfl) rfl <| WD.D (fun h68 => ?_) (fun h68 => ?_)
  ·refine WD.U (oPkF rfl rfl) rfl <| WD.nil (drawOk_of (by kernel_rfl)) rfl <| Ck [1,2,5,7,26,27,28,37,38,39,40,43,44,45,46,47,48,49,50,51,52,53,54,55,56,59,60,61,62,65,66,67,68,69] rfl <| WC.cT rfl <| WC.assoc <| Rg 1 rfl <| Ua rfl rfl <| Nk [4] rfl <| WC.rets <| after_ret <| loopR_ret <| after_ret <| post (n := 0) (.inr rfl) rfl ?_ dD
   exact congrArg (fun z => LV.v (.bool z)) (show false = VC m c from (VC_no3 (i := i) om (okB_no (.inr (.inr (.inr om))))).symm)
  refine WD.U (oPkF rfl rfl) rfl <| WD.nil (drawOk_of (by kernel_rfl)) rfl <| Ck [1,2,5,7,26,27,28,37,38,39,40,43,44,45,46,47,48,49,50,51,52,53,54,55,56,59,60,61,62,65,66,67,68,69] rfl <| WC.cF rfl <| WC.skips ?_
  have hvb : VN (c.2.2.getD i default).2 := of_decide_eq_true h61
  have hokI : okB m c.2.2 i = true := okB_yes om om h61 om
  have hsb := psum_bd (bs := c.2.2) i om (fun j hj => (okB_vn (hok j hj)).1)
  refine WC.draw1z (z := 6) rfl (by kernel_rfl) <| WD.U (oLdP (l := lvQ s) rfl rfl gG rfl rfl) rfl ?_
  refine WD.U (oFaP rfl rfl rfl rfl rfl) rfl <| WD.U (oLdP (l := lvM (c.2.2.getD i default).2) rfl rfl gG rfl rfl) rfl ?_
  refine WD.U (OP.cast (b := lvQ (nq (c.2.2.getD i default).2)) (oCall rfl (nto_run (c.2.2.getD i default).2 hIb.2.1 hIb.2.2 hvb) dD) rfl) rfl <| WD.U (oCall rfl (nradd_run s (nq (c.2.2.getD i default).2) (by rw [hs]; exact hsb.mono om) (hvb.bd.mono (by decide))) dD) rfl <| WD.S0 (oSt (cs' := qc (s + nq (c.2.2.getD i default).2)) rfl rfl rfl gG rfl rfl rfl rfl) ?_
  refine WD.nil (drawOk_of (by kernel_rfl)) rfl <| after_normal <| Ck [1,2,5,26,27,28,37,38,39,40,43,44,45,46,47,48,49,50,51,52,53,54,55,56,59,60,61,62,65,66,67,68] rfl <| WC.reg1z (z := 2) rfl <| WO.U (cI (((i + 1 : Nat) : Int)) (oAdd64 rfl rfl om) om) rfl <| Um rfl rfl <| Wn <| loopR_normal <| ⟨⟨i + 1, s + nq (c.2.2.getD i default).2⟩, ⟨rfl, rfl, rfl, rfl, rfl, rfl, trivial⟩, ⟨gG, gG, trivial⟩, ⟨om, by rw [psum, ← hs], fun j hj => ?_, om⟩, by show c.2.2.length - (i + 1) < c.2.2.length - i; omega⟩
  by_cases e : j = i
  ·rw [e]; exact hokI
  ·exact hok j om
 refine WD.Ug rfl (oMv rfl) rfl <| WD.Ug rfl (oFaP rfl rfl rfl rfl rfl) rfl <| WD.Ug rfl (oLdP rfl rfl gG rfl rfl) rfl ?_
 refine WD.Ug rfl (oFaP rfl rfl rfl rfl rfl) rfl <| WD.Ug rfl (oLdP rfl rfl gG rfl rfl) rfl ?_
 refine WD.Ug rfl (oMv rfl) rfl <| WD.Ug rfl (cI (((i - 1 : Nat) : Int)) (oSub64 rfl rfl om) om) rfl <| WD.Ug rfl (oIxM (j := i - 1) rfl rfl rfl rfl om om rfl) rfl <| WD.Ug rfl (oFa rfl rfl rfl rfl rfl) rfl <| WD.Ug rfl (oLd rfl rfl rfl) rfl <| WD.Ug rfl (oLeq rfl rfl) rfl <| WD.D (fun h55 => ?_) (fun h55 => ?_)
 ·refine WD.Ug rfl (oPkT rfl rfl) rfl <| WD.U (oPkF rfl rfl) rfl <| Dm rfl rfl <| WD.K rfl rfl <| WD.K rfl rfl <| WD.K rfl rfl <| WD.K rfl rfl <| WD.U (oPkT rfl rfl) rfl <| Dm rfl rfl <| WD.K rfl rfl <| WD.K rfl rfl <| WD.K rfl rfl <| WD.K rfl rfl <| WD.U (oPkT rfl rfl) rfl <| WD.nil (drawOk_of (by kernel_rfl)) rfl <| Ck [1,2,5,7,26,27,28,37,38,39,40,43,44,45,46,47,48,49,50,51,52,53,54,55,56,59,60,61,62,65,66,67,68,69] rfl <| WC.cT rfl <| WC.assoc <| Rg 1 rfl <| Ua rfl rfl <| Nk [4] rfl <| WC.rets <| after_ret ?_
  refine loopR_ret <| after_ret <| post (n := 0) (.inr rfl) rfl ?_ dD
  exact congrArg (fun z => LV.v (.bool z)) (show false = VC m c from (VC_no3 (i := i) om (okB_no (.inl (by rw [hl0 om]; omega)))).symm)
 refine WD.Ug rfl (oPkT rfl rfl) rfl <| WD.U (oPkF rfl rfl) rfl <| Dm rfl rfl <| WD.Ug rfl (oFaP rfl rfl rfl rfl rfl) rfl <| WD.Ug rfl (oLdP (l := lvM (c.2.2.getD i default).2) rfl rfl gG rfl rfl) rfl ?_
 refine WD.Ug rfl (oCall rfl (nnvalid_run (c.2.2.getD i default).2 hIb.2.1 hIb.2.2) dD) rfl <| WD.B (fun h61 => ?_) (fun h61 => ?_)
 rotate_left
 ·refine WD.Ug rfl (oNot rfl) rfl <| WD.U (oPkF rfl rfl) rfl <| Dm rfl rfl <| WD.K rfl rfl <| WD.K rfl rfl <| WD.K rfl rfl <| WD.K rfl rfl <| WD.U (oPkT rfl rfl) rfl <| WD.nil (drawOk_of (by kernel_rfl)) rfl <| Ck [1,2,5,7,26,27,28,37,38,39,40,43,44,45,46,47,48,49,50,51,52,53,54,55,56,59,60,61,62,65,66,67,68,69] rfl <| WC.cT rfl <| WC.assoc <| Rg 1 rfl <| Ua rfl rfl <| Nk [4] rfl <| WC.rets <| after_ret <| loopR_ret <| after_ret <| post (n := 0) (.inr rfl) rfl ?_ dD
  exact congrArg (fun z => LV.v (.bool z)) (show false = VC m c from (VC_no3 (i := i) om (okB_no (.inr (.inr (.inl h61))))).symm)
 refine WD.Ug rfl (oNot rfl) rfl <| WD.U (oPkF rfl rfl) rfl <| Dm rfl rfl <| WD.Ug rfl (oFaP rfl rfl rfl rfl rfl) rfl <| WD.Ug rfl (oFaP rfl rfl rfl rfl rfl) rfl <| WD.Ug rfl (oLdP rfl rfl gG rfl rfl) rfl ?_
 refine WD.Ug rfl (oLeq rfl rfl) rfl <| WD.D (fun h68 => ?_) (fun h68 => ?_)
 ·refine WD.U (oPkF rfl rfl) rfl <| WD.nil (drawOk_of (by kernel_rfl)) rfl <| Ck [1,2,5,7,26,27,28,37,38,39,40,43,44,45,46,47,48,49,50,51,52,53,54,55,56,59,60,61,62,65,66,67,68,69] rfl <| WC.cT rfl <| WC.assoc <| Rg 1 rfl <| Ua rfl rfl <| Nk [4] rfl <| WC.rets <| after_ret <| loopR_ret <| after_ret <| post (n := 0) (.inr rfl) rfl ?_ dD
  exact congrArg (fun z => LV.v (.bool z)) (show false = VC m c from (VC_no3 (i := i) om (okB_no (.inr (.inr (.inr om))))).symm)
 refine WD.U (oPkF rfl rfl) rfl <| WD.nil (drawOk_of (by kernel_rfl)) rfl <| Ck [1,2,5,7,26,27,28,37,38,39,40,43,44,45,46,47,48,49,50,51,52,53,54,55,56,59,60,61,62,65,66,67,68,69] rfl <| WC.cF rfl <| WC.skips ?_
 have hvb : VN (c.2.2.getD i default).2 := of_decide_eq_true h61
 have hokI : okB m c.2.2 i = true := okB_yes om om h61 om
 have hsb := psum_bd (bs := c.2.2) i om (fun j hj => (okB_vn (hok j hj)).1)
 refine WC.draw1z (z := 6) rfl (by kernel_rfl) <| WD.U (oLdP (l := lvQ s) rfl rfl gG rfl rfl) rfl ?_
 refine WD.U (oFaP rfl rfl rfl rfl rfl) rfl <| WD.U (oLdP (l := lvM (c.2.2.getD i default).2) rfl rfl gG rfl rfl) rfl ?_
 refine WD.U (OP.cast (b := lvQ (nq (c.2.2.getD i default).2)) (oCall rfl (nto_run (c.2.2.getD i default).2 hIb.2.1 hIb.2.2 hvb) dD) rfl) rfl <| WD.U (oCall rfl (nradd_run s (nq (c.2.2.getD i default).2) (by rw [hs]; exact hsb.mono om) (hvb.bd.mono (by decide))) dD) rfl <| WD.S0 (oSt (cs' := qc (s + nq (c.2.2.getD i default).2)) rfl rfl rfl gG rfl rfl rfl rfl) ?_
 refine WD.nil (drawOk_of (by kernel_rfl)) rfl <| after_normal <| Ck [1,2,5,26,27,28,37,38,39,40,43,44,45,46,47,48,49,50,51,52,53,54,55,56,59,60,61,62,65,66,67,68] rfl <| WC.reg1z (z := 2) rfl <| WO.U (cI (((i + 1 : Nat) : Int)) (oAdd64 rfl rfl om) om) rfl <| Um rfl rfl <| Wn <| loopR_normal <| ⟨⟨i + 1, s + nq (c.2.2.getD i default).2⟩, ⟨rfl, rfl, rfl, rfl, rfl, rfl, trivial⟩, ⟨gG, gG, trivial⟩, ⟨om, by rw [psum, ← hs], fun j hj => ?_, om⟩, by show c.2.2.length - (i + 1) < c.2.2.length - i; omega⟩
 by_cases e : j = i
 ·rw [e]; exact hokI
 ·exact hok j om
theorem mvmodel_run (k : Nat) (ss : List ST) (hI : ∀ s, s ∈ ss → IS s) : Run Tryz.prog T E0 (.call 41 [lvMo k ss] (.v (.bool (VMo ss)))) := by
 refine mkcall Tryz.func41 rfl rfl (Nat.le_of_ble_eq_true rfl) <| Rg 2 rfl <| WO.S (oBx rfl rfl) rfl <| Ua rfl rfl <| Wn <| Rg 4 rfl <| WO.U (oFaP rfl rfl rfl rfl rfl) rfl <| WO.U (oLdP rfl rfl (by repeat (first | exact g0 | refine g1 (by decide) ?_)) rfl rfl) rfl ?_
 refine WO.U (oLenM rfl rfl) rfl <| Ua rfl rfl <| Wn <| WC.assoc <| Rg 6 rfl <| Um rfl rfl <| WO.U (oLss rfl rfl) rfl <| WO.D (fun h12 => ?_) (fun h12 => ?_)
 ·refine Um rfl rfl <| K1 rfl rfl <| K1 rfl rfl <| WO.U (oPkT rfl rfl) rfl <| Wn <| WC.cT rfl <| WC.assoc <| Rg 1 rfl <| Ua rfl rfl <| Wn <| WC.rets <| post (n := 0) (.inr rfl) rfl ?_ dD
  exact congrArg (fun z => LV.v (.bool z)) (show false = VMo ss from (VMo_no om).symm)
 refine Um rfl rfl <| WO.Ug rfl (oMv rfl) rfl <| WO.Ug rfl (oGtr rfl rfl) rfl <| WO.D (fun h15 => ?_) (fun h15 => ?_)
 ·refine WO.U (oPkF rfl rfl) rfl <| Wn <| WC.cT rfl <| WC.assoc <| Rg 1 rfl <| Ua rfl rfl <| Wn <| WC.rets <| post (n := 0) (.inr rfl) rfl ?_ dD
  exact congrArg (fun z => LV.v (.bool z)) (show false = VMo ss from (VMo_no om).symm)
 refine WO.U (oPkF rfl rfl) rfl <| Wn <| WC.cF rfl <| WC.skips <| WC.assoc <| Rg 4 rfl <| WO.U (oFaP rfl rfl rfl rfl rfl) rfl <| WO.U (oLdP rfl rfl (by repeat (first | exact g0 | refine g1 (by decide) ?_)) rfl rfl) rfl ?_
 refine WO.U (oLenM rfl rfl) rfl <| Um rfl rfl <| Nk [3,18,19,20] rfl <| WC.block <| WC.loopV (α := Nat) (fun i => [(3, .v (.int .i64 (ss.length : Int))), (18, .sl k (ss.map stc)), (19, .v (.int .i64 (ss.length : Int))), (20, .v (.int .i64 (i : Int)))]) (fun i => []) (fun i n => i ≤ ss.length ∧ (ss.take i).all (VS ss.length) = true ∧ 0 < n) (fun i => ss.length - i) (0) ⟨rfl, rfl, rfl, rfl, trivial⟩ trivial ⟨Nat.zero_le _, by simp, om⟩ ?_
 rintro i n hF
 change WC _ _ _ _ _ (_ :: _) ([]) n _
 obtain ⟨hi, ha, hn0⟩ := hF
 refine Rg 1 rfl <| WO.U (oLss rfl rfl) rfl <| WO.D (fun h21 => ?_) (fun h21 => ?_)
 rotate_left
 ·refine Wn <| WC.cF rfl <| WC.exits <| loopR_exit <| after_exit rfl <| Rg 1 rfl <| Ua rfl rfl <| Wn <| WC.ret <| post (n := 0) (.inr rfl) rfl ?_ dD
  exact congrArg (fun z => LV.v (.bool z)) (show true = VMo ss from (VMo_yes om om (all_yes ha om)).symm)
 refine Wn <| WC.cT rfl <| WC.skips <| WC.block ?_
 have hIs := hI _ (getD_mem (us := ss) (i := i) om)
 refine Rg 4 rfl <| WO.U (oIxM rfl rfl rfl rfl rfl om rfl) rfl <| WO.U (oLd (l := .agg [_, _, _]) rfl rfl rfl) rfl <| WO.S (oAl rfl) rfl <| WO.S0 (oSt (cs' := [_, _, _]) rfl rfl rfl gG rfl rfl rfl rfl) ?_
 refine Wn <| WC.assoc <| Rg 30 rfl <| WO.U (oFaP rfl rfl rfl rfl rfl) rfl <| WO.U (oLdP rfl rfl gG rfl rfl) rfl ?_
 refine WO.U (oLss rfl rfl) rfl <| WO.D (fun h26 => ?_) (fun h26 => ?_)
 ·refine Um rfl rfl <| K1 rfl rfl <| K1 rfl rfl <| K1 rfl rfl <| WO.U (oPkT rfl rfl) rfl <| Um rfl rfl <| K1 rfl rfl <| K1 rfl rfl <| K1 rfl rfl <| WO.U (oPkT rfl rfl) rfl <| Um rfl rfl <| K1 rfl rfl <| K1 rfl rfl <| K1 rfl rfl <| WO.U (oPkT rfl rfl) rfl <| Um rfl rfl <| K1 rfl rfl <| K1 rfl rfl <| K1 rfl rfl <| K1 rfl rfl <| WO.U (oPkT rfl rfl) rfl <| Um rfl rfl <| K1 rfl rfl <| K1 rfl rfl ?_
  refine K1 rfl rfl <| K1 rfl rfl <| WO.U (oPkT rfl rfl) rfl <| Nk [3,5,18,19,20,28,29,30,33,34,35,38,39,40,43,44,45,46,49,50,51,52,53] rfl <| WC.cT rfl <| WC.assoc <| Rg 1 rfl <| Ua rfl rfl <| Nk [2] rfl <| WC.rets <| after_ret <| loopR_ret <| after_ret <| post (n := 0) (.inr rfl) rfl ?_ dD
  exact congrArg (fun z => LV.v (.bool z)) (show false = VMo ss from (VMo_no2 (i := i) om (VS_no (.inl om))).symm)
 refine Um rfl rfl <| WO.Ug rfl (oFaP rfl rfl rfl rfl rfl) rfl <| WO.Ug rfl (oLdP rfl rfl gG rfl rfl) rfl ?_
 refine WO.Ug rfl (oGtr rfl rfl) rfl <| WO.D (fun h30 => ?_) (fun h30 => ?_)
 ·refine WO.U (oPkF rfl rfl) rfl <| Um rfl rfl <| K1 rfl rfl <| K1 rfl rfl <| K1 rfl rfl <| WO.U (oPkT rfl rfl) rfl <| Um rfl rfl <| K1 rfl rfl <| K1 rfl rfl <| K1 rfl rfl <| WO.U (oPkT rfl rfl) rfl <| Um rfl rfl <| K1 rfl rfl <| K1 rfl rfl <| K1 rfl rfl <| K1 rfl rfl <| WO.U (oPkT rfl rfl) rfl <| Um rfl rfl <| K1 rfl rfl <| K1 rfl rfl <| K1 rfl rfl <| K1 rfl rfl <| WO.U (oPkT rfl rfl) rfl <| WO.nil ?_
  refine Ck [3,5,18,19,20,28,29,30,33,34,35,38,39,40,43,44,45,46,49,50,51,52,53] rfl <| WC.cT rfl <| WC.assoc <| Rg 1 rfl <| Ua rfl rfl <| Nk [2] rfl <| WC.rets <| after_ret <| loopR_ret <| after_ret <| post (n := 0) (.inr rfl) rfl ?_ dD
  exact congrArg (fun z => LV.v (.bool z)) (show false = VMo ss from (VMo_no2 (i := i) om (VS_no (.inr (.inl om)))).symm)
 refine WO.U (oPkF rfl rfl) rfl <| Um rfl rfl <| WO.Ug rfl (oFaP rfl rfl rfl rfl rfl) rfl <| WO.Ug rfl (oLdP rfl rfl gG rfl rfl) rfl ?_
 refine WO.Ug rfl (oLss rfl rfl) rfl <| WO.D (fun h35 => ?_) (fun h35 => ?_)
 ·refine WO.U (oPkF rfl rfl) rfl <| Um rfl rfl <| K1 rfl rfl <| K1 rfl rfl <| K1 rfl rfl <| WO.U (oPkT rfl rfl) rfl <| Um rfl rfl <| K1 rfl rfl <| K1 rfl rfl <| K1 rfl rfl <| K1 rfl rfl <| WO.U (oPkT rfl rfl) rfl <| Um rfl rfl <| K1 rfl rfl <| K1 rfl rfl <| K1 rfl rfl <| K1 rfl rfl <| WO.U (oPkT rfl rfl) rfl <| Nk [3,5,18,19,20,28,29,30,33,34,35,38,39,40,43,44,45,46,49,50,51,52,53] rfl <| WC.cT rfl <| WC.assoc <| Rg 1 rfl <| Ua rfl rfl ?_
  refine Nk [2] rfl <| WC.rets <| after_ret <| loopR_ret <| after_ret <| post (n := 0) (.inr rfl) rfl ?_ dD
  exact congrArg (fun z => LV.v (.bool z)) (show false = VMo ss from (VMo_no2 (i := i) om (VS_no (.inr (.inr (.inl om))))).symm)
 refine WO.U (oPkF rfl rfl) rfl <| Um rfl rfl <| WO.Ug rfl (oFaP rfl rfl rfl rfl rfl) rfl <| WO.Ug rfl (oLdP rfl rfl gG rfl rfl) rfl ?_
 refine WO.Ug rfl (oGtr rfl rfl) rfl <| WO.D (fun h40 => ?_) (fun h40 => ?_)
 ·refine WO.U (oPkF rfl rfl) rfl <| Um rfl rfl <| K1 rfl rfl <| K1 rfl rfl <| K1 rfl rfl <| K1 rfl rfl <| WO.U (oPkT rfl rfl) rfl <| Um rfl rfl <| K1 rfl rfl <| K1 rfl rfl <| K1 rfl rfl <| K1 rfl rfl <| WO.U (oPkT rfl rfl) rfl <| Nk [3,5,18,19,20,28,29,30,33,34,35,38,39,40,43,44,45,46,49,50,51,52,53] rfl <| WC.cT rfl <| WC.assoc <| Rg 1 rfl <| Ua rfl rfl <| Nk [2] rfl <| WC.rets <| after_ret <| loopR_ret ?_
  refine after_ret <| post (n := 0) (.inr rfl) rfl ?_ dD
  exact congrArg (fun z => LV.v (.bool z)) (show false = VMo ss from (VMo_no2 (i := i) om (VS_no (.inr (.inr (.inr (.inl om)))))).symm)
 refine WO.U (oPkF rfl rfl) rfl <| Um rfl rfl <| WO.Ug rfl (oFaP rfl rfl rfl rfl rfl) rfl <| WO.Ug rfl (oLdP rfl rfl gG rfl rfl) rfl ?_
 refine WO.Ug rfl (oLenM rfl rfl) rfl <| WO.Ug rfl (oLss rfl rfl) rfl <| WO.D (fun h46 => ?_) (fun h46 => ?_)
 ·refine WO.U (oPkF rfl rfl) rfl <| Um rfl rfl <| K1 rfl rfl <| K1 rfl rfl <| K1 rfl rfl <| K1 rfl rfl <| WO.U (oPkT rfl rfl) rfl <| Nk [3,5,18,19,20,28,29,30,33,34,35,38,39,40,43,44,45,46,49,50,51,52,53] rfl <| WC.cT rfl <| WC.assoc <| Rg 1 rfl <| Ua rfl rfl <| Nk [2] rfl <| WC.rets <| after_ret <| loopR_ret <| after_ret <| post (n := 0) (.inr rfl) rfl ?_ dD
  exact congrArg (fun z => LV.v (.bool z)) (show false = VMo ss from (VMo_no2 (i := i) om (VS_no (.inr (.inr (.inr (.inr (.inl om))))))).symm)
 refine WO.U (oPkF rfl rfl) rfl <| Um rfl rfl <| WO.Ug rfl (oFaP rfl rfl rfl rfl rfl) rfl <| WO.Ug rfl (oLdP rfl rfl gG rfl rfl) rfl ?_
 refine WO.Ug rfl (oLenM rfl rfl) rfl <| WO.Ug rfl (oGtr rfl rfl) rfl <| WO.D (fun h52 => ?_) (fun h52 => ?_)
 ·refine WO.U (oPkF rfl rfl) rfl <| Nk [3,5,18,19,20,28,29,30,33,34,35,38,39,40,43,44,45,46,49,50,51,52,53] rfl <| WC.cT rfl <| WC.assoc <| Rg 1 rfl <| Ua rfl rfl <| Nk [2] rfl <| WC.rets <| after_ret <| loopR_ret <| after_ret <| post (n := 0) (.inr rfl) rfl ?_ dD
  exact congrArg (fun z => LV.v (.bool z)) (show false = VMo ss from (VMo_no2 (i := i) om (VS_no (.inr (.inr (.inr (.inr (.inr om))))))).symm)
 refine WO.U (oPkF rfl rfl) rfl <| Nk [3,5,18,19,20,28,29,30,33,34,35,38,39,40,43,44,45,46,49,50,51,52,53] rfl <| WC.cF rfl <| WC.skips <| Rg 4 rfl <| WO.U (oFaP rfl rfl rfl rfl rfl) rfl <| WO.U (oLdP rfl rfl gG rfl rfl) rfl ?_
 refine WO.U (oLenM rfl rfl) rfl <| Um rfl rfl <| Nk [3,18,19,20,28,29,30,33,34,35,38,39,40,43,44,45,46,49,50,51,52,55,56,57] rfl <| WC.block1 <| WC.loopV (α := Nat) (fun j => [(3, .v (.int .i64 (ss.length : Int))), (18, .sl k (ss.map stc)), (19, .v (.int .i64 (ss.length : Int))), (20, .v (.int .i64 (i : Int))), (55, .sl (ss.getD i default).2.1 ((ss.getD i default).2.2.map chc)), (56, .v (.int .i64 ((ss.getD i default).2.2.length : Int))), (57, .v (.int .i64 (j : Int)))]) (fun j => []) (fun j n => j ≤ (ss.getD i default).2.2.length ∧ ((ss.getD i default).2.2.take j).all (VC ss.length) = true ∧ 0 < n) (fun j => (ss.getD i default).2.2.length - j) (0) ⟨rfl, rfl, rfl, rfl, rfl, rfl, rfl, trivial⟩ trivial ⟨Nat.zero_le _, by simp, om⟩ ?_
 rintro j n hF
 change WC _ _ _ _ _ (_ :: _) ([]) n _
 obtain ⟨hj, hb, hn2⟩ := hF
 refine Rg 1 rfl <| WO.U (oLss rfl rfl) rfl <| WO.D (fun h58 => ?_) (fun h58 => ?_)
 rotate_left
 ·refine Wn <| WC.cF rfl <| WC.exits <| loopR_exit <| after0_exit rfl <| after_normal <| WC.reg1z (z := 2) rfl <| WO.U (cI (((i + 1 : Nat) : Int)) (oAdd64 rfl rfl om) om) rfl <| Um rfl rfl <| Wn <| loopR_normal <| ⟨i + 1, ⟨rfl, rfl, rfl, rfl, trivial⟩, trivial, ⟨om, take_all ha om (VS_yes om om om om om om (all_yes hb om)), om⟩, by show ss.length - (i + 1) < ss.length - i; omega⟩
 refine Wn <| WC.cT rfl <| WC.skips <| WC.block ?_
 have hIc := hIs.2.2 _ (getD_mem (us := (ss.getD i default).2.2) (i := j) om)
 refine Rg 4 rfl <| WO.U (oIxM rfl rfl rfl rfl rfl om rfl) rfl <| WO.U (oLd (l := .agg [_, _, _]) rfl rfl rfl) rfl <| WO.S (oAl rfl) rfl <| WO.S0 (oSt (cs' := [_, _, _]) rfl rfl rfl gG rfl rfl rfl rfl) ?_
 refine Wn <| Rg 4 rfl <| Um rfl rfl <| WO.U (oLdP (l := lvC ((ss.getD i default).2.2.getD j default)) rfl rfl gG rfl rfl) rfl ?_
 refine WO.U (oCall rfl (mchoice_run ss.length ((ss.getD i default).2.2.getD j default) hIc om) dD) rfl <| WO.B (fun h63 => ?_) (fun h63 => ?_)
 ·refine WO.U (oNot rfl) rfl <| Nk [3,18,19,20,55,56,57,64] rfl <| WC.cF1 rfl <| WC.skip <| after_normal <| WC.reg1z (z := 2) rfl <| WO.U (cI (((j + 1 : Nat) : Int)) (oAdd64 rfl rfl om) om) rfl <| Um rfl rfl <| Wn <| loopR_normal <| ⟨j + 1, ⟨rfl, rfl, rfl, rfl, rfl, rfl, rfl, trivial⟩, trivial, ⟨om, take_all hb om h63, om⟩, by show (ss.getD i default).2.2.length - (j + 1) < (ss.getD i default).2.2.length - j; omega⟩
 refine WO.U (oNot rfl) rfl <| Nk [3,18,19,20,55,56,57,64] rfl <| WC.cT1 rfl <| Rg 1 rfl <| Ua rfl rfl <| Wn <| WC.ret <| after_ret <| loopR_ret <| after0_ret <| after_ret <| loopR_ret <| after_ret <| post (n := 0) (.inr rfl) rfl ?_ dD
 exact congrArg (fun z => LV.v (.bool z)) (show false = VMo ss from (VMo_no2 (i := i) om (VS_no2 (j := j) om h63)).symm)
theorem qvmodel_run (k : Nat) (ss : List ST) (hI : ∀ s, s ∈ ss → IS s) : Run Tryz.prog T E0 (.call 25 [lvMo k ss] (.v (.bool (VMo ss)))) := by
 refine mkcall Tryz.func25 rfl rfl (Nat.le_of_ble_eq_true rfl) <| Rg 2 rfl <| WO.S (oBx rfl rfl) rfl <| Ua rfl rfl <| Wn <| WC.assoc <| Rg 10 rfl <| WO.U (oFaP rfl rfl rfl rfl rfl) rfl <| WO.U (oLdP rfl rfl (by repeat (first | exact g0 | refine g1 (by decide) ?_)) rfl rfl) rfl ?_
 refine WO.U (oLenM rfl rfl) rfl <| WO.U (oLss rfl rfl) rfl <| WO.D (fun h10 => ?_) (fun h10 => ?_)
 ·refine Um rfl rfl <| K1 rfl rfl <| K1 rfl rfl <| K1 rfl rfl <| K1 rfl rfl <| WO.U (oPkT rfl rfl) rfl <| Wn <| WC.cT rfl <| WC.assoc <| Rg 1 rfl <| Ua rfl rfl <| Wn <| WC.rets <| post (n := 0) (.inr rfl) rfl ?_ dD
  exact congrArg (fun z => LV.v (.bool z)) (show false = VMo ss from (VMo_no om).symm)
 refine Um rfl rfl <| WO.Ug rfl (oFaP rfl rfl rfl rfl rfl) rfl <| WO.Ug rfl (oLdP rfl rfl (by repeat (first | exact g0 | refine g1 (by decide) ?_)) rfl rfl) rfl ?_
 refine WO.Ug rfl (oLenM rfl rfl) rfl <| WO.Ug rfl (oGtr rfl rfl) rfl <| WO.D (fun h15 => ?_) (fun h15 => ?_)
 ·refine WO.U (oPkF rfl rfl) rfl <| Wn <| WC.cT rfl <| WC.assoc <| Rg 1 rfl <| Ua rfl rfl <| Wn <| WC.rets <| post (n := 0) (.inr rfl) rfl ?_ dD
  exact congrArg (fun z => LV.v (.bool z)) (show false = VMo ss from (VMo_no om).symm)
 refine WO.U (oPkF rfl rfl) rfl <| Wn <| WC.cF rfl <| WC.skips <| WC.assoc <| Rg 4 rfl <| WO.U (oFaP rfl rfl rfl rfl rfl) rfl <| WO.U (oLdP rfl rfl (by repeat (first | exact g0 | refine g1 (by decide) ?_)) rfl rfl) rfl ?_
 refine WO.U (oLenM rfl rfl) rfl <| Um rfl rfl <| Nk [1,18,19,20] rfl <| WC.block <| WC.loopV (α := Nat) (fun i => [(1, .ptr 0 0), (18, .sl k (ss.map stc)), (19, .v (.int .i64 (ss.length : Int))), (20, .v (.int .i64 (i : Int)))]) (fun i => [(0, { cells := [.sl k (ss.map stc)], sz := 1, elem := (24), st := 0 })]) (fun i n => i ≤ ss.length ∧ (ss.take i).all (VS ss.length) = true ∧ 0 < n) (fun i => ss.length - i) (0) ⟨rfl, rfl, rfl, rfl, trivial⟩ ⟨(by repeat (first | exact g0 | refine g1 (by decide) ?_)), trivial⟩ ⟨Nat.zero_le _, by simp, om⟩ ?_
 rintro i n hF
 change WC _ _ _ _ _ (_ :: _) (_ :: _) n _
 obtain ⟨hi, ha, hn0⟩ := hF
 refine Rg 1 rfl <| WO.U (oLss rfl rfl) rfl <| WO.D (fun h21 => ?_) (fun h21 => ?_)
 rotate_left
 ·refine Wn <| WC.cF rfl <| WC.exits <| loopR_exit <| after_exit rfl <| Rg 1 rfl <| Ua rfl rfl <| Wn <| WC.ret <| post (n := 0) (.inr rfl) rfl ?_ dD
  exact congrArg (fun z => LV.v (.bool z)) (show true = VMo ss from (VMo_yes om om (all_yes ha om)).symm)
 refine Wn <| WC.cT rfl <| WC.skips <| WC.block ?_
 have hIs := hI _ (getD_mem (us := ss) (i := i) om)
 refine Rg 4 rfl <| WO.U (oIxM rfl rfl rfl rfl rfl om rfl) rfl <| WO.U (oLd (l := .agg [_, _, _]) rfl rfl rfl) rfl <| WO.S (oAl rfl) rfl <| WO.S0 (oSt (cs' := [_, _, _]) rfl rfl rfl gG rfl rfl rfl rfl) ?_
 refine Wn <| WC.assoc <| Rg 30 rfl <| WO.U (oFaP rfl rfl rfl rfl rfl) rfl <| WO.U (oLdP rfl rfl gG rfl rfl) rfl ?_
 refine WO.U (oLss rfl rfl) rfl <| WO.D (fun h26 => ?_) (fun h26 => ?_)
 ·refine Um rfl rfl <| K1 rfl rfl <| K1 rfl rfl <| K1 rfl rfl <| WO.U (oPkT rfl rfl) rfl <| Um rfl rfl <| K1 rfl rfl <| K1 rfl rfl <| K1 rfl rfl <| WO.U (oPkT rfl rfl) rfl <| Um rfl rfl <| K1 rfl rfl <| K1 rfl rfl <| K1 rfl rfl <| WO.U (oPkT rfl rfl) rfl <| Um rfl rfl <| K1 rfl rfl <| K1 rfl rfl <| K1 rfl rfl <| K1 rfl rfl <| WO.U (oPkT rfl rfl) rfl <| Um rfl rfl <| K1 rfl rfl <| K1 rfl rfl ?_
  refine K1 rfl rfl <| K1 rfl rfl <| WO.U (oPkT rfl rfl) rfl <| Nk [1,4,18,19,20,28,29,30,33,34,35,38,39,40,43,44,45,46,49,50,51,52,53] rfl <| WC.cT rfl <| WC.assoc <| Rg 1 rfl <| Ua rfl rfl <| Nk [2] rfl <| WC.rets <| after_ret <| loopR_ret <| after_ret <| post (n := 0) (.inr rfl) rfl ?_ dD
  exact congrArg (fun z => LV.v (.bool z)) (show false = VMo ss from (VMo_no2 (i := i) om (VS_no (.inl om))).symm)
 refine Um rfl rfl <| WO.Ug rfl (oFaP rfl rfl rfl rfl rfl) rfl <| WO.Ug rfl (oLdP rfl rfl gG rfl rfl) rfl ?_
 refine WO.Ug rfl (oGtr rfl rfl) rfl <| WO.D (fun h30 => ?_) (fun h30 => ?_)
 ·refine WO.U (oPkF rfl rfl) rfl <| Um rfl rfl <| K1 rfl rfl <| K1 rfl rfl <| K1 rfl rfl <| WO.U (oPkT rfl rfl) rfl <| Um rfl rfl <| K1 rfl rfl <| K1 rfl rfl <| K1 rfl rfl <| WO.U (oPkT rfl rfl) rfl <| Um rfl rfl <| K1 rfl rfl <| K1 rfl rfl <| K1 rfl rfl <| K1 rfl rfl <| WO.U (oPkT rfl rfl) rfl <| Um rfl rfl <| K1 rfl rfl <| K1 rfl rfl <| K1 rfl rfl <| K1 rfl rfl <| WO.U (oPkT rfl rfl) rfl <| WO.nil ?_
  refine Ck [1,4,18,19,20,28,29,30,33,34,35,38,39,40,43,44,45,46,49,50,51,52,53] rfl <| WC.cT rfl <| WC.assoc <| Rg 1 rfl <| Ua rfl rfl <| Nk [2] rfl <| WC.rets <| after_ret <| loopR_ret <| after_ret <| post (n := 0) (.inr rfl) rfl ?_ dD
  exact congrArg (fun z => LV.v (.bool z)) (show false = VMo ss from (VMo_no2 (i := i) om (VS_no (.inr (.inl om)))).symm)
 refine WO.U (oPkF rfl rfl) rfl <| Um rfl rfl <| WO.Ug rfl (oFaP rfl rfl rfl rfl rfl) rfl <| WO.Ug rfl (oLdP rfl rfl gG rfl rfl) rfl ?_
 refine WO.Ug rfl (oLss rfl rfl) rfl <| WO.D (fun h35 => ?_) (fun h35 => ?_)
 ·refine WO.U (oPkF rfl rfl) rfl <| Um rfl rfl <| K1 rfl rfl <| K1 rfl rfl <| K1 rfl rfl <| WO.U (oPkT rfl rfl) rfl <| Um rfl rfl <| K1 rfl rfl <| K1 rfl rfl <| K1 rfl rfl <| K1 rfl rfl <| WO.U (oPkT rfl rfl) rfl <| Um rfl rfl <| K1 rfl rfl <| K1 rfl rfl <| K1 rfl rfl <| K1 rfl rfl <| WO.U (oPkT rfl rfl) rfl <| Nk [1,4,18,19,20,28,29,30,33,34,35,38,39,40,43,44,45,46,49,50,51,52,53] rfl <| WC.cT rfl <| WC.assoc <| Rg 1 rfl <| Ua rfl rfl ?_
  refine Nk [2] rfl <| WC.rets <| after_ret <| loopR_ret <| after_ret <| post (n := 0) (.inr rfl) rfl ?_ dD
  exact congrArg (fun z => LV.v (.bool z)) (show false = VMo ss from (VMo_no2 (i := i) om (VS_no (.inr (.inr (.inl om))))).symm)
 refine WO.U (oPkF rfl rfl) rfl <| Um rfl rfl <| WO.Ug rfl (oFaP rfl rfl rfl rfl rfl) rfl <| WO.Ug rfl (oLdP rfl rfl gG rfl rfl) rfl ?_
 refine WO.Ug rfl (oGtr rfl rfl) rfl <| WO.D (fun h40 => ?_) (fun h40 => ?_)
 ·refine WO.U (oPkF rfl rfl) rfl <| Um rfl rfl <| K1 rfl rfl <| K1 rfl rfl <| K1 rfl rfl <| K1 rfl rfl <| WO.U (oPkT rfl rfl) rfl <| Um rfl rfl <| K1 rfl rfl <| K1 rfl rfl <| K1 rfl rfl <| K1 rfl rfl <| WO.U (oPkT rfl rfl) rfl <| Nk [1,4,18,19,20,28,29,30,33,34,35,38,39,40,43,44,45,46,49,50,51,52,53] rfl <| WC.cT rfl <| WC.assoc <| Rg 1 rfl <| Ua rfl rfl <| Nk [2] rfl <| WC.rets <| after_ret <| loopR_ret ?_
  refine after_ret <| post (n := 0) (.inr rfl) rfl ?_ dD
  exact congrArg (fun z => LV.v (.bool z)) (show false = VMo ss from (VMo_no2 (i := i) om (VS_no (.inr (.inr (.inr (.inl om)))))).symm)
 refine WO.U (oPkF rfl rfl) rfl <| Um rfl rfl <| WO.Ug rfl (oFaP rfl rfl rfl rfl rfl) rfl <| WO.Ug rfl (oLdP rfl rfl gG rfl rfl) rfl ?_
 refine WO.Ug rfl (oLenM rfl rfl) rfl <| WO.Ug rfl (oLss rfl rfl) rfl <| WO.D (fun h46 => ?_) (fun h46 => ?_)
 ·refine WO.U (oPkF rfl rfl) rfl <| Um rfl rfl <| K1 rfl rfl <| K1 rfl rfl <| K1 rfl rfl <| K1 rfl rfl <| WO.U (oPkT rfl rfl) rfl <| Nk [1,4,18,19,20,28,29,30,33,34,35,38,39,40,43,44,45,46,49,50,51,52,53] rfl <| WC.cT rfl <| WC.assoc <| Rg 1 rfl <| Ua rfl rfl <| Nk [2] rfl <| WC.rets <| after_ret <| loopR_ret <| after_ret <| post (n := 0) (.inr rfl) rfl ?_ dD
  exact congrArg (fun z => LV.v (.bool z)) (show false = VMo ss from (VMo_no2 (i := i) om (VS_no (.inr (.inr (.inr (.inr (.inl om))))))).symm)
 refine WO.U (oPkF rfl rfl) rfl <| Um rfl rfl <| WO.Ug rfl (oFaP rfl rfl rfl rfl rfl) rfl <| WO.Ug rfl (oLdP rfl rfl gG rfl rfl) rfl ?_
 refine WO.Ug rfl (oLenM rfl rfl) rfl <| WO.Ug rfl (oGtr rfl rfl) rfl <| WO.D (fun h52 => ?_) (fun h52 => ?_)
 ·refine WO.U (oPkF rfl rfl) rfl <| Nk [1,4,18,19,20,28,29,30,33,34,35,38,39,40,43,44,45,46,49,50,51,52,53] rfl <| WC.cT rfl <| WC.assoc <| Rg 1 rfl <| Ua rfl rfl <| Nk [2] rfl <| WC.rets <| after_ret <| loopR_ret <| after_ret <| post (n := 0) (.inr rfl) rfl ?_ dD
  exact congrArg (fun z => LV.v (.bool z)) (show false = VMo ss from (VMo_no2 (i := i) om (VS_no (.inr (.inr (.inr (.inr (.inr om))))))).symm)
 refine WO.U (oPkF rfl rfl) rfl <| Nk [1,4,18,19,20,28,29,30,33,34,35,38,39,40,43,44,45,46,49,50,51,52,53] rfl <| WC.cF rfl <| WC.skips <| Rg 4 rfl <| WO.U (oFaP rfl rfl rfl rfl rfl) rfl <| WO.U (oLdP rfl rfl gG rfl rfl) rfl ?_
 refine WO.U (oLenM rfl rfl) rfl <| Um rfl rfl <| Nk [1,18,19,20,28,29,30,33,34,35,38,39,40,43,44,45,46,49,50,51,52,55,56,57] rfl <| WC.block1 <| WC.loopV (α := Nat) (fun j => [(1, .ptr 0 0), (18, .sl k (ss.map stc)), (19, .v (.int .i64 (ss.length : Int))), (20, .v (.int .i64 (i : Int))), (55, .sl (ss.getD i default).2.1 ((ss.getD i default).2.2.map chc)), (56, .v (.int .i64 ((ss.getD i default).2.2.length : Int))), (57, .v (.int .i64 (j : Int)))]) (fun j => [(0, { cells := [.sl k (ss.map stc)], sz := 1, elem := (24), st := 0 })]) (fun j n => j ≤ (ss.getD i default).2.2.length ∧ ((ss.getD i default).2.2.take j).all (VC ss.length) = true ∧ 0 < n) (fun j => (ss.getD i default).2.2.length - j) (0) ⟨rfl, rfl, rfl, rfl, rfl, rfl, rfl, trivial⟩ ⟨gG, trivial⟩ ⟨Nat.zero_le _, by simp, om⟩ ?_
 rintro j n hF
 change WC _ _ _ _ _ (_ :: _) (_ :: _) n _
 obtain ⟨hj, hb, hn2⟩ := hF
 refine Rg 1 rfl <| WO.U (oLss rfl rfl) rfl <| WO.D (fun h58 => ?_) (fun h58 => ?_)
 rotate_left
 ·refine Wn <| WC.cF rfl <| WC.exits <| loopR_exit <| after0_exit rfl <| after_normal <| WC.reg1z (z := 2) rfl <| WO.U (cI (((i + 1 : Nat) : Int)) (oAdd64 rfl rfl om) om) rfl <| Um rfl rfl <| Wn <| loopR_normal <| ⟨i + 1, ⟨rfl, rfl, rfl, rfl, trivial⟩, ⟨gG, trivial⟩, ⟨om, take_all ha om (VS_yes om om om om om om (all_yes hb om)), om⟩, by show ss.length - (i + 1) < ss.length - i; omega⟩
 refine Wn <| WC.cT rfl <| WC.skips <| WC.block ?_
 have hIc := hIs.2.2 _ (getD_mem (us := (ss.getD i default).2.2) (i := j) om)
 refine Rg 4 rfl <| WO.U (oIxM rfl rfl rfl rfl rfl om rfl) rfl <| WO.U (oLd (l := .agg [_, _, _]) rfl rfl rfl) rfl <| WO.S (oAl rfl) rfl <| WO.S0 (oSt (cs' := [_, _, _]) rfl rfl rfl gG rfl rfl rfl rfl) ?_
 refine Wn <| Rg 6 rfl <| WO.U (oLdP (l := lvC ((ss.getD i default).2.2.getD j default)) rfl rfl gG rfl rfl) rfl ?_
 refine WO.U (oFaP rfl rfl rfl rfl rfl) rfl <| WO.U (oLdP rfl rfl gG rfl rfl) rfl ?_
 refine WO.U (cI ((ss.length : Int)) (oLenM rfl rfl) (by simp)) rfl <| WO.U (oCall rfl (qchoice_run ss.length ((ss.getD i default).2.2.getD j default) hIc om) dD) rfl <| WO.B (fun h65 => ?_) (fun h65 => ?_)
 ·refine WO.U (oNot rfl) rfl <| Nk [1,18,19,20,55,56,57,66] rfl <| WC.cF1 rfl <| WC.skip <| after_normal <| WC.reg1z (z := 2) rfl <| WO.U (cI (((j + 1 : Nat) : Int)) (oAdd64 rfl rfl om) om) rfl <| Um rfl rfl <| Wn <| loopR_normal <| ⟨j + 1, ⟨rfl, rfl, rfl, rfl, rfl, rfl, rfl, trivial⟩, ⟨gG, trivial⟩, ⟨om, take_all hb om h65, om⟩, by show (ss.getD i default).2.2.length - (j + 1) < (ss.getD i default).2.2.length - j; omega⟩
 refine WO.U (oNot rfl) rfl <| Nk [1,18,19,20,55,56,57,66] rfl <| WC.cT1 rfl <| Rg 1 rfl <| Ua rfl rfl <| Wn <| WC.ret <| after_ret <| loopR_ret <| after0_ret <| after_ret <| loopR_ret <| after_ret <| post (n := 0) (.inr rfl) rfl ?_ dD
 exact congrArg (fun z => LV.v (.bool z)) (show false = VMo ss from (VMo_no2 (i := i) om (VS_no2 (j := j) om h65)).symm)
end Go.Proofs.YthpnlndhebcngaaGreat
set_option linter.unusedVariables false
set_option linter.unusedSimpArgs false
set_option maxRecDepth 100000
set_option maxHeartbeats 16000000
namespace Go.Proofs.YthpnlndhebcngaaGreat
open Go.Ab Go.RowKit
theorem mset_run (k kl : Nat) (ss : List ST) (l : List Int) (ll : l.length < 1099511627776) : Run Tryz.prog T E0 (.call 42 [lvMo k ss, lvL kl l] (.v (.bool (VSet ss.length l)))) := by
 refine mkcall Tryz.func42 rfl rfl (Nat.le_of_ble_eq_true rfl) <| Rg 2 rfl <| WO.S (oBx rfl rfl) rfl <| Ua rfl rfl <| Wn <| Rg 1 rfl <| Ua rfl rfl <| Wn <| WC.assoc <| Rg 3 rfl <| Um rfl rfl <| WO.U (oLenM rfl rfl) rfl <| Um rfl rfl <| Wn <| WC.block <| WC.loopV (α := Nat) (fun i => [(2, .ptr 0 0), (5, .v (.int .i64 (lastI l i : Int))), (8, lvL kl l), (9, .v (.int .i64 (l.length : Int))), (10, .v (.int .i64 (i : Int)))]) (fun i => [(0, { cells := [.sl k (ss.map stc)], sz := 1, elem := (24), st := 0 })]) (fun i n => i ≤ l.length ∧ (∀ j, j < i → okI ss.length l j = true) ∧ 0 < n) (fun i => l.length - i) (0) ⟨rfl, rfl, rfl, rfl, rfl, trivial⟩ ⟨(by repeat (first | exact g0 | refine g1 (by decide) ?_)), trivial⟩ ⟨Nat.zero_le _, fun j hj => absurd hj om, om⟩ ?_
 rintro i n hF
 change WC _ _ _ _ _ (_ :: _) (_ :: _) n _
 obtain ⟨hi, hok, hn⟩ := hF
 refine Rg 1 rfl <| WO.U (oLss rfl rfl) rfl <| WO.D (fun h11 => ?_) (fun h11 => ?_)
 rotate_left
 ·refine Wn <| WC.cF rfl <| WC.exits <| loopR_exit <| after_exit rfl <| Rg 1 rfl <| Ua rfl rfl <| Wn <| WC.ret <| post (n := 0) (.inr rfl) rfl ?_ dD
  exact congrArg (fun z => LV.v (.bool z)) (show true = VSet ss.length l from (range_all_yes fun j hj => hok j om).symm)
 refine Wn <| WC.cT rfl <| WC.skips <| WC.block <| Rg 3 rfl <| WO.U (oIxM rfl rfl rfl rfl rfl om rfl) rfl <| WO.U (oLd rfl rfl rfl) rfl <| Ua rfl rfl <| Wn <| WC.assoc <| Rg 10 rfl <| Um rfl rfl <| Um rfl rfl <| WO.U (oLeq rfl rfl) rfl <| WO.D (fun h16 => ?_) (fun h16 => ?_)
 ·refine Um rfl rfl <| K1 rfl rfl <| K1 rfl rfl <| K1 rfl rfl <| K1 rfl rfl <| K1 rfl rfl <| WO.U (oPkT rfl rfl) rfl <| Nk [2,7,8,9,10,18,19,20,21,22,23] rfl <| WC.cT rfl <| WC.assoc <| Rg 1 rfl <| Ua rfl rfl <| Wn <| WC.rets <| after_ret <| loopR_ret <| after_ret <| post (n := 0) (.inr rfl) rfl ?_ dD
  exact congrArg (fun z => LV.v (.bool z)) (show false = VSet ss.length l from (range_all_no (i := i) om (okI_no (.inl om))).symm)
 refine Um rfl rfl <| WO.Ug rfl (oMv rfl) rfl <| WO.Ug rfl (oFaP rfl rfl rfl rfl rfl) rfl <| WO.Ug rfl (oLdP rfl rfl gG rfl rfl) rfl ?_
 refine WO.Ug rfl (oLenM rfl rfl) rfl <| WO.Ug rfl (oGeq rfl rfl) rfl <| WO.D (fun h22 => ?_) (fun h22 => ?_)
 ·refine WO.U (oPkF rfl rfl) rfl <| Nk [2,7,8,9,10,18,19,20,21,22,23] rfl <| WC.cT rfl <| WC.assoc <| Rg 1 rfl <| Ua rfl rfl <| Wn <| WC.rets <| after_ret <| loopR_ret <| after_ret <| post (n := 0) (.inr rfl) rfl ?_ dD
  exact congrArg (fun z => LV.v (.bool z)) (show false = VSet ss.length l from (range_all_no (i := i) om (okI_no (.inr om))).symm)
 refine WO.U (oPkF rfl rfl) rfl <| Nk [2,7,8,9,10,18,19,20,21,22,23] rfl <| WC.cF rfl <| WC.skips <| WC.reg1z (z := 2) rfl <| Um rfl rfl <| Ua rfl rfl <| Wn <| after_normal <| WC.reg1z (z := 2) rfl <| WO.U (cI (((i + 1 : Nat) : Int)) (oAdd64 rfl rfl om) om) rfl <| Um rfl rfl <| Wn <| loopR_normal <| ⟨i + 1, ⟨rfl, rfl, rfl, rfl, rfl, trivial⟩, ⟨gG, trivial⟩, ⟨om, fun j hj => ?_, om⟩, by show l.length - (i + 1) < l.length - i; omega⟩
 by_cases e : j = i
 ·rw [e]; exact okI_yes om om
 ·exact hok j om
theorem qset_run (k kl : Nat) (ss : List ST) (l : List Int) (ll : l.length < 1099511627776) : Run Tryz.prog T E0 (.call 20 [lvMo k ss, lvL kl l] (.v (.bool (VSet ss.length l)))) := by
 refine mkcall Tryz.func20 rfl rfl (Nat.le_of_ble_eq_true rfl) <| Rg 2 rfl <| WO.S (oBx rfl rfl) rfl <| Ua rfl rfl <| Wn <| WC.assoc <| Rg 3 rfl <| Um rfl rfl <| WO.U (oLenM rfl rfl) rfl <| Um rfl rfl <| Wn <| WC.block <| WC.loopV (α := Nat) (fun i => [(1, lvL kl l), (2, .ptr 0 0), (7, lvL kl l), (8, .v (.int .i64 (l.length : Int))), (9, .v (.int .i64 (i : Int)))]) (fun i => [(0, { cells := [.sl k (ss.map stc)], sz := 1, elem := (24), st := 0 })]) (fun i n => i ≤ l.length ∧ (∀ j, j < i → okI ss.length l j = true) ∧ 0 < n) (fun i => l.length - i) (0) ⟨rfl, rfl, rfl, rfl, rfl, trivial⟩ ⟨(by repeat (first | exact g0 | refine g1 (by decide) ?_)), trivial⟩ ⟨Nat.zero_le _, fun j hj => absurd hj om, om⟩ ?_
 rintro i n hF
 change WC _ _ _ _ _ (_ :: _) (_ :: _) n _
 obtain ⟨hi, hok, hn⟩ := hF
 refine Rg 1 rfl <| WO.U (oLss rfl rfl) rfl <| WO.D (fun h10 => ?_) (fun h10 => ?_)
 rotate_left
 ·refine Wn <| WC.cF rfl <| WC.exits <| loopR_exit <| after_exit rfl <| Rg 1 rfl <| Ua rfl rfl <| Wn <| WC.ret <| post (n := 0) (.inr rfl) rfl ?_ dD
  exact congrArg (fun z => LV.v (.bool z)) (show true = VSet ss.length l from (range_all_yes fun j hj => hok j om).symm)
 refine Wn <| WC.cT rfl <| WC.skips <| WC.block <| Rg 5 rfl <| Um rfl rfl <| WO.U (oIxM rfl rfl rfl rfl rfl om rfl) rfl <| WO.U (oLd rfl rfl rfl) rfl <| Ua rfl rfl <| Ua rfl rfl <| WO.nil ?_
 have hlo := okI_lo i hok
 have hl0 : 0 < i → lastI l i = l.getD (i - 1) default := lastI_pos
 refine Rg 22 rfl <| Um rfl rfl <| WO.U (oLss rfl rfl) rfl <| WO.D (fun h15 => ?_) (fun h15 => ?_)
 ·refine Um rfl rfl <| K1 rfl rfl <| K1 rfl rfl <| K1 rfl rfl <| K1 rfl rfl <| K1 rfl rfl <| WO.U (oPkT rfl rfl) rfl <| Um rfl rfl <| K1 rfl rfl <| K1 rfl rfl <| K1 rfl rfl <| K1 rfl rfl <| K1 rfl rfl <| K1 rfl rfl <| K1 rfl rfl <| K1 rfl rfl <| K1 rfl rfl <| K1 rfl rfl <| K1 rfl rfl <| WO.U (oPkT rfl rfl) rfl <| Nk [1,2,7,8,9,17,18,19,20,21,24,25,26,27,28,29,30,31,32,33,34,35] rfl <| WC.cT1 rfl <| Rg 1 rfl ?_
  refine Ua rfl rfl <| Nk [4] rfl <| WC.ret <| after_ret <| loopR_ret <| after_ret <| post (n := 0) (.inr rfl) rfl ?_ dD
  exact congrArg (fun z => LV.v (.bool z)) (show false = VSet ss.length l from (range_all_no (i := i) om (okI_no (.inl om))).symm)
 refine Um rfl rfl <| WO.Ug rfl (oMv rfl) rfl <| WO.Ug rfl (oFaP rfl rfl rfl rfl rfl) rfl <| WO.Ug rfl (oLdP rfl rfl gG rfl rfl) rfl ?_
 refine WO.Ug rfl (oLenM rfl rfl) rfl <| WO.Ug rfl (oGeq rfl rfl) rfl <| WO.D (fun h21 => ?_) (fun h21 => ?_)
 ·refine WO.U (oPkF rfl rfl) rfl <| Um rfl rfl <| K1 rfl rfl <| K1 rfl rfl <| K1 rfl rfl <| K1 rfl rfl <| K1 rfl rfl <| K1 rfl rfl <| K1 rfl rfl <| K1 rfl rfl <| K1 rfl rfl <| K1 rfl rfl <| K1 rfl rfl <| WO.U (oPkT rfl rfl) rfl <| Nk [1,2,7,8,9,17,18,19,20,21,24,25,26,27,28,29,30,31,32,33,34,35] rfl <| WC.cT1 rfl <| Rg 1 rfl <| Ua rfl rfl <| Nk [4] rfl <| WC.ret <| after_ret <| loopR_ret ?_
  refine after_ret <| post (n := 0) (.inr rfl) rfl ?_ dD
  exact congrArg (fun z => LV.v (.bool z)) (show false = VSet ss.length l from (range_all_no (i := i) om (okI_no (.inr om))).symm)
 refine WO.U (oPkF rfl rfl) rfl <| Um rfl rfl <| WO.Ug rfl (oMv rfl) rfl <| WO.Ug rfl (oGtr rfl rfl) rfl <| WO.D (fun h25 => ?_) (fun h25 => ?_)
 rotate_left
 ·refine WO.Ug rfl (oMv rfl) rfl <| K1 rfl rfl <| K1 rfl rfl <| K1 rfl rfl <| K1 rfl rfl <| K1 rfl rfl <| K1 rfl rfl <| K1 rfl rfl <| WO.Ug rfl (oPkF rfl rfl) rfl <| WO.U (oPkF rfl rfl) rfl <| Nk [1,2,7,8,9,17,18,19,20,21,24,25,26,27,28,29,30,31,32,33,34,35] rfl <| WC.cF1 rfl <| WC.skip <| after_normal <| Ck [1,2,7,8,9,17,18,19,20,21,24,25,26,27,28,29,30,31,32,33,34] rfl <| WC.reg1z (z := 2) rfl <| WO.U (cI (((i + 1 : Nat) : Int)) (oAdd64 rfl rfl om) om) rfl <| Um rfl rfl <| Wn <| loopR_normal ?_
  have hl2 : lastI l i < (l.getD i default) := by
   rcases Nat.eq_zero_or_pos i with e | e
   ·subst e; show (-1 : Int) < _; omega
   ·rw [hl0 e]; omega
  refine ⟨i + 1, ⟨rfl, rfl, rfl, rfl, rfl, trivial⟩, ⟨gG, trivial⟩, ⟨om, fun j hj => ?_, om⟩, by show l.length - (i + 1) < l.length - i; omega⟩
  by_cases e : j = i
  ·rw [e]; exact okI_yes hl2 om
  ·exact hok j om
 refine WO.Ug rfl (oMv rfl) rfl <| WO.Ug rfl (oMv rfl) rfl <| WO.Ug rfl (oMv rfl) rfl <| WO.Ug rfl (oMv rfl) rfl <| WO.Ug rfl (cI (((i - 1 : Nat) : Int)) (oSub64 rfl rfl om) om) rfl <| WO.Ug rfl (oIxM (j := i - 1) rfl rfl rfl rfl om om rfl) rfl <| WO.Ug rfl (oLd rfl rfl rfl) rfl <| WO.Ug rfl (oLeq rfl rfl) rfl <| WO.D (fun h33 => ?_) (fun h33 => ?_)
 ·refine WO.Ug rfl (oPkT rfl rfl) rfl <| WO.U (oPkF rfl rfl) rfl <| Nk [1,2,7,8,9,17,18,19,20,21,24,25,26,27,28,29,30,31,32,33,34,35] rfl <| WC.cT1 rfl <| Rg 1 rfl <| Ua rfl rfl <| Nk [4] rfl <| WC.ret <| after_ret <| loopR_ret <| after_ret <| post (n := 0) (.inr rfl) rfl ?_ dD
  exact congrArg (fun z => LV.v (.bool z)) (show false = VSet ss.length l from (range_all_no (i := i) om (okI_no (.inl (by rw [hl0 om]; omega)))).symm)
 refine WO.Ug rfl (oPkT rfl rfl) rfl <| WO.U (oPkF rfl rfl) rfl <| Nk [1,2,7,8,9,17,18,19,20,21,24,25,26,27,28,29,30,31,32,33,34,35] rfl <| WC.cF1 rfl <| WC.skip <| after_normal <| Ck [1,2,7,8,9,17,18,19,20,21,24,25,26,27,28,29,30,31,32,33,34] rfl <| WC.reg1z (z := 2) rfl <| WO.U (cI (((i + 1 : Nat) : Int)) (oAdd64 rfl rfl om) om) rfl <| Um rfl rfl <| Wn <| loopR_normal ?_
 have hl2 : lastI l i < (l.getD i default) := by
  rcases Nat.eq_zero_or_pos i with e | e
  ·subst e; show (-1 : Int) < _; omega
  ·rw [hl0 e]; omega
 refine ⟨i + 1, ⟨rfl, rfl, rfl, rfl, rfl, trivial⟩, ⟨gG, trivial⟩, ⟨om, fun j hj => ?_, om⟩, by show l.length - (i + 1) < l.length - i; omega⟩
 by_cases e : j = i
 ·rw [e]; exact okI_yes hl2 om
 ·exact hok j om
theorem qin_run (kl : Nat) (l : List Int) (s : Nat) (ll : l.length < 1099511627776) : Run Tryz.prog T E0 (.call 24 [lvL kl l, .v (.int .i64 (s : Int))] (.v (.bool (inL l s)))) := by
 refine mkcall Tryz.func24 rfl rfl (Nat.le_of_ble_eq_true rfl) <| Rg 1 rfl <| Ua rfl rfl <| Wn <| WC.assoc <| Rg 3 rfl <| Um rfl rfl <| WO.U (oLenM rfl rfl) rfl <| Um rfl rfl <| Wn <| WC.block <| WC.loopV (α := Nat) (fun i => [(1, .v (.int .i64 (s : Int))), (7, lvL kl l), (8, .v (.int .i64 (l.length : Int))), (9, .v (.int .i64 (i : Int)))]) (fun i => []) (fun i n => i ≤ l.length ∧ (l.take i).any (fun t => decide (t = s)) = false) (fun i => l.length - i) (0) ⟨rfl, rfl, rfl, rfl, trivial⟩ trivial ⟨Nat.zero_le _, by simp⟩ ?_
 rintro i n hF
 change WC _ _ _ _ _ (_ :: _) ([]) n _
 obtain ⟨hi, ha⟩ := hF
 refine Rg 1 rfl <| WO.U (oLss rfl rfl) rfl <| WO.D (fun h10 => ?_) (fun h10 => ?_)
 rotate_left
 ·refine Wn <| WC.cF rfl <| WC.exits <| loopR_exit <| after_exit rfl <| Rg 1 rfl <| Ua rfl rfl <| Wn <| WC.ret <| post (n := 0) (.inr rfl) rfl ?_ dD
  exact congrArg (fun z => LV.v (.bool z)) (show false = inL l s from (any_end ha om).symm)
 refine Wn <| WC.cT rfl <| WC.skips <| WC.block <| Rg 3 rfl <| WO.U (oIxM rfl rfl rfl rfl rfl om rfl) rfl <| WO.U (oLd rfl rfl rfl) rfl <| Ua rfl rfl <| Wn <| Rg 3 rfl <| Um rfl rfl <| Um rfl rfl <| WO.U (oEql rfl rfl) rfl <| WO.D (fun h15 => ?_) (fun h15 => ?_)
 rotate_left
 ·refine Wn <| WC.cF1 rfl <| WC.skip <| after_normal <| WC.reg1z (z := 2) rfl <| WO.U (cI (((i + 1 : Nat) : Int)) (oAdd64 rfl rfl om) om) rfl <| Um rfl rfl <| Wn <| loopR_normal <| ⟨i + 1, ⟨rfl, rfl, rfl, rfl, trivial⟩, trivial, ⟨om, take_any ha om (decide_eq_false om)⟩, by show l.length - (i + 1) < l.length - i; omega⟩
 refine Wn <| WC.cT1 rfl <| Rg 1 rfl <| Ua rfl rfl <| Wn <| WC.ret <| after_ret <| loopR_ret <| after_ret <| post (n := 0) (.inr rfl) rfl ?_ dD
 exact congrArg (fun z => LV.v (.bool z)) (show true = inL l s from (any_yes (us := l) (p := fun t => decide (t = (s : Int))) (i := i) om (decide_eq_true om)).symm)
end Go.Proofs.YthpnlndhebcngaaGreat
set_option linter.unusedVariables false
set_option linter.unusedSimpArgs false
set_option maxRecDepth 100000
set_option maxHeartbeats 16000000
namespace Go.Proofs.YthpnlndhebcngaaGreat
open Go.Ab Go.RowKit
theorem sof_run (kl n0 : Nat) (l : List Int) (hn0 : n0 ≤ 40) (hV : VSet n0 l = true) (ll : l.length < 1099511627776) : Run Tryz.prog T E0 (.call 45 [lvL kl l] (lvS (inL l))) := by
 refine mkcall Tryz.func45 rfl rfl (Nat.le_of_ble_eq_true rfl) <| Rg 1 rfl <| WO.S (oAlS rfl rfl rfl) rfl <| Wn <| Rg 1 rfl <| WO.S (oAlS rfl rfl rfl) rfl <| Wn <| WC.assoc <| Rg 3 rfl <| Um rfl rfl <| WO.U (oLenM rfl rfl) rfl <| Um rfl rfl <| Wn <| WC.block <| WC.loopV (α := Nat) (fun i => [(2, .ptr 0 0), (3, .ptr (0 + 1) 0), (6, lvL kl l), (7, .v (.int .i64 (l.length : Int))), (8, .v (.int .i64 (i : Int)))]) (fun i => [(0 + 1, { cells := sb (inl l i), sz := 40, elem := (65), st := 0 }), (0, { cells := sb (fun _ => false), sz := 40, elem := (65), st := 0 })]) (fun i n => i ≤ l.length) (fun i => l.length - i) (0) ⟨rfl, rfl, rfl, rfl, rfl, trivial⟩ ⟨g0.trans (by exact sb_F fun i => by simp [inl]), g1 (by decide) g0, trivial⟩ (Nat.zero_le _) ?_
 rintro i n hF
 change WC _ _ _ _ _ (_ :: _) (_ :: _) n _
 have hi := hF
 refine Rg 1 rfl <| WO.U (oLss rfl rfl) rfl <| WO.D (fun h9 => ?_) (fun h9 => ?_)
 rotate_left
 ·refine Wn <| WC.cF rfl <| WC.exits <| loopR_exit <| after_exit rfl <| Rg 2 rfl <| WO.U (oLdS rfl rfl g0 rfl rfl rfl) rfl <| WO.S0 (oStS rfl rfl rfl (g1 (by decide) g0) (sb_len _) rfl) <| Wn <| WC.ret ?_
  have hil : i = l.length := by omega
  subst hil
  rw [inl_all]
  refine post (n := 0) (.inr rfl) rfl ?_ dD
  rfl
 refine Wn <| WC.cT rfl <| WC.skips <| WC.block ?_
 have hlt := VSet_lt hV (i := i) om
 refine Rg 3 rfl <| WO.U (oIxM rfl rfl rfl rfl rfl om rfl) rfl <| WO.U (oLd rfl rfl rfl) rfl <| Ua rfl rfl <| Wn <| WC.reg1z (z := 3) rfl <| Um rfl rfl <| WO.U (oIxA (j := (l.getD i default).toNat) rfl rfl rfl rfl om om) rfl <| WO.S0 (oStB om rfl rfl rfl g0 rfl) <| Wn <| after_normal <| WC.reg1z (z := 2) rfl <| WO.U (cI (((i + 1 : Nat) : Int)) (oAdd64 rfl rfl om) om) rfl <| Um rfl rfl <| Wn <| loopR_normal <| ⟨i + 1, ⟨rfl, rfl, rfl, rfl, rfl, trivial⟩, ⟨g0.trans (congrArg (fun z => some (Ob.mk (sb z) 40 65 0)) (inl_succ om om)), g1 (by decide) (g1 (by decide) g0), trivial⟩, om, by show l.length - (i + 1) < l.length - i; omega⟩
theorem has_run (f : Nat → Bool) (z : Int) (h0 : 0 ≤ z) (h1 : z < 40) : Run Tryz.prog T E0 (.call 48 [.ro (sb f), .v (.int .i64 z)] (.v (.bool (f z.toNat)))) := by
 refine mkcall Tryz.func48 rfl rfl (Nat.le_of_ble_eq_true rfl) <| Rg 1 rfl <| Ua rfl rfl <| Wn <| Rg 6 rfl <| Um rfl rfl <| Um rfl rfl <| WO.U (oNcR rfl) rfl <| WO.U (oIxAr (j := z.toNat) rfl rfl rfl rfl om om) rfl <| WO.U (oLdSb rfl rfl om rfl rfl) rfl <| Ua rfl rfl <| Wn <| WC.ret <| post (n := 0) (.inr rfl) rfl ?_ dD
 rfl
theorem anyf_run (z : Int) : Run Tryz.prog T E0 (.call 56 [.v (.int .i64 z)] (.v (.bool true))) := by
 refine mkcall Tryz.func56 rfl rfl (Nat.le_of_ble_eq_true rfl) <| Rg 1 rfl <| Ua rfl rfl <| Wn <| Rg 1 rfl <| Ua rfl rfl <| Wn <| WC.ret <| post (n := 0) (.inr rfl) rfl ?_ dD
 rfl
theorem must1_run (f g : Nat → Bool) (z : Int) (h0 : 0 ≤ z) (h1 : z < 40) : Run Tryz.prog T E0 (.call 58 [.v (.int .i64 z), .ro (sb f), .ro (sb g)] (.v (.bool (f z.toNat || g z.toNat)))) := by
 refine mkcall Tryz.func58 rfl rfl (Nat.le_of_ble_eq_true rfl) <| Rg 1 rfl <| Ua rfl rfl <| Wn <| Rg 9 rfl <| Um rfl rfl <| WO.U (oIxAr (j := z.toNat) rfl rfl rfl rfl om om) rfl <| WO.U (oLdSb rfl rfl om rfl rfl) rfl <| WO.B (fun h7 => ?_) (fun h7 => ?_)
 ·refine Um rfl rfl <| K1 rfl rfl <| K1 rfl rfl <| K1 rfl rfl <| WO.U (oPkT rfl rfl) rfl <| Ua rfl rfl <| Wn <| WC.ret <| post (n := 0) (.inr rfl) rfl ?_ dD
  exact congrArg (fun z => LV.v (.bool z)) (show true = _ by rw [h7, Bool.true_or])
 refine Um rfl rfl <| WO.Ug rfl (oMv rfl) rfl <| WO.Ug rfl (oIxAr (j := z.toNat) rfl rfl rfl rfl om om) rfl <| WO.Ug rfl (oLdSb rfl rfl om rfl rfl) rfl <| WO.U (oPkF rfl rfl) rfl <| Ua rfl rfl <| Wn <| WC.ret <| post (n := 0) (.inr rfl) rfl ?_ dD
 exact congrArg (fun z => LV.v (.bool z)) (show g z.toNat = _ by rw [h7, Bool.false_or])
theorem shun2_run (f : Nat → Bool) (z : Int) (h0 : 0 ≤ z) (h1 : z < 40) : Run Tryz.prog T E0 (.call 63 [.v (.int .i64 z), .ro (sb f)] (.v (.bool (!f z.toNat)))) := by
 refine mkcall Tryz.func63 rfl rfl (Nat.le_of_ble_eq_true rfl) <| Rg 1 rfl <| Ua rfl rfl <| Wn <| Rg 5 rfl <| Um rfl rfl <| WO.U (oIxAr (j := z.toNat) rfl rfl rfl rfl om om) rfl <| WO.U (oLdSb rfl rfl om rfl rfl) rfl <| WO.U (oNot rfl) rfl <| Ua rfl rfl <| Wn <| WC.ret <| post (n := 0) (.inr rfl) rfl ?_ dD
 rfl
theorem idx3_run (k : Nat) (ns : List BR) (g : FuncId) (cap : List LV) (p : BR → Bool) (hcap : ∀ c, c ∈ cap → Go.Ab.Data c) (ln : ns.length < 4611686018427387904) (hp : ∀ a, a ∈ ns → Run Tryz.prog T E0 (.call g ([.agg (brc a)] ++ cap) (.v (.bool (p a))))) : Run Tryz.prog T E0 (.call 99 [.sl k (ns.map brc), .fn (.func g) [] cap] (.v (.int .i64 (fidx p ns)))) := by
 refine mkcall Tryz.func99 rfl rfl (Nat.le_of_ble_eq_true rfl) <| Rg 1 rfl <| Ua rfl rfl <| Wn <| WC.assoc <| Rg 3 rfl <| Um rfl rfl <| WO.U (oLenM rfl rfl) rfl <| Um rfl rfl <| Wn <| WC.block <| WC.loopV (α := Nat) (fun i => [(0, .sl k (ns.map brc)), (1, .fn (.func g) [] cap), (7, .v (.int .i64 (ns.length : Int))), (8, .v (.int .i64 (i : Int)))]) (fun i => []) (fun i n => i ≤ ns.length ∧ (ns.take i).any p = false) (fun i => ns.length - i) (0) ⟨rfl, rfl, rfl, rfl, trivial⟩ trivial ⟨Nat.zero_le _, by simp⟩ ?_
 rintro i n hF
 change WC _ _ _ _ _ (_ :: _) ([]) n _
 obtain ⟨hi, ha⟩ := hF
 refine Rg 1 rfl <| WO.U (oLss rfl rfl) rfl <| WO.D (fun h9 => ?_) (fun h9 => ?_)
 rotate_left
 ·refine Wn <| WC.cF rfl <| WC.exits <| loopR_exit <| after_exit rfl <| Rg 1 rfl <| Ua rfl rfl <| Wn <| WC.ret <| post (n := 0) (.inr rfl) rfl ?_ dD
  exact congrArg (fun z => LV.v (.int .i64 z)) (fidx_none ha om).symm
 refine Wn <| WC.cT rfl <| WC.skips <| WC.block <| Rg 2 rfl <| Um rfl rfl <| Ua rfl rfl <| Wn <| Rg 6 rfl <| Um rfl rfl <| Um rfl rfl <| Um rfl rfl <| WO.U (oIxM rfl rfl rfl rfl rfl om rfl) rfl <| WO.U (oLd (l := .agg (brc (ns.getD i default))) rfl rfl rfl) rfl <| WO.U (oCallVD rfl rfl (hp _ (getD_mem om)) (data3 d0 (by intro c hc; rw [List.mem_singleton] at hc; subst hc; exact .agg _ (dbrc1 _)) hcap)) rfl <| WO.B (fun h16 => ?_) (fun h16 => ?_)
 rotate_left
 ·refine Wn <| WC.cF1 rfl <| WC.skip <| after_normal <| WC.reg1z (z := 2) rfl <| WO.U (cI (((i + 1 : Nat) : Int)) (oAdd64 rfl rfl om) om) rfl <| Um rfl rfl <| Wn <| loopR_normal <| ⟨i + 1, ⟨rfl, rfl, rfl, rfl, trivial⟩, trivial, ⟨om, take_any ha om h16⟩, by show ns.length - (i + 1) < ns.length - i; omega⟩
 refine Wn <| WC.cT1 rfl <| Rg 2 rfl <| Um rfl rfl <| Ua rfl rfl <| Nk [4] rfl <| WC.ret <| after_ret <| loopR_ret <| after_ret <| post (n := 0) (.inr rfl) rfl ?_ dD
 exact congrArg (fun z => LV.v (.int .i64 z)) (fidx_hit ha om h16).symm
theorem con3_run (k : Nat) (ns : List BR) (g : FuncId) (cap : List LV) (p : BR → Bool) (hcap : ∀ c, c ∈ cap → Go.Ab.Data c) (ln : ns.length < 4611686018427387904) (hp : ∀ a, a ∈ ns → Run Tryz.prog T E0 (.call g ([.agg (brc a)] ++ cap) (.v (.bool (p a))))) : Run Tryz.prog T E0 (.call 79 [.sl k (ns.map brc), .fn (.func g) [] cap] (.v (.bool (ns.any p)))) := by
 refine mkcall Tryz.func79 rfl rfl (Nat.le_of_ble_eq_true rfl) <| Rg 1 rfl <| Ua rfl rfl <| Wn <| Rg 5 rfl <| Um rfl rfl <| Um rfl rfl <| WO.U (oCallB [] [.sl k (ns.map brc), .fn (.func g) [] cap] rfl (idx3_run k ns g cap p hcap ln hp) (SnapB.datas (by intro c hc; simp only [List.mem_cons, List.not_mem_nil, or_false] at hc; rcases hc with rfl | rfl; exact .sl _ _ (fun row hr => dbrc row hr); exact dfn d0 hcap)) lent0) rfl <| WO.U (oGeq rfl rfl) rfl <| Ua rfl rfl <| Wn <| WC.ret <| post (n := 0) (.inr rfl) rfl ?_ dD
 exact congrArg (fun z => LV.v (.bool z)) (fidx_nonneg p ns)
theorem idx4_run (k : Nat) (ns : List CH) (g : FuncId) (cap : List LV) (p : CH → Bool) (hcap : ∀ c, c ∈ cap → Go.Ab.Data c) (ln : ns.length < 4611686018427387904) (hp : ∀ a, a ∈ ns → Run Tryz.prog T E0 (.call g ([lvC a] ++ cap) (.v (.bool (p a))))) : Run Tryz.prog T E0 (.call 59 [.sl k (ns.map chc), .fn (.func g) [] cap] (.v (.int .i64 (fidx p ns)))) := by
 refine mkcall Tryz.func59 rfl rfl (Nat.le_of_ble_eq_true rfl) <| Rg 1 rfl <| Ua rfl rfl <| Wn <| WC.assoc <| Rg 3 rfl <| Um rfl rfl <| WO.U (oLenM rfl rfl) rfl <| Um rfl rfl <| Wn <| WC.block <| WC.loopV (α := Nat) (fun i => [(0, .sl k (ns.map chc)), (1, .fn (.func g) [] cap), (7, .v (.int .i64 (ns.length : Int))), (8, .v (.int .i64 (i : Int)))]) (fun i => []) (fun i n => i ≤ ns.length ∧ (ns.take i).any p = false) (fun i => ns.length - i) (0) ⟨rfl, rfl, rfl, rfl, trivial⟩ trivial ⟨Nat.zero_le _, by simp⟩ ?_
 rintro i n hF
 change WC _ _ _ _ _ (_ :: _) ([]) n _
 obtain ⟨hi, ha⟩ := hF
 refine Rg 1 rfl <| WO.U (oLss rfl rfl) rfl <| WO.D (fun h9 => ?_) (fun h9 => ?_)
 rotate_left
 ·refine Wn <| WC.cF rfl <| WC.exits <| loopR_exit <| after_exit rfl <| Rg 1 rfl <| Ua rfl rfl <| Wn <| WC.ret <| post (n := 0) (.inr rfl) rfl ?_ dD
  exact congrArg (fun z => LV.v (.int .i64 z)) (fidx_none ha om).symm
 refine Wn <| WC.cT rfl <| WC.skips <| WC.block <| Rg 2 rfl <| Um rfl rfl <| Ua rfl rfl <| Wn <| Rg 6 rfl <| Um rfl rfl <| Um rfl rfl <| Um rfl rfl <| WO.U (oIxM rfl rfl rfl rfl rfl om rfl) rfl <| WO.U (oLd (l := .agg (chc (ns.getD i default))) rfl rfl rfl) rfl <| WO.U (oCallVD rfl rfl (hp _ (getD_mem om)) (data3 d0 (by intro c hc; rw [List.mem_singleton] at hc; subst hc; exact .agg _ (dchc1 _)) hcap)) rfl <| WO.B (fun h16 => ?_) (fun h16 => ?_)
 rotate_left
 ·refine Wn <| WC.cF1 rfl <| WC.skip <| after_normal <| WC.reg1z (z := 2) rfl <| WO.U (cI (((i + 1 : Nat) : Int)) (oAdd64 rfl rfl om) om) rfl <| Um rfl rfl <| Wn <| loopR_normal <| ⟨i + 1, ⟨rfl, rfl, rfl, rfl, trivial⟩, trivial, ⟨om, take_any ha om h16⟩, by show ns.length - (i + 1) < ns.length - i; omega⟩
 refine Wn <| WC.cT1 rfl <| Rg 2 rfl <| Um rfl rfl <| Ua rfl rfl <| Nk [4] rfl <| WC.ret <| after_ret <| loopR_ret <| after_ret <| post (n := 0) (.inr rfl) rfl ?_ dD
 exact congrArg (fun z => LV.v (.int .i64 z)) (fidx_hit ha om h16).symm
theorem con4_run (k : Nat) (ns : List CH) (g : FuncId) (cap : List LV) (p : CH → Bool) (hcap : ∀ c, c ∈ cap → Go.Ab.Data c) (ln : ns.length < 4611686018427387904) (hp : ∀ a, a ∈ ns → Run Tryz.prog T E0 (.call g ([lvC a] ++ cap) (.v (.bool (p a))))) : Run Tryz.prog T E0 (.call 96 [.sl k (ns.map chc), .fn (.func g) [] cap] (.v (.bool (ns.any p)))) := by
 refine mkcall Tryz.func96 rfl rfl (Nat.le_of_ble_eq_true rfl) <| Rg 1 rfl <| Ua rfl rfl <| Wn <| Rg 5 rfl <| Um rfl rfl <| Um rfl rfl <| WO.U (oCallB [] [.sl k (ns.map chc), .fn (.func g) [] cap] rfl (idx4_run k ns g cap p hcap ln hp) (SnapB.datas (by intro c hc; simp only [List.mem_cons, List.not_mem_nil, or_false] at hc; rcases hc with rfl | rfl; exact .sl _ _ (fun row hr => dchc row hr); exact dfn d0 hcap)) lent0) rfl <| WO.U (oGeq rfl rfl) rfl <| Ua rfl rfl <| Wn <| WC.ret <| post (n := 0) (.inr rfl) rfl ?_ dD
 exact congrArg (fun z => LV.v (.bool z)) (fidx_nonneg p ns)
theorem all1c_run (b : BR) (g : FuncId) (first cap : List LV) (v : Bool) (hf : ∀ c, c ∈ first → Go.Ab.Data c) (hcap : ∀ c, c ∈ cap → Go.Ab.Data c) (hp : Run Tryz.prog T E0 (.call g (first ++ [.v (.int .i64 b.1)] ++ cap) (.v (.bool v)))) : Run Tryz.prog T E0 (.call 98 [.agg (brc b), .ro [.fn (.func g) first cap]] (.v (.bool (!v)))) := by
 refine mkcall Tryz.func98 rfl rfl (Nat.le_of_ble_eq_true rfl) <| Rg 2 rfl <| WO.S (oBx rfl rfl) rfl <| Ua rfl rfl <| Wn <| Rg 6 rfl <| WO.U (oLd (cs := [.fn (.func g) first cap]) (l := .fn (.func g) first cap) rfl rfl rfl) rfl <| WO.U (oFaP rfl rfl rfl rfl rfl) rfl <| WO.U (oLdP rfl rfl (by repeat (first | exact g0 | refine g1 (by decide) ?_)) rfl rfl) rfl ?_
 refine WO.U (oCallVD rfl rfl hp (data3 hf (dII _) hcap)) rfl <| WO.U (oNot rfl) rfl <| Ua rfl rfl <| Wn <| WC.ret <| post (n := 0) (.inr rfl) rfl ?_ dD
 rfl
theorem some1c_run (b : BR) (g : FuncId) (first cap : List LV) (v : Bool) (hf : ∀ c, c ∈ first → Go.Ab.Data c) (hcap : ∀ c, c ∈ cap → Go.Ab.Data c) (hp : Run Tryz.prog T E0 (.call g (first ++ [.v (.int .i64 b.1)] ++ cap) (.v (.bool v)))) : Run Tryz.prog T E0 (.call 80 [.agg (brc b), .ro [.fn (.func g) first cap]] (.v (.bool (v)))) := by
 refine mkcall Tryz.func80 rfl rfl (Nat.le_of_ble_eq_true rfl) <| Rg 2 rfl <| WO.S (oBx rfl rfl) rfl <| Ua rfl rfl <| Wn <| Rg 5 rfl <| WO.U (oLd (cs := [.fn (.func g) first cap]) (l := .fn (.func g) first cap) rfl rfl rfl) rfl <| WO.U (oFaP rfl rfl rfl rfl rfl) rfl <| WO.U (oLdP rfl rfl (by repeat (first | exact g0 | refine g1 (by decide) ?_)) rfl rfl) rfl ?_
 refine WO.U (oCallVD rfl rfl hp (data3 hf (dII _) hcap)) rfl <| Ua rfl rfl <| Wn <| WC.ret <| post (n := 0) (.inr rfl) rfl ?_ dD
 rfl
theorem allc_run (c : CH) (g : FuncId) (first cap : List LV) (p : Nat → Bool) (hf : ∀ c, c ∈ first → Go.Ab.Data c) (hcap : ∀ c, c ∈ cap → Go.Ab.Data c) (ln : c.2.2.length < 4611686018427387904) (hp : ∀ b, b ∈ c.2.2 → Run Tryz.prog T E0 (.call g (first ++ [.v (.int .i64 b.1)] ++ cap) (.v (.bool (p b.1.toNat))))) : Run Tryz.prog T E0 (.call 78 [lvC c, .fn (.func g) first cap] (.v (.bool (wi c p)))) := by
 refine mkcall Tryz.func78 rfl rfl (Nat.le_of_ble_eq_true rfl) <| Rg 3 rfl <| WO.S (oBx rfl rfl) rfl <| WO.S (oBx rfl rfl) rfl <| Ua rfl rfl <| Wn <| Rg 6 rfl <| WO.U (oFaP rfl rfl rfl rfl rfl) rfl <| WO.U (oLdP rfl rfl (g1 (by decide) g0) rfl rfl) rfl <| WO.U (oMf rfl) rfl <| WO.U (oCallB [0 + 1] [.sl c.2.1 (c.2.2.map brc), .fn (.func 98) [] [.ro [.fn (.func g) first cap]]] rfl (con3_run c.2.1 c.2.2 98 [.ro [.fn (.func g) first cap]] (fun b : BR => !p b.1.toNat) (droF hf hcap) ln (fun b hb => all1c_run b g first cap (p b.1.toNat) hf hcap (hp b hb))) (.data (.sl _ _ fun row hr => dbrc row hr) (.fn .nil (.box g0 (List.mem_singleton.2 rfl) (by show (0 : Nat) ≠ 2; decide) (fun c hc => by have hc' := List.mem_singleton.1 hc; subst hc'; exact dfn hf hcap) .nil) .nil)) (.cons g0 (by show (0 : Nat) ≠ 2; decide) lent0)) rfl <| WO.U (oNot rfl) rfl <| Ua rfl rfl <| Wn <| WC.ret <| post (n := 0) (.inr rfl) rfl ?_ dD
 exact congrArg (fun z => LV.v (.bool z)) (any_not (fun b : BR => p b.1.toNat) c.2.2)
theorem somec_run (c : CH) (g : FuncId) (first cap : List LV) (p : Nat → Bool) (hf : ∀ c, c ∈ first → Go.Ab.Data c) (hcap : ∀ c, c ∈ cap → Go.Ab.Data c) (ln : c.2.2.length < 4611686018427387904) (hp : ∀ b, b ∈ c.2.2 → Run Tryz.prog T E0 (.call g (first ++ [.v (.int .i64 b.1)] ++ cap) (.v (.bool (p b.1.toNat))))) : Run Tryz.prog T E0 (.call 61 [lvC c, .fn (.func g) first cap] (.v (.bool (me c p)))) := by
 refine mkcall Tryz.func61 rfl rfl (Nat.le_of_ble_eq_true rfl) <| Rg 3 rfl <| WO.S (oBx rfl rfl) rfl <| WO.S (oBx rfl rfl) rfl <| Ua rfl rfl <| Wn <| Rg 5 rfl <| WO.U (oFaP rfl rfl rfl rfl rfl) rfl <| WO.U (oLdP rfl rfl (g1 (by decide) g0) rfl rfl) rfl <| WO.U (oMf rfl) rfl <| WO.U (oCallB [0 + 1] [.sl c.2.1 (c.2.2.map brc), .fn (.func 80) [] [.ro [.fn (.func g) first cap]]] rfl (con3_run c.2.1 c.2.2 80 [.ro [.fn (.func g) first cap]] (fun b : BR => p b.1.toNat) (droF hf hcap) ln (fun b hb => some1c_run b g first cap (p b.1.toNat) hf hcap (hp b hb))) (.data (.sl _ _ fun row hr => dbrc row hr) (.fn .nil (.box g0 (List.mem_singleton.2 rfl) (by show (0 : Nat) ≠ 2; decide) (fun c hc => by have hc' := List.mem_singleton.1 hc; subst hc'; exact dfn hf hcap) .nil) .nil)) (.cons g0 (by show (0 : Nat) ≠ 2; decide) lent0)) rfl <| Ua rfl rfl <| Wn <| WC.ret <| post (n := 0) (.inr rfl) rfl ?_ dD
 rfl
theorem grown1_run (c : CH) (g : FuncId) (first cap : List LV) (p f : Nat → Bool) (hf : ∀ c, c ∈ first → Go.Ab.Data c) (hcap : ∀ c, c ∈ cap → Go.Ab.Data c) (hB : ∀ b, b ∈ c.2.2 → 0 ≤ b.1 ∧ b.1 < 40) (ln : c.2.2.length < 4611686018427387904) (hp : ∀ b, b ∈ c.2.2 → Run Tryz.prog T E0 (.call g (first ++ [.v (.int .i64 b.1)] ++ cap) (.v (.bool (p b.1.toNat))))) : Run Tryz.prog T E0 (.call 77 [lvC c, .ro [.fn (.func g) first cap], .ro (sb f)] (.v (.bool (okc p f c)))) := by
 refine mkcall Tryz.func77 rfl rfl (Nat.le_of_ble_eq_true rfl) <| Rg 2 rfl <| WO.S (oBx rfl rfl) rfl <| Ua rfl rfl <| Wn <| Rg 9 rfl <| WO.U (oLdP (l := lvC c) rfl rfl g0 rfl rfl) rfl <| WO.U (oLd (cs := [.fn (.func g) first cap]) (l := .fn (.func g) first cap) rfl rfl rfl) rfl <| WO.U (oCallB [] [lvC c, .fn (.func g) first cap] rfl (allc_run c g first cap p hf hcap ln hp) (SnapB.data dc1 (.data (dfn hf hcap) .nil)) lent0) rfl <| WO.B (fun h7 => ?_) (fun h7 => ?_)
 ·refine Um rfl rfl <| WO.Ug rfl (oLdP (l := lvC c) rfl rfl g0 rfl rfl) rfl <| WO.Ug rfl (oMf1 rfl rfl) rfl <| WO.Ug rfl (oCallB [] [lvC c, .fn (.func 48) [.ro (sb f)] []] rfl (somec_run c 48 [.ro (sb f)] [] f (dro f) d0 ln (fun b hb => has_run f b.1 (hB b hb).1 (hB b hb).2)) (SnapB.data dc1 (.data (dfn (dro f) d0) .nil)) lent0) rfl <| WO.U (oPkT rfl rfl) rfl <| Ua rfl rfl <| Wn <| WC.ret <| post (n := 0) (.inr rfl) rfl ?_ dD
  exact congrArg (fun z => LV.v (.bool z)) (show me c f = okc p f c by unfold okc; rw [h7, Bool.true_and])
 refine Um rfl rfl <| K1 rfl rfl <| K1 rfl rfl <| K1 rfl rfl <| WO.U (oPkF rfl rfl) rfl <| Ua rfl rfl <| Wn <| WC.ret <| post (n := 0) (.inr rfl) rfl ?_ dD
 exact congrArg (fun z => LV.v (.bool z)) (show false = okc p f c by unfold okc; rw [h7, Bool.false_and])
theorem shun1_run (c : CH) (f : Nat → Bool) (hB : ∀ b, b ∈ c.2.2 → 0 ≤ b.1 ∧ b.1 < 40) (ln : c.2.2.length < 4611686018427387904) : Run Tryz.prog T E0 (.call 60 [lvC c, .ro (sb f)] (.v (.bool (!me c f)))) := by
 refine mkcall Tryz.func60 rfl rfl (Nat.le_of_ble_eq_true rfl) <| Rg 2 rfl <| WO.S (oBx rfl rfl) rfl <| Ua rfl rfl <| Wn <| Rg 5 rfl <| WO.U (oLdP (l := lvC c) rfl rfl g0 rfl rfl) rfl <| WO.U (oMf1 rfl rfl) rfl <| WO.U (oCallB [] [lvC c, .fn (.func 48) [.ro (sb f)] []] rfl (somec_run c 48 [.ro (sb f)] [] f (dro f) d0 ln (fun b hb => has_run f b.1 (hB b hb).1 (hB b hb).2)) (SnapB.data dc1 (.data (dfn (dro f) d0) .nil)) lent0) rfl <| WO.U (oNot rfl) rfl <| Ua rfl rfl <| Wn <| WC.ret <| post (n := 0) (.inr rfl) rfl ?_ dD
 rfl
theorem pick1_run (c : CH) (g : FuncId) (cap : List LV) (v : Bool) (hcap : ∀ c, c ∈ cap → Go.Ab.Data c) (hp : Run Tryz.prog T E0 (.call g ([lvC c] ++ cap) (.v (.bool v)))) : Run Tryz.prog T E0 (.call 97 [lvC c, .ro [.fn (.func g) [] cap]] (.v (.bool (!v)))) := by
 refine mkcall Tryz.func97 rfl rfl (Nat.le_of_ble_eq_true rfl) <| Rg 2 rfl <| WO.S (oBx rfl rfl) rfl <| Ua rfl rfl <| Wn <| Rg 5 rfl <| WO.U (oLd (cs := [.fn (.func g) [] cap]) (l := .fn (.func g) [] cap) rfl rfl rfl) rfl <| WO.U (oLdP (l := lvC c) rfl rfl g0 rfl rfl) rfl <| WO.U (oCallVD rfl rfl hp (data3 d0 (by intro x hx; rw [List.mem_singleton] at hx; subst hx; exact dc1) hcap)) rfl <| WO.U (oNot rfl) rfl <| Ua rfl rfl <| Wn <| WC.ret <| post (n := 0) (.inr rfl) rfl ?_ dD
 rfl
theorem pick_run (x : Go.Ab.ST) (pl : Int) (g : FuncId) (cap : List LV) (q : CH → Bool) (hcap : ∀ c, c ∈ cap → Go.Ab.Data c) (ln : x.2.2.length < 4611686018427387904) (hq : ∀ c, c ∈ x.2.2 → Run Tryz.prog T E0 (.call g ([lvC c] ++ cap) (.v (.bool (q c))))) : Run Tryz.prog T E0 (.call 76 [.agg (stc x), .v (.int .i64 pl), .fn (.func g) [] cap] (.v (.int .i64 (pk x pl q)))) := by
 refine mkcall Tryz.func76 rfl rfl (Nat.le_of_ble_eq_true rfl) <| Rg 3 rfl <| WO.S (oBx rfl rfl) rfl <| WO.S (oBx rfl rfl) rfl <| Ua rfl rfl <| Wn <| Rg 5 rfl <| WO.U (oFaP rfl rfl rfl rfl rfl) rfl <| WO.U (oLdP rfl rfl (g1 (by decide) g0) rfl rfl) rfl <| WO.U (oLdP (l := .fn (.func g) [] cap) rfl rfl g0 rfl rfl) rfl <| WO.U (oCallB [] [.sl x.2.1 (x.2.2.map chc), .fn (.func g) [] cap] rfl (idx4_run x.2.1 x.2.2 g cap q hcap ln hq) (SnapB.data (.sl _ _ fun row hr => dchc row hr) (.data (dfn d0 hcap) .nil)) lent0) rfl <| Ua rfl rfl <| Wn <| WC.assoc <| Rg 4 rfl <| WO.U (oFaP rfl rfl rfl rfl rfl) rfl <| WO.U (oLdP rfl rfl (g1 (by decide) g0) rfl rfl) rfl <| Um rfl rfl <| WO.U (oEql rfl rfl) rfl <| WO.D (fun h15 => ?_) (fun h15 => ?_)
 ·refine Nk [3,5,7,15] rfl <| WC.cT rfl <| WC.assoc <| Rg 2 rfl <| Um rfl rfl <| Ua rfl rfl <| Wn <| WC.rets <| post (n := 0) (.inr rfl) rfl ?_ dD
  exact congrArg (fun z => LV.v (.int .i64 z)) (show fidx q x.2.2 = pk x pl q by unfold pk; rw [if_pos om])
 refine Nk [3,5,7,15] rfl <| WC.cF rfl <| WC.skips <| WC.assoc <| Rg 4 rfl <| WO.U (oFaP rfl rfl rfl rfl rfl) rfl <| WO.U (oLdP rfl rfl (g1 (by decide) g0) rfl rfl) rfl <| WO.U (oMf rfl) rfl <| WO.U (oCallB [0 + 1] [.sl x.2.1 (x.2.2.map chc), .fn (.func 97) [] [.ro [.fn (.func g) [] cap]]] rfl (con4_run x.2.1 x.2.2 97 [.ro [.fn (.func g) [] cap]] (fun c => !q c) (droF d0 hcap) ln (fun c hc => pick1_run c g cap (q c) hcap (hq c hc))) (.data (.sl _ _ fun row hr => dchc row hr) (.fn .nil (.box g0 (List.mem_singleton.2 rfl) (by show (0 : Nat) ≠ 2; decide) (fun c hc => by have hc' := List.mem_singleton.1 hc; subst hc'; exact dfn d0 hcap) .nil) .nil)) (.cons g0 (by show (0 : Nat) ≠ 2; decide) lent0)) rfl <| WO.B (fun h20 => ?_) (fun h20 => ?_)
 ·refine Wn <| WC.cT rfl <| WC.assoc <| Rg 1 rfl <| Ua rfl rfl <| Wn <| WC.rets <| post (n := 0) (.inr rfl) rfl ?_ dD
  exact congrArg (fun z => LV.v (.int .i64 z)) (show -1 = pk x pl q by unfold pk; rw [if_neg om, if_pos h20])
 refine Wn <| WC.cF rfl <| WC.skips <| Rg 1 rfl <| Ua rfl rfl <| Wn <| WC.ret <| post (n := 0) (.inr rfl) rfl ?_ dD
 exact congrArg (fun z => LV.v (.int .i64 z)) (show 0 = pk x pl q by unfold pk; rw [if_neg om, if_neg (by rw [h20]; decide)])
theorem marked_run (n0 : Nat) (g : FuncId) (first cap : List LV) (f : Nat → Bool) (hn0 : n0 ≤ 40) (hf : ∀ c, c ∈ first → Go.Ab.Data c) (hcap : ∀ c, c ∈ cap → Go.Ab.Data c) (hp : ∀ s : Nat, s < n0 → Run Tryz.prog T E0 (.call g (first ++ [.v (.int .i64 (s : Int))] ++ cap) (.v (.bool (f s))))) : Run Tryz.prog T E0 (.call 62 [.v (.int .i64 (n0 : Int)), .fn (.func g) first cap] (lvL (kd (fl n0 f).length) (fl n0 f))) := by
 refine mkcall Tryz.func62 rfl rfl (Nat.le_of_ble_eq_true rfl) <| Rg 1 rfl <| Ua rfl rfl <| Wn <| Rg 1 rfl <| Ua rfl rfl <| Wn <| WC.assoc <| Rg 2 rfl <| Um rfl rfl <| Um rfl rfl <| Wn <| WC.block <| WC.loopV (α := Nat × Nat) (fun ⟨i, q⟩ => [(1, .fn (.func g) first cap), (5, outV q 1 ((fl i f).map ic)), (7, .v (.int .i64 (n0 : Int))), (8, .v (.int .i64 (i : Int)))]) (fun ⟨i, q⟩ => outH q 1 (3) ((fl i f).map ic) []) (fun ⟨i, q⟩ n => i ≤ n0 ∧ q < n) (fun ⟨i, q⟩ => n0 - i) (0, 0) ⟨rfl, rfl, rfl, rfl, trivial⟩ trivial ⟨Nat.zero_le _, om⟩ ?_
 rintro ⟨i, q⟩ n hF
 change WC _ _ _ _ _ (_ :: _) (outH _ _ _ _ _) n _
 obtain ⟨hi, hq⟩ := hF
 have hfl := fl_len i f
 refine Rg 1 rfl <| WO.U (oLss rfl rfl) rfl <| WO.D (fun h9 => ?_) (fun h9 => ?_)
 rotate_left
 ·refine Wn <| WC.cF rfl <| WC.exits <| loopR_exit <| after_exit rfl <| Rg 2 rfl <| Um rfl rfl <| Ua rfl rfl <| Wn <| WC.ret ?_
  have hil : i = n0 := by omega
  subst hil
  rw [show lvL (kd (fl i f).length) (fl i f) = outR ((fl i f).map ic) from (outR_kd _ _).symm]
  exact postOut (n := 0) (.inr rfl) rfl (by decide) (rows_of (f := ic) (n := 1) fun _ => rfl) (data_of dic1)
 refine Wn <| WC.cT rfl <| WC.skips <| WC.block <| Rg 2 rfl <| Um rfl rfl <| Ua rfl rfl <| Wn <| Rg 3 rfl <| Um rfl rfl <| Um rfl rfl <| WO.U (oCallVD rfl rfl (hp i om) (data3 hf (dII _) hcap)) rfl <| WO.B (fun h13 => ?_) (fun h13 => ?_)
 rotate_left
 ·refine Wn <| WC.cF1 rfl <| WC.skip <| after_normal <| WC.reg1z (z := 2) rfl <| WO.U (cI (((i + 1 : Nat) : Int)) (oAdd64 rfl rfl om) om) rfl <| Um rfl rfl <| Wn <| loopR_normal ?_
  have e : fl (i + 1) f = fl i f := by rw [fl_succ, if_neg (by rw [h13]; decide)]
  refine ⟨⟨i + 1, q⟩, ⟨rfl, congrArg some (by rw [e]), rfl, rfl, trivial⟩, by dsimp only; rw [e]; exact subsM_out, ⟨om, om⟩, by show n0 - (i + 1) < n0 - i; omega⟩
 refine Wn <| WC.cT1 rfl <| WC.reg1z (z := 5) rfl <| Um rfl rfl <| Um rfl rfl <| WO.U (oBs' (cs := [_]) (rows := [[_]]) rfl rfl (by decide) rfl rfl rfl) rfl <| WO.apM (te := ti3) (f := ic) (q := q) (us := fl i f) (u := (i : Int)) rfl rfl rfl rfl rfl (fun _ => rfl) (by decide) (by show (2 * ((fl i f).length + 1) + 256) * 8 ≤ _; omega) om rfl rfl rfl <| Ua rfl rfl <| Wn <| after_normal <| WC.reg1z (z := 2) rfl <| WO.U (cI (((i + 1 : Nat) : Int)) (oAdd64 rfl rfl om) om) rfl <| Um rfl rfl <| Wn <| loopR_normal ?_
 have e : fl (i + 1) f = fl i f ++ [(i : Int)] := by rw [fl_succ, if_pos h13]
 refine ⟨⟨i + 1, _⟩, ⟨rfl, congrArg some (by rw [e]; rfl), rfl, rfl, trivial⟩, by dsimp only; rw [e]; exact subsM_out, ⟨om, om⟩, by show n0 - (i + 1) < n0 - i; omega⟩
theorem list_run (n0 : Nat) (f : Nat → Bool) (hn0 : n0 ≤ 40) : Run Tryz.prog T E0 (.call 57 [.ro (sb f), .v (.int .i64 (n0 : Int))] (lvL (kd (fl n0 f).length) (fl n0 f))) := by
 refine mkcall Tryz.func57 rfl rfl (Nat.le_of_ble_eq_true rfl) <| Rg 1 rfl <| Ua rfl rfl <| Wn <| Rg 5 rfl <| Um rfl rfl <| Um rfl rfl <| WO.U (oMf1 rfl rfl) rfl <| WO.U (oCall rfl (marked_run n0 48 [.ro (sb f)] [] f hn0 (dro f) d0 (fun s hs => has_run f (s : Int) om om)) (allData_of (by intro c hc; simp only [List.mem_cons, List.not_mem_nil, or_false] at hc; rcases hc with rfl | rfl; exact .v _; exact dfn (dro f) d0))) rfl <| Ua rfl rfl <| Wn <| WC.ret <| post (n := 0) (.inr rfl) rfl ?_ dD
 rfl
end Go.Proofs.YthpnlndhebcngaaGreat
set_option linter.unusedVariables false
set_option linter.unusedSimpArgs false
set_option maxRecDepth 100000
set_option maxHeartbeats 16000000
namespace Go.Proofs.YthpnlndhebcngaaGreat
open Go.Ab Go.RowKit
theorem g_to {h : Hp} {q : Nat} {a b : Ob} (h1 : getH h q = some a) (h2 : a = b) : getH h q = some b := by rw [h1, h2]
theorem grown_share (n0 : Nat) (H : Hp) (k : Nat) (ss : List Go.Ab.ST) (goal : Nat → Bool) (pl : Int) (g : FuncId) (cap cap' : List LV) (S : List Nat) (ins : Nat → Bool) (hnd : subsM H H) (hlt : ∀ q o, getH H q = some o → q < n0) (hS : ∀ q, q ∈ S → q < n0) (hcap : (∀ (H' : Hp) (S' : List Nat), (∀ q o, getH H q = some o → getH H' q = some o) → (∀ q, q ∈ S → q ∈ S') → SnapB H' S' cap cap' ∧ Lent H' S)) (hwt : WT ss) (hl : ∀ x, x ∈ ss → x.2.2.length < 1000000 ∧ ∀ c, c ∈ x.2.2 → c.2.2.length < 1000000) (hrun : ∀ z : Int, 0 ≤ z → z < 40 → Run Tryz.prog T E0 (.call g ([.v (.int .i64 z)] ++ cap') (.v (.bool (ins z.toNat))))) : WC Tryz.prog T E0 Tryz.f55.ntmps (codeOf Tryz.f55) (argsEnv 0 [lvMo k ss, lvS goal, .v (.int .i64 pl), .fn (.func g) [] cap]) H n0 (fun x e' h' n' => (x = .normal ∨ x = .ret) ∧ ∃ q0, resE e' T h' Tryz.f55.results.toList = some [lvS (gX ss pl ins goal), .ref q0 1 0 ss.length] ∧ getH h' q0 = some { cells := ((tab ss.length (gC ss pl ins goal)).map ic).flatten, sz := 1, elem := (3), st := 0 } ∧ n0 ≤ q0 ∧ n0 ≤ n' ∧ ∀ q o, getH H q = some o → getH h' q = some o) := by
 have hn40 := hwt.len
 have hcd : ∀ c, c ∈ cap' → Go.Ab.Data c := (hcap H S (fun _ _ h => h) (fun _ h => h)).1.dat
 change WC _ _ _ _ _ [(0, lvMo k ss), (1, lvS goal), (2, .v (.int .i64 pl)), (3, .fn (.func g) [] cap)] _ _ _
 refine Rg 5 rfl <| WO.S (oBx rfl rfl) rfl <| WO.S (oBxS rfl) rfl <| WO.S (oBx rfl rfl) rfl <| WO.S (oAlS rfl rfl rfl) rfl <| Ua rfl rfl <| Wn <| Rg 3 rfl <| WO.U (oLdS rfl rfl gG rfl rfl rfl) rfl ?_
 refine WO.S (oAlS rfl rfl rfl) rfl <| WO.S0 (oStS rfl rfl rfl g0 (sb_len _) rfl) <| Wn <| Rg 5 rfl <| WO.U (oFaP rfl rfl rfl rfl rfl) rfl <| WO.U (oLdP rfl rfl gG rfl rfl) rfl ?_
 refine WO.U (oLenM rfl rfl) rfl <| WO.S (oMk (a := ss.length) (b := ss.length) rfl rfl rfl rfl (by simp) (by simp) (by decide) om (by show 8 * ss.length ≤ _; omega) om) rfl <| Ua rfl rfl <| Nk [2,4,7,8,10,11] rfl <| WC.block1 <| WC.loopV (α := Nat) (fun kk => [(2, .v (.int .i64 pl)), (4, .ptr n0 0), (7, .ptr (n0 + 2) 0), (8, .ptr (n0 + 3) 0), (10, .ptr (n0 + 5 + 1) 0), (11, .ref (n0 + 5 + 3 + 3) 1 0 ss.length)]) (fun kk => ((n0 + 5 + 1), { cells := sb ((gx ss pl ins goal kk)), sz := 40, elem := (65), st := 0 }) :: ((n0 + 5 + 3 + 3), { cells := ((tab ss.length ((gc ss pl ins goal kk))).map ic).flatten, sz := 1, elem := (3), st := 0 }) :: (n0, { cells := [.sl k (ss.map stc)], sz := 1, elem := (24), st := 0 }) :: ((n0 + 2), { cells := [.fn (.func g) [] cap], sz := 1, elem := (68), st := 0 }) :: ((n0 + 3), { cells := sb (fun _ => false), sz := 40, elem := (65), st := 0 }) :: H) (fun kk n => kk ≤ (fl ss.length (gx ss pl ins goal kk)).length ∧ n0 + 13 ≤ n) (fun kk => ss.length + 1 - kk) (0) ⟨rfl, rfl, rfl, rfl, rfl, rfl, trivial⟩ ⟨gG, g_to gG (by exact tab_repiF fun _ => rfl), gG, gG, gG, subsM_self hnd (by intro q o hq; have := hlt q o hq; repeat (first | exact hq | refine g1 om ?_))⟩ ⟨Nat.zero_le _, om⟩ ?_
 rintro kk n hF
 change WC _ _ _ _ _ [(2, .v (.int .i64 pl)), (4, .ptr n0 0), (7, .ptr (n0 + 2) 0), (8, .ptr (n0 + 3) 0), (10, .ptr (n0 + 5 + 1) 0), (11, .ref (n0 + 5 + 3 + 3) 1 0 ss.length)] (((n0 + 5 + 1), { cells := sb ((gx ss pl ins goal kk)), sz := 40, elem := (65), st := 0 }) :: ((n0 + 5 + 3 + 3), { cells := ((tab ss.length ((gc ss pl ins goal kk))).map ic).flatten, sz := 1, elem := (3), st := 0 }) :: (n0, { cells := [.sl k (ss.map stc)], sz := 1, elem := (24), st := 0 }) :: ((n0 + 2), { cells := [.fn (.func g) [] cap], sz := 1, elem := (68), st := 0 }) :: ((n0 + 3), { cells := sb (fun _ => false), sz := 40, elem := (65), st := 0 }) :: H) n _
 obtain ⟨hk, hn⟩ := hF
 have hkl := fl_len ss.length (gx ss pl ins goal kk)
 obtain ⟨nK, hnK⟩ : ∃ z, z = n := ⟨n, rfl⟩
 subst hnK
 refine WC.block1 <| Rg 3 rfl <| WO.U (oLdS rfl rfl gG rfl rfl rfl) rfl ?_
 refine WO.S (oAlS rfl rfl rfl) rfl <| WO.S0 (oStS rfl rfl rfl g0 (sb_len _) rfl) <| Wn <| WC.assoc <| Rg 4 rfl <| WO.U (oFaP rfl rfl rfl rfl rfl) rfl <| WO.U (oLdP rfl rfl gG rfl rfl) rfl ?_
 refine WO.U (oLenM rfl rfl) rfl <| Um rfl rfl <| Wn <| WC.block <| WC.loopV (α := Nat) (fun j => [(2, .v (.int .i64 pl)), (4, .ptr n0 0), (7, .ptr (n0 + 2) 0), (8, .ptr (n0 + 3) 0), (10, .ptr (n0 + 5 + 1) 0), (11, .ref (n0 + 5 + 3 + 3) 1 0 ss.length), (12, .ptr (nK + 1) 0), (23, .sl k (ss.map stc)), (24, .v (.int .i64 (ss.length : Int))), (25, .v (.int .i64 (j : Int)))]) (fun j => (nK + 1, { cells := sb ((gx ss pl ins goal kk)), sz := 40, elem := (65), st := 0 }) :: ((n0 + 5 + 1), { cells := sb ((mixf (gx ss pl ins goal kk) (gx ss pl ins goal (kk + 1)) j)), sz := 40, elem := (65), st := 0 }) :: ((n0 + 5 + 3 + 3), { cells := ((tab ss.length ((mixf (gc ss pl ins goal kk) (gc ss pl ins goal (kk + 1)) j))).map ic).flatten, sz := 1, elem := (3), st := 0 }) :: (n0, { cells := [.sl k (ss.map stc)], sz := 1, elem := (24), st := 0 }) :: ((n0 + 2), { cells := [.fn (.func g) [] cap], sz := 1, elem := (68), st := 0 }) :: ((n0 + 3), { cells := sb (fun _ => false), sz := 40, elem := (65), st := 0 }) :: H) (fun j n => j ≤ ss.length ∧ nK + 7 ≤ n) (fun j => ss.length - j) (0) ⟨rfl, rfl, rfl, rfl, rfl, rfl, rfl, rfl, rfl, rfl, trivial⟩ ⟨gG, g_to gG (by rw [mixf_zero]), g_to gG (by rw [mixf_zero]), gG, gG, gG, subsM_self hnd (by intro q o hq; have := hlt q o hq; repeat (first | exact hq | refine g1 om ?_))⟩ ⟨Nat.zero_le _, om⟩ ?_
 rintro j n hF
 change WC _ _ _ _ _ [(2, .v (.int .i64 pl)), (4, .ptr n0 0), (7, .ptr (n0 + 2) 0), (8, .ptr (n0 + 3) 0), (10, .ptr (n0 + 5 + 1) 0), (11, .ref (n0 + 5 + 3 + 3) 1 0 ss.length), (12, .ptr (nK + 1) 0), (23, .sl k (ss.map stc)), (24, .v (.int .i64 (ss.length : Int))), (25, .v (.int .i64 (j : Int)))] ((nK + 1, { cells := sb ((gx ss pl ins goal kk)), sz := 40, elem := (65), st := 0 }) :: ((n0 + 5 + 1), { cells := sb ((mixf (gx ss pl ins goal kk) (gx ss pl ins goal (kk + 1)) j)), sz := 40, elem := (65), st := 0 }) :: ((n0 + 5 + 3 + 3), { cells := ((tab ss.length ((mixf (gc ss pl ins goal kk) (gc ss pl ins goal (kk + 1)) j))).map ic).flatten, sz := 1, elem := (3), st := 0 }) :: (n0, { cells := [.sl k (ss.map stc)], sz := 1, elem := (24), st := 0 }) :: ((n0 + 2), { cells := [.fn (.func g) [] cap], sz := 1, elem := (68), st := 0 }) :: ((n0 + 3), { cells := sb (fun _ => false), sz := 40, elem := (65), st := 0 }) :: H) n _
 obtain ⟨hj, hn2⟩ := hF
 refine Rg 1 rfl <| WO.U (oLss rfl rfl) rfl <| WO.D (fun h26 => ?_) (fun h26 => ?_)
 rotate_left
 ·refine Wn <| WC.cF rfl <| WC.exits <| loopR_exit <| after_exit rfl ?_
  have hjn : j = ss.length := by omega
  have e1 : (mixf (gx ss pl ins goal kk) (gx ss pl ins goal (kk + 1)) j) = (gx ss pl ins goal (kk + 1)) := by rw [hjn]; exact mixf_end fun s hs => gstep_out hs
  have e2 : (mixf (gc ss pl ins goal kk) (gc ss pl ins goal (kk + 1)) j) = (gc ss pl ins goal (kk + 1)) := by rw [hjn]; exact mixf_end fun s hs => newc_out hs
  rw [e1, e2]
  refine Rg 3 rfl <| WO.U (oLdS rfl rfl gG rfl rfl rfl) rfl ?_
  refine WO.U (oLdS rfl rfl gG rfl rfl rfl) rfl ?_
  refine WO.U (oEqSets rfl rfl rfl rfl rfl rfl) rfl <| WO.B (fun h57 => ?_) (fun h57 => ?_)
  rotate_left
  ·refine Wn <| WC.cF1 rfl <| WC.skip <| after0_normal <| loopR_normal <| ⟨kk + 1, ⟨rfl, rfl, rfl, rfl, rfl, rfl, trivial⟩, ⟨gG, gG, gG, gG, gG, subsM_self hnd (by intro q o hq; have := hlt q o hq; repeat (first | exact hq | refine g1 om ?_))⟩, ⟨gx_grow hn40 hk h57, om⟩, by show ss.length + 1 - (kk + 1) < ss.length + 1 - kk; omega⟩
  refine Wn <| WC.cT1 rfl <| Rg 4 rfl <| WO.U (oLdS rfl rfl gG rfl rfl rfl) rfl ?_
  refine Um rfl rfl <| WO.S0 (oStS rfl rfl rfl gG (sb_len _) rfl) ?_
  refine Ua rfl rfl <| Nk [8,9] rfl <| WC.ret <| after0_ret <| loopR_ret <| after0_ret ?_
  obtain ⟨e3, e4⟩ := gX_of hn40 hk h57
  rw [e3, e4]
  exact ⟨.inr rfl, (n0 + 5 + 3 + 3), resE_cellS rfl rfl rfl rfl g0 rfl rfl, gG, om, om, (by intro q o hq; have := hlt q o hq; repeat (first | exact hq | refine g1 om ?_))⟩
 refine Wn <| WC.cT rfl <| WC.skips <| WC.block ?_
 have hm := getD_mem (us := ss) (i := j) om
 obtain ⟨hl1, hl2⟩ := hl _ hm
 refine Rg 6 rfl <| Um rfl rfl <| WO.U (oIxM rfl rfl rfl rfl rfl om rfl) rfl <| WO.U (oLd (l := .agg (stc (ss.getD j default))) rfl rfl rfl) rfl <| WO.S (oAl rfl) rfl <| Ua rfl rfl <| WO.S0 (oSt (cs' := stc (ss.getD j default)) rfl rfl rfl g0 rfl rfl rfl rfl) <| Nk [2,4,7,8,10,11,12,13,14,23,24,25] rfl <| WC.assoc <| Rg 3 rfl <| Um rfl rfl <| WO.U (oIxA (j := j) rfl rfl rfl rfl om om) rfl <| WO.U (oLdB om rfl rfl rfl gG rfl (fun _ _ => rfl)) rfl ?_
 refine WO.B (fun h32 => ?_) (fun h32 => ?_)
 ·refine Nk [2,4,7,8,10,11,12,13,14,23,24,25,32] rfl <| WC.cT rfl <| WC.exits <| after_exit rfl <| WC.reg1z (z := 2) rfl <| WO.U (cI (((j + 1 : Nat) : Int)) (oAdd64 rfl rfl om) om) rfl <| Um rfl rfl <| Wn <| loopR_normal ?_
  have ex : (mixf (gx ss pl ins goal kk) (gx ss pl ins goal (kk + 1)) j) = (mixf (gx ss pl ins goal kk) (gx ss pl ins goal (kk + 1)) (j + 1)) := (mixf_skip (f := (gx ss pl ins goal kk)) (gs_a h32)).symm
  have ec : (mixf (gc ss pl ins goal kk) (gc ss pl ins goal (kk + 1)) j) = (mixf (gc ss pl ins goal kk) (gc ss pl ins goal (kk + 1)) (j + 1)) := (mixf_skip (f := (gc ss pl ins goal kk)) (newc_old (gs_a h32))).symm
  refine ⟨j + 1, ⟨rfl, rfl, rfl, rfl, rfl, rfl, rfl, rfl, rfl, rfl, trivial⟩, ⟨gG, g_to gG (congrArg (fun z => Ob.mk (sb z) 40 65 0) ex), g_to gG (congrArg (fun z => Ob.mk ((tab ss.length z).map ic).flatten 1 3 0) ec), gG, gG, gG, subsM_self hnd (by intro q o hq; have := hlt q o hq; repeat (first | exact hq | refine g1 om ?_))⟩, ⟨om, om⟩, by show ss.length - (j + 1) < ss.length - j; omega⟩
 refine Nk [2,4,7,8,10,11,12,13,14,23,24,25,32] rfl <| WC.cF rfl <| WC.skips <| Rg 5 rfl <| WO.U (oLdP (l := .agg (stc (ss.getD j default))) rfl rfl gG rfl rfl) rfl ?_
 refine Um rfl rfl <| WO.U (oMf rfl) rfl <| WO.U (oCallB ((n0 + 2) :: (nK + 1) :: S) [.agg (stc (ss.getD j default)), .v (.int .i64 pl), .fn (.func 77) [] [.ro [.fn (.func g) [] cap'], .ro (sb (gx ss pl ins goal kk))]] rfl (pick_run (ss.getD j default) pl 77 [.ro [.fn (.func g) [] cap'], .ro (sb (gx ss pl ins goal kk))] (okc ins (gx ss pl ins goal kk)) (d2ro hcd) om (fun c hc => grown1_run c g [] cap' ins (gx ss pl ins goal kk) d0 hcd (fun b hb => to40 hwt hm hc hb) (by have := hl2 c hc; omega) (fun b hb => hrun b.1 (to40 hwt hm hc hb).1 (to40 hwt hm hc hb).2))) (.data (.agg _ (dstc1 _)) (.data (.v _) (.fn .nil (.boxF (q := n0 + 2) (ob := { cells := [.fn (.func g) [] cap], sz := 1, elem := (68), st := 0 }) gG (by simp) (by show (0 : Nat) ≠ 2; decide) rfl (.fn .nil (by exact (hcap _ ((n0 + 2) :: (nK + 1) :: S) (by intro q o hq; have := hlt q o hq; repeat (first | exact hq | refine g1 om ?_)) (fun q hq => .tail _ (.tail _ hq))).1) .nil) (.box (q := nK + 1) (ob := { cells := sb ((gx ss pl ins goal kk)), sz := 40, elem := (65), st := 0 }) gG (by simp) (by show (0 : Nat) ≠ 2; decide) (data_sb _) .nil)) .nil))) (.cons gG (by show (0 : Nat) ≠ 2; decide) (.cons gG (by show (0 : Nat) ≠ 2; decide) (hcap _ S (by intro q o hq; have := hlt q o hq; repeat (first | exact hq | refine g1 om ?_)) (fun _ h => h)).2))) rfl ?_
 refine Ua rfl rfl <| Nk [2,4,7,8,10,11,12,13,14,15,23,24,25] rfl <| Rg 7 rfl <| Um rfl rfl <| WO.U (oGeq rfl rfl) rfl <| WO.D (fun h38 => ?_) (fun h38 => ?_)
 rotate_left
 ·refine Um rfl rfl <| K1 rfl rfl <| K1 rfl rfl <| K1 rfl rfl <| WO.U (oPkF rfl rfl) rfl <| Nk [2,4,7,8,10,11,12,13,14,15,23,24,25,40,41,42,43] rfl <| WC.cF1 rfl <| WC.skip <| after_normal <| Ck [2,4,7,8,10,11,12,23,24,25,40,41,42] rfl <| WC.reg1z (z := 2) rfl <| WO.U (cI (((j + 1 : Nat) : Int)) (oAdd64 rfl rfl om) om) rfl <| Um rfl rfl <| Wn <| loopR_normal ?_
  have ex : (mixf (gx ss pl ins goal kk) (gx ss pl ins goal (kk + 1)) j) = (mixf (gx ss pl ins goal kk) (gx ss pl ins goal (kk + 1)) (j + 1)) := (mixf_skip (f := (gx ss pl ins goal kk)) (gs_b h32 (pk_no h38))).symm
  have ec : (mixf (gc ss pl ins goal kk) (gc ss pl ins goal (kk + 1)) j) = (mixf (gc ss pl ins goal kk) (gc ss pl ins goal (kk + 1)) (j + 1)) := (mixf_skip (f := (gc ss pl ins goal kk)) (newc_old (gs_b h32 (pk_no h38)))).symm
  refine ⟨j + 1, ⟨rfl, rfl, rfl, rfl, rfl, rfl, rfl, rfl, rfl, rfl, trivial⟩, ⟨gG, g_to gG (congrArg (fun z => Ob.mk (sb z) 40 65 0) ex), g_to gG (congrArg (fun z => Ob.mk ((tab ss.length z).map ic).flatten 1 3 0) ec), gG, gG, gG, subsM_self hnd (by intro q o hq; have := hlt q o hq; repeat (first | exact hq | refine g1 om ?_))⟩, ⟨om, om⟩, by show ss.length - (j + 1) < ss.length - j; omega⟩
 refine Um rfl rfl <| WO.Ug rfl (oLdP (l := .fn (.func g) [] cap) rfl rfl gG rfl rfl) rfl ?_
 refine WO.Ug rfl (oMv rfl) rfl <| WO.Ug rfl (oCallVB S ([.v (.int .i64 (j : Int))] ++ cap') rfl rfl (hrun (j : Int) om om) (SnapB.data (.v _) (hcap _ S (by intro q o hq; have := hlt q o hq; repeat (first | exact hq | refine g1 om ?_)) (fun _ h => h)).1) (hcap _ S (by intro q o hq; have := hlt q o hq; repeat (first | exact hq | refine g1 om ?_)) (fun _ h => h)).2) rfl ?_
 refine WO.B (fun h42 => ?_) (fun h42 => ?_)
 rotate_left
 ·refine WO.U (oPkT rfl rfl) rfl <| Nk [2,4,7,8,10,11,12,13,14,15,23,24,25,40,41,42,43] rfl <| WC.cF1 rfl <| WC.skip <| after_normal <| Ck [2,4,7,8,10,11,12,23,24,25,40,41,42] rfl <| WC.reg1z (z := 2) rfl <| WO.U (cI (((j + 1 : Nat) : Int)) (oAdd64 rfl rfl om) om) rfl <| Um rfl rfl <| Wn <| loopR_normal ?_
  have ex : (mixf (gx ss pl ins goal kk) (gx ss pl ins goal (kk + 1)) j) = (mixf (gx ss pl ins goal kk) (gx ss pl ins goal (kk + 1)) (j + 1)) := (mixf_skip (f := (gx ss pl ins goal kk)) (gs_c h32 h42)).symm
  have ec : (mixf (gc ss pl ins goal kk) (gc ss pl ins goal (kk + 1)) j) = (mixf (gc ss pl ins goal kk) (gc ss pl ins goal (kk + 1)) (j + 1)) := (mixf_skip (f := (gc ss pl ins goal kk)) (newc_old (gs_c h32 h42))).symm
  refine ⟨j + 1, ⟨rfl, rfl, rfl, rfl, rfl, rfl, rfl, rfl, rfl, rfl, trivial⟩, ⟨gG, g_to gG (congrArg (fun z => Ob.mk (sb z) 40 65 0) ex), g_to gG (congrArg (fun z => Ob.mk ((tab ss.length z).map ic).flatten 1 3 0) ec), gG, gG, gG, subsM_self hnd (by intro q o hq; have := hlt q o hq; repeat (first | exact hq | refine g1 om ?_))⟩, ⟨om, om⟩, by show ss.length - (j + 1) < ss.length - j; omega⟩
 refine WO.U (oPkT rfl rfl) rfl <| Nk [2,4,7,8,10,11,12,13,14,15,23,24,25,40,41,42,43] rfl <| WC.cT1 rfl <| Rg 3 rfl <| Um rfl rfl <| WO.U (oIxA (j := j) rfl rfl rfl rfl om om) rfl <| WO.S0 (oStB om rfl rfl rfl gG rfl) ?_
 refine Nk [2,4,7,8,10,11,12,13,14,15,23,24,25,40,41,42] rfl <| Rg 4 rfl <| WO.U (oFaP rfl rfl rfl rfl rfl) rfl <| WO.U (oLdP rfl rfl gG rfl rfl) rfl ?_
 refine Um rfl rfl <| WO.U (oEql rfl rfl) rfl <| WO.D (fun h49 => ?_) (fun h49 => ?_)
 rotate_left
 ·refine Nk [2,4,7,8,10,11,12,13,15,23,24,25,40,41,42,49] rfl <| WC.cF1 rfl <| WC.skip <| after_normal <| Ck [2,4,7,8,10,11,12,23,24,25,40,41,42] rfl <| WC.reg1z (z := 2) rfl <| WO.U (cI (((j + 1 : Nat) : Int)) (oAdd64 rfl rfl om) om) rfl <| Um rfl rfl <| Wn <| loopR_normal ?_
  have ex : (fun i => if i = j then true else (mixf (gx ss pl ins goal kk) (gx ss pl ins goal (kk + 1)) j) i) = (mixf (gx ss pl ins goal kk) (gx ss pl ins goal (kk + 1)) (j + 1)) := by rw [mixf_set, show (gx ss pl ins goal (kk + 1)) j = true from gs_d om h42 (pk_yes h38)]; rfl
  have ec : (mixf (gc ss pl ins goal kk) (gc ss pl ins goal (kk + 1)) j) = (mixf (gc ss pl ins goal kk) (gc ss pl ins goal (kk + 1)) (j + 1)) := (mixf_skip (f := (gc ss pl ins goal kk)) (nc_d om)).symm
  refine ⟨j + 1, ⟨rfl, rfl, rfl, rfl, rfl, rfl, rfl, rfl, rfl, rfl, trivial⟩, ⟨gG, g_to gG (congrArg (fun z => Ob.mk (sb z) 40 65 0) ex), g_to gG (congrArg (fun z => Ob.mk ((tab ss.length z).map ic).flatten 1 3 0) ec), gG, gG, gG, subsM_self hnd (by intro q o hq; have := hlt q o hq; repeat (first | exact hq | refine g1 om ?_))⟩, ⟨om, om⟩, by show ss.length - (j + 1) < ss.length - j; omega⟩
 refine Nk [2,4,7,8,10,11,12,13,15,23,24,25,40,41,42,49] rfl <| WC.cT1 rfl <| WC.reg1z (z := 5) rfl <| Um rfl rfl <| Um rfl rfl <| Um rfl rfl <| WO.U (oIxR (j := j) rfl rfl rfl rfl om om rfl) rfl <| WO.S0 (oStTi rfl rfl rfl gG om rfl) ?_
 refine Wn <| after_normal <| Ck [2,4,7,8,10,11,12,23,24,25,40,41,42] rfl <| WC.reg1z (z := 2) rfl <| WO.U (cI (((j + 1 : Nat) : Int)) (oAdd64 rfl rfl om) om) rfl <| Um rfl rfl <| Wn <| loopR_normal ?_
 have ex : (fun i => if i = j then true else (mixf (gx ss pl ins goal kk) (gx ss pl ins goal (kk + 1)) j) i) = (mixf (gx ss pl ins goal kk) (gx ss pl ins goal (kk + 1)) (j + 1)) := by rw [mixf_set, show (gx ss pl ins goal (kk + 1)) j = true from gs_d om h42 (pk_yes h38)]; rfl
 have ec : (fset (mixf (gc ss pl ins goal kk) (gc ss pl ins goal (kk + 1)) j) j (pk (ss.getD j default) pl (okc ins (gx ss pl ins goal kk)))) = (mixf (gc ss pl ins goal kk) (gc ss pl ins goal (kk + 1)) (j + 1)) := by rw [mixf_set, show (gc ss pl ins goal (kk + 1)) j = pk (ss.getD j default) pl (okc ins (gx ss pl ins goal kk)) from nc_e h32 om h42 (pk_yes h38) om]
 refine ⟨j + 1, ⟨rfl, rfl, rfl, rfl, rfl, rfl, rfl, rfl, rfl, rfl, trivial⟩, ⟨gG, g_to gG (congrArg (fun z => Ob.mk (sb z) 40 65 0) ex), g_to gG (congrArg (fun z => Ob.mk ((tab ss.length z).map ic).flatten 1 3 0) ec), gG, gG, gG, subsM_self hnd (by intro q o hq; have := hlt q o hq; repeat (first | exact hq | refine g1 om ?_))⟩, ⟨om, om⟩, by show ss.length - (j + 1) < ss.length - j; omega⟩
end Go.Proofs.YthpnlndhebcngaaGreat
set_option linter.unusedVariables false
set_option linter.unusedSimpArgs false
set_option maxRecDepth 100000
set_option maxHeartbeats 16000000
namespace Go.Proofs.YthpnlndhebcngaaGreat
open Go.Ab Go.RowKit
theorem grown_run (k : Nat) (ss : List Go.Ab.ST) (goal : Nat → Bool) (pl : Int) (g : FuncId) (ins : Nat → Bool) (hwt : WT ss) (hl : ∀ x, x ∈ ss → x.2.2.length < 1000000 ∧ ∀ c, c ∈ x.2.2 → c.2.2.length < 1000000) (hrun : ∀ z : Int, 0 ≤ z → z < 40 → Run Tryz.prog T E0 (.call g [.v (.int .i64 z)] (.v (.bool (ins z.toNat))))) :
  Run Tryz.prog T E0 (.call 55 [lvMo k ss, lvS goal, .v (.int .i64 pl), .fn (.func g) [] []] (.tup [lvS (gX ss pl ins goal), lvG 1 ss.length (gC ss pl ins goal)])) := by
 refine mkcall Tryz.func55 rfl rfl (Nat.le_of_ble_eq_true rfl) <| (grown_share 0 [] k ss goal pl g [] [] [] ins trivial (by intro q o hq; simp [getH] at hq) (by intro q hq; simp at hq) (fun H' S' _ _ => ⟨.nil, lent0⟩) hwt hl (fun z h0 h1 => hrun z h0 h1)).mono ?_
 rintro x e h n ⟨hx, q0, hr, hq, _, _, _⟩
 exact postA [(q0, { cells := ((tab ss.length (gC ss pl ins goal)).map ic).flatten, sz := 1, elem := (3), st := 1 })] hx hr (.data dc1 (.own ((tab ss.length (gC ss pl ins goal)).map ic) (by rw [List.length_map, tab_len]) hq (by show (0 : Nat) ≠ 2; decide) rfl (by decide) (by simp [keys]) rfl rows_ic (data_of dic1) .nil)) (by intro p hp; rw [List.mem_singleton] at hp; subst hp; exact ⟨_, hq, by show (0 : Nat) ≠ 2; decide, rfl⟩)
theorem can_run (k kl : Nat) (ss : List Go.Ab.ST) (l : List Int) (pl : Int) (hV : VM1 ss) (hS : VSet ss.length l = true) (ll : l.length < 1099511627776) : Run Tryz.prog T E0 (.call 35 [lvMo k ss, lvL kl l, .v (.int .i64 pl)] (.tup [lvL (kd (fl ss.length (gX ss pl (fun _ => true) (inL l))).length) (fl ss.length (gX ss pl (fun _ => true) (inL l))), lvG 1 ss.length (gC ss pl (fun _ => true) (inL l))])) := by
 have hn40 := hV.wt.len
 have hgl : ∀ s, inL l s = true → s < ss.length := fun s hs => inL_lt hS hs
 have hl : ∀ x, x ∈ ss → x.2.2.length < 1000000 ∧ ∀ c, c ∈ x.2.2 → c.2.2.length < 1000000 := fun x hx => ⟨by have := hV.cs x hx; omega, fun c hc => by have := hV.bs x hx c hc; omega⟩
 refine mkcall Tryz.func35 rfl rfl (Nat.le_of_ble_eq_true rfl) <| Rg 3 rfl <| WO.S (oBx rfl rfl) rfl <| Ua rfl rfl <| Ua rfl rfl <| Wn <| WC.draw (z := 11) rfl (by kernel_rfl) <| WD.U (oLdP (l := lvMo k ss) rfl rfl (by repeat (first | exact g0 | refine g1 (by decide) ?_)) rfl rfl) rfl ?_
 refine Dm rfl rfl <| WD.U (oCall rfl (sof_run kl ss.length l hn40 hS ll) dD) rfl <| Dm rfl rfl <| WD.U (oCall rfl (grown_run k ss (inL l) (pl) 56 (fun _ => true) hV.wt hl (fun z _ _ => anyf_run z)) (allData_of (by intro c hc; simp only [List.mem_cons, List.not_mem_nil, or_false] at hc; rcases hc with rfl | rfl | rfl | rfl; exact dc1; exact dc1; exact .v _; exact dfn d0 d0))) rfl <| Dm rfl rfl <| WD.U (oEx rfl rfl) rfl <| WD.U (oEx rfl rfl) rfl <| WD.S (oAlS rfl rfl rfl) rfl <| WD.S0 (oStS rfl rfl rfl g0 (sb_len _) rfl) <| WD.U (oAs rfl) rfl <| WD.nil (drawOk_of (by kernel_rfl)) rfl <| Ck [3,8,9] rfl <| Rg 7 rfl <| WO.U (oFaP rfl rfl rfl rfl rfl) rfl <| WO.U (oLdP rfl rfl (by repeat (first | exact g0 | refine g1 (by decide) ?_)) rfl rfl) rfl ?_
 refine WO.U (oLenM rfl rfl) rfl <| WO.S (oCallF [.ro (sb (gX ss pl (fun _ => true) (inL l))), .v (.int .i64 (ss.length : Int))] [(0 + 3 + 8, { cells := sb (gX ss pl (fun _ => true) (inL l)), sz := 40, elem := (65), st := 1 })] rfl (list_run ss.length (gX ss pl (fun _ => true) (inL l)) hn40) (SnapB.toA (.box (ob := { cells := sb (gX ss pl (fun _ => true) (inL l)), sz := 40, elem := (65), st := 0 }) (by repeat (first | exact g0 | refine g1 (by decide) ?_)) (by simp [keys]) (by show (0 : Nat) ≠ 2; decide) (data_sb _) (.data (.v _) .nil))) (by intro p hp; rw [List.mem_singleton] at hp; subst hp; exact ⟨_, (by repeat (first | exact g0 | refine g1 (by decide) ?_)), by show (0 : Nat) ≠ 2; decide, rfl⟩)) rfl ?_
 refine Um rfl rfl <| Ua rfl rfl <| Ua rfl rfl <| Wn <| WC.ret <| post (n := 0) (.inr rfl) rfl ?_ dD
 rfl
theorem must_lt {n a b : Nat} {o1 o2 o3 : Ob} (hn : a < n ∧ b < n ∧ 0 < n) : ∀ q o, getH [(a, o1), (b, o2), (0, o3)] q = some o → q < n + 11 := by
 intro q o hq
 by_cases h1 : a = q
 ·omega
 ·rw [g1 h1 rfl] at hq
  by_cases h2 : b = q
  ·omega
  ·rw [g1 h2 rfl] at hq
   by_cases h3 : 0 = q
   ·omega
   ·rw [g1 h3 rfl] at hq; simp [getH] at hq
theorem must_cap {H' : Hp} {S' : List Nat} {a b : Nat} {f g : Nat → Bool} (h1 : getH H' a = some { cells := sb (f), sz := 40, elem := (65), st := 0 }) (h2 : getH H' b = some { cells := sb (g), sz := 40, elem := (65), st := 0 }) (hS : ∀ q, q ∈ [a, b] → q ∈ S') : SnapB H' S' [.ptr a 0, .ptr b 0] [.ro (sb f), .ro (sb g)] ∧ Lent H' [a, b] :=
 ⟨.box (ob := { cells := sb (f), sz := 40, elem := (65), st := 0 }) h1 (hS _ (by simp)) (by show (0 : Nat) ≠ 2; decide) (data_sb _) (.box (ob := { cells := sb (g), sz := 40, elem := (65), st := 0 }) h2 (hS _ (by simp)) (by show (0 : Nat) ≠ 2; decide) (data_sb _) .nil), .cons h1 (by show (0 : Nat) ≠ 2; decide) (.cons h2 (by show (0 : Nat) ≠ 2; decide) lent0)⟩
theorem must_run (k kl : Nat) (ss : List Go.Ab.ST) (l : List Int) (pl : Int) (hV : VM1 ss) (hS : VSet ss.length l = true) (ll : l.length < 1099511627776) : Run Tryz.prog T E0 (.call 36 [lvMo k ss, lvL kl l, .v (.int .i64 pl)] (.tup [lvL (kd (fl ss.length (mX ss pl (inL l))).length) (fl ss.length (mX ss pl (inL l))), lvG 1 ss.length (mC ss pl (inL l))])) := by
 have hn40 := hV.wt.len
 have hgl : ∀ s, inL l s = true → s < ss.length := fun s hs => inL_lt hS hs
 have hl : ∀ x, x ∈ ss → x.2.2.length < 1000000 ∧ ∀ c, c ∈ x.2.2 → c.2.2.length < 1000000 := fun x hx => ⟨by have := hV.cs x hx; omega, fun c hc => by have := hV.bs x hx c hc; omega⟩
 refine mkcall Tryz.func36 rfl rfl (Nat.le_of_ble_eq_true rfl) <| Rg 3 rfl <| WO.S (oBx rfl rfl) rfl <| Ua rfl rfl <| Ua rfl rfl <| Wn <| Rg 1 rfl <| WO.S (oAlS rfl rfl rfl) rfl <| Wn <| WC.assoc <| Rg 4 rfl <| WO.U (oFaP rfl rfl rfl rfl rfl) rfl <| WO.U (oLdP rfl rfl (by repeat (first | exact g0 | refine g1 (by decide) ?_)) rfl rfl) rfl ?_
 refine WO.U (oLenM rfl rfl) rfl <| Um rfl rfl <| Wn <| WC.block <| WC.loopV (α := Nat) (fun i => [(1, lvL kl l), (2, .v (.int .i64 pl)), (3, .ptr 0 0), (8, .ptr (0 + 3) 0), (15, .v (.int .i64 (ss.length : Int))), (16, .v (.int .i64 (i : Int)))]) (fun i => [((0 + 3), { cells := sb (fun s => decide (s < i)), sz := 40, elem := (65), st := 0 }), (0, { cells := [.sl k (ss.map stc)], sz := 1, elem := (24), st := 0 })]) (fun i n => i ≤ ss.length ∧ 4 ≤ n) (fun i => ss.length - i) (0) ⟨rfl, rfl, rfl, rfl, rfl, rfl, trivial⟩ ⟨g0.trans (by exact sb_F fun i => decide_eq_false om), g1 (by decide) g0, trivial⟩ ⟨Nat.zero_le _, om⟩ ?_
 rintro i n hF
 change WC _ _ _ _ _ (_ :: _) (_ :: _) n _
 obtain ⟨hi, hn⟩ := hF
 obtain ⟨nK, hnK⟩ : ∃ z, z = n := ⟨n, rfl⟩
 subst hnK
 refine Rg 1 rfl <| WO.U (oLss rfl rfl) rfl <| WO.D (fun h17 => ?_) (fun h17 => ?_)
 ·refine Wn <| WC.cT rfl <| WC.skips <| WC.block <| Rg 2 rfl <| Um rfl rfl <| Ua rfl rfl <| Wn <| WC.reg1z (z := 3) rfl <| Um rfl rfl <| WO.U (oIxA (j := i) rfl rfl rfl rfl om om) rfl <| WO.S0 (oStB om rfl rfl rfl gG rfl) ?_
  refine Wn <| after_normal <| WC.reg1z (z := 2) rfl <| WO.U (cI (((i + 1 : Nat) : Int)) (oAdd64 rfl rfl om) om) rfl <| Um rfl rfl <| Wn <| loopR_normal <| ⟨i + 1, ⟨rfl, rfl, rfl, rfl, rfl, rfl, trivial⟩, ⟨g_to g0 (congrArg (fun z => Ob.mk (sb z) 40 65 0) (below_succ i)), gG, trivial⟩, ⟨om, om⟩, by show ss.length - (i + 1) < ss.length - i; omega⟩
 refine Wn <| WC.cF rfl <| WC.exits <| loopR_exit <| after_exit rfl ?_
 have hin : i = ss.length := by omega
 subst hin
 refine Rg 4 rfl <| Um rfl rfl <| WO.U (oCall rfl (sof_run kl ss.length l hn40 hS ll) dD) rfl <| WO.S (oAlS rfl rfl rfl) rfl <| WO.S0 (oStS rfl rfl rfl g0 (sb_len _) rfl) <| Wn <| WC.block1 <| WC.loopV (α := Nat) (fun kk => [(2, .v (.int .i64 pl)), (3, .ptr 0 0), (8, .ptr (0 + 3) 0), (10, .ptr (nK + 1 + 2) 0)]) (fun kk => [((0 + 3), { cells := sb ((mi ss pl (inL l) kk)), sz := 40, elem := (65), st := 0 }), ((nK + 1 + 2), { cells := sb (inL l), sz := 40, elem := (65), st := 0 }), (0, { cells := [.sl k (ss.map stc)], sz := 1, elem := (24), st := 0 })]) (fun kk n => kk + (fl ss.length (mi ss pl (inL l) kk)).length ≤ ss.length ∧ nK + 4 ≤ n) (fun kk => (fl ss.length (mi ss pl (inL l) kk)).length) (0) ⟨rfl, rfl, rfl, rfl, trivial⟩ ⟨gG, gG, gG, trivial⟩ ⟨by show 0 + (fl ss.length fun s => decide (s < ss.length)).length ≤ _; rw [fl_all]; omega, om⟩ ?_
 rintro kk n hF
 change WC _ _ _ _ _ (_ :: _) (_ :: _) n _
 obtain ⟨hk, hn2⟩ := hF
 have hn : 0 + 3 < n ∧ nK + 1 + 2 < n ∧ 0 < n := by omega
 refine WC.block1 <| WC.regn (z := 11) rfl <| WN.U (oLdP (l := lvMo k ss) rfl rfl gG rfl rfl) rfl ?_
 refine WN.U (oLdS rfl rfl gG rfl rfl rfl) rfl ?_
 refine WN.U (oMv rfl) rfl <| WN.U (oMf rfl) rfl <| WN.G (ls := [lvMo k ss, lvS (inL l), .v (.int .i64 pl), .fn (.func 58) [] [.ptr (0 + 3) 0, .ptr (nK + 1 + 2) 0]]) (Φ := fun r h' n' => ∃ q0, r = .tup [lvS (gX ss pl (fun s => mi ss pl (inL l) kk s || inL l s) (inL l)), .ref q0 1 0 ss.length] ∧ getH h' q0 = some { cells := ((tab ss.length (gC ss pl (fun s => mi ss pl (inL l) kk s || inL l s) (inL l))).map ic).flatten, sz := 1, elem := (3), st := 0 } ∧ n + 11 ≤ q0 ∧ n + 11 ≤ n' ∧ ∀ q o, getH [((0 + 3), { cells := sb ((mi ss pl (inL l) kk)), sz := 40, elem := (65), st := 0 }), ((nK + 1 + 2), { cells := sb (inL l), sz := 40, elem := (65), st := 0 }), (0, { cells := [.sl k (ss.map stc)], sz := 1, elem := (24), st := 0 })] q = some o → getH h' q = some o) rfl Tryz.func55 rfl rfl (Nat.le_of_ble_eq_true rfl) rfl ((grown_share (n + 11) [((0 + 3), { cells := sb ((mi ss pl (inL l) kk)), sz := 40, elem := (65), st := 0 }), ((nK + 1 + 2), { cells := sb (inL l), sz := 40, elem := (65), st := 0 }), (0, { cells := [.sl k (ss.map stc)], sz := 1, elem := (24), st := 0 })] k ss (inL l) pl 58 [.ptr (0 + 3) 0, .ptr (nK + 1 + 2) 0] [.ro (sb (mi ss pl (inL l) kk)), .ro (sb (inL l))] [(0 + 3), (nK + 1 + 2)] (fun s => mi ss pl (inL l) kk s || inL l s) ⟨gG, gG, gG, trivial⟩ (must_lt hn) (by intro q hq; simp only [List.mem_cons, List.not_mem_nil, or_false] at hq; omega) (fun H' S' hH hSS => must_cap (hH _ _ gG) (hH _ _ gG) hSS) hV.wt hl (fun z h0 h1 => must1_run _ _ z h0 h1)).mono (by rintro x e h n' ⟨hx, q0, hr, hq, h1, h2, h3⟩; exact ⟨hx, _, hr, q0, rfl, hq, h1, h2, h3⟩)) ?_
 rintro r' h' n' ⟨q0, rfl, hq0, hb, hn', hH⟩
 refine WN.weakM [(q0, { cells := ((tab ss.length (gC ss pl (fun s => mi ss pl (inL l) kk s || inL l s) (inL l))).map ic).flatten, sz := 1, elem := (3), st := 0 }), ((0 + 3), { cells := sb ((mi ss pl (inL l) kk)), sz := 40, elem := (65), st := 0 }), ((nK + 1 + 2), { cells := sb (inL l), sz := 40, elem := (65), st := 0 }), (0, { cells := [.sl k (ss.map stc)], sz := 1, elem := (24), st := 0 })] ⟨hq0, hH _ _ gG, hH _ _ gG, hH _ _ gG, trivial⟩ ?_
 refine WN.U (oMv rfl) rfl <| WN.U (oEx rfl rfl) rfl <| WN.U (oEx rfl rfl) rfl <| WN.S (oAlS rfl rfl rfl) rfl <| WN.S0 (oStS rfl rfl rfl g0 (sb_len _) rfl) <| WN.U (oAs rfl) rfl <| WN.nil <| WC.assoc <| Rg 3 rfl <| WO.U (oLdS rfl rfl gG rfl rfl rfl) rfl ?_
 refine WO.U (oLdS rfl rfl gG rfl rfl rfl) rfl ?_
 refine WO.U (oEqSets rfl rfl rfl rfl rfl rfl) rfl <| WO.B (fun h34 => ?_) (fun h34 => ?_)
 rotate_left
 ·refine Nk [2,3,8,10,11,12,34] rfl <| WC.cF rfl <| WC.skips <| WC.reg1z (z := 2) rfl <| WO.U (oLdS rfl rfl gG rfl rfl rfl) rfl ?_
  refine WO.S0 (oStS rfl rfl rfl gG (sb_len _) rfl) ?_
  refine Wn <| after0_normal <| loopR_normal ?_
  have hd := mi_dec (p := pl) hgl hn40 h34
  refine ⟨kk + 1, ⟨rfl, rfl, rfl, rfl, trivial⟩, ⟨gG, gG, gG, trivial⟩, ⟨om, om⟩, by show (fl ss.length (mi ss pl (inL l) (kk + 1))).length < (fl ss.length (mi ss pl (inL l) kk)).length; exact hd⟩
 refine Nk [2,3,8,10,11,12,34] rfl <| WC.cT rfl <| WC.assoc <| Rg 7 rfl <| WO.U (oFaP rfl rfl rfl rfl rfl) rfl <| WO.U (oLdP rfl rfl gG rfl rfl) rfl ?_
 refine WO.U (oLenM rfl rfl) rfl <| WO.S (oCallF [.ro (sb (gX ss pl (fun s => mi ss pl (inL l) kk s || inL l s) (inL l))), .v (.int .i64 (ss.length : Int))] [(n + 8, { cells := sb (gX ss pl (fun s => mi ss pl (inL l) kk s || inL l s) (inL l)), sz := 40, elem := (65), st := 1 })] rfl (list_run ss.length (gX ss pl (fun s => mi ss pl (inL l) kk s || inL l s) (inL l)) hn40) (SnapB.toA (.box (ob := { cells := sb (gX ss pl (fun s => mi ss pl (inL l) kk s || inL l s) (inL l)), sz := 40, elem := (65), st := 0 }) gG (by simp [keys]) (by show (0 : Nat) ≠ 2; decide) (data_sb _) (.data (.v _) .nil))) (by intro p hp; rw [List.mem_singleton] at hp; subst hp; exact ⟨_, gG, by show (0 : Nat) ≠ 2; decide, rfl⟩)) rfl ?_
 refine Um rfl rfl <| Ua rfl rfl <| Ua rfl rfl <| Wn <| WC.rets <| after0_ret <| loopR_ret <| after0_ret ?_
 obtain ⟨e1, e2⟩ := mX_of (p := pl) hgl hn40 hk h34
 rw [e1, e2]
 exact postA (n := 0) [(q0, { cells := ((tab ss.length (mC ss pl (inL l))).map ic).flatten, sz := 1, elem := (3), st := 1 })] (.inr rfl) rfl (.data dc1 (.own ((tab ss.length (mC ss pl (inL l))).map ic) (by rw [List.length_map, tab_len]) gG (by show (0 : Nat) ≠ 2; decide) rfl (by decide) (by simp [keys]) rfl rows_ic (data_of dic1) .nil)) (by intro p hp; rw [List.mem_singleton] at hp; subst hp; exact ⟨_, gG, by show (0 : Nat) ≠ 2; decide, rfl⟩)
end Go.Proofs.YthpnlndhebcngaaGreat
set_option linter.unusedVariables false
set_option linter.unusedSimpArgs false
set_option maxRecDepth 100000
set_option maxHeartbeats 16000000
namespace Go.Proofs.YthpnlndhebcngaaGreat
open Go.Ab Go.RowKit
theorem shun_run (k kl : Nat) (ss : List Go.Ab.ST) (l : List Int) (pl : Int) (hp : pl = 0 ∨ pl = 1) (hV : VM1 ss) (hS : VSet ss.length l = true) (ll : l.length < 1099511627776) : Run Tryz.prog T E0 (.call 37 [lvMo k ss, lvL kl l, .v (.int .i64 pl)] (.tup [lvL (kd (fl ss.length (fun s => !sX ss pl (inL l) s)).length) (fl ss.length (fun s => !sX ss pl (inL l) s)), lvG 1 ss.length (sC ss pl (inL l))])) := by
 have hn40 := hV.wt.len
 have hgl : ∀ s, inL l s = true → s < ss.length := fun s hs => inL_lt hS hs
 have hl : ∀ x, x ∈ ss → x.2.2.length < 1000000 ∧ ∀ c, c ∈ x.2.2 → c.2.2.length < 1000000 := fun x hx => ⟨by have := hV.cs x hx; omega, fun c hc => by have := hV.bs x hx c hc; omega⟩
 refine mkcall Tryz.func37 rfl rfl (Nat.le_of_ble_eq_true rfl) <| Rg 3 rfl <| WO.S (oBx rfl rfl) rfl <| Ua rfl rfl <| Ua rfl rfl <| Wn <| WC.draw (z := 12) rfl (by kernel_rfl) <| WD.U (oLdP (l := lvMo k ss) rfl rfl (by repeat (first | exact g0 | refine g1 (by decide) ?_)) rfl rfl) rfl ?_
 refine Dm rfl rfl <| WD.U (oCall rfl (sof_run kl ss.length l hn40 hS ll) dD) rfl <| Dm rfl rfl <| WD.U (cI ((1 - pl)) (oSub64 rfl rfl om) rfl) rfl <| WD.U (oCall rfl (grown_run k ss (inL l) (1 - pl) 56 (fun _ => true) hV.wt hl (fun z _ _ => anyf_run z)) (allData_of (by intro c hc; simp only [List.mem_cons, List.not_mem_nil, or_false] at hc; rcases hc with rfl | rfl | rfl | rfl; exact dc1; exact dc1; exact .v _; exact dfn d0 d0))) rfl <| Dm rfl rfl <| WD.U (oEx rfl rfl) rfl <| WD.U (oEx rfl rfl) rfl <| WD.S (oAlS rfl rfl rfl) rfl <| WD.S0 (oStS rfl rfl rfl g0 (sb_len _) rfl) <| WD.U (oAs rfl) rfl <| WD.nil (drawOk_of (by kernel_rfl)) rfl <| Ck [2,3,8] rfl <| Rg 5 rfl <| WO.U (oFaP rfl rfl rfl rfl rfl) rfl <| WO.U (oLdP rfl rfl (by repeat (first | exact g0 | refine g1 (by decide) ?_)) rfl rfl) rfl ?_
 refine WO.U (oLenM rfl rfl) rfl <| WO.S (oMk (a := ss.length) (b := ss.length) rfl rfl rfl rfl (by simp) (by simp) (by decide) om (by show 8 * ss.length ≤ _; omega) om) rfl <| Ua rfl rfl <| Wn <| WC.assoc <| Rg 4 rfl <| WO.U (oFaP rfl rfl rfl rfl rfl) rfl <| WO.U (oLdP rfl rfl gG rfl rfl) rfl ?_
 refine WO.U (oLenM rfl rfl) rfl <| Um rfl rfl <| Wn <| WC.block <| WC.loopV (α := Nat) (fun i => [(2, .v (.int .i64 pl)), (3, .ptr 0 0), (8, .ptr (0 + 3 + 9) 0), (10, .ref (0 + 3 + 12 + 3) 1 0 ss.length), (27, .sl k (ss.map stc)), (28, .v (.int .i64 (ss.length : Int))), (29, .v (.int .i64 (i : Int)))]) (fun i => [((0 + 3 + 12 + 3), { cells := ((tab ss.length ((mixf (fun _ => (0 : Int)) (sC ss pl (inL l)) i))).map ic).flatten, sz := 1, elem := (3), st := 0 }), ((0 + 3 + 9), { cells := sb ((sX ss pl (inL l))), sz := 40, elem := (65), st := 0 }), (0, { cells := [.sl k (ss.map stc)], sz := 1, elem := (24), st := 0 })]) (fun i n => i ≤ ss.length ∧ 19 ≤ n) (fun i => ss.length - i) (0) ⟨rfl, rfl, rfl, rfl, rfl, rfl, rfl, trivial⟩ ⟨g_to gG (by exact tab_repiF fun i => rfl), gG, gG, trivial⟩ ⟨Nat.zero_le _, om⟩ ?_
 rintro i n hF
 change WC _ _ _ _ _ (_ :: _) (_ :: _) n _
 obtain ⟨hi, hn⟩ := hF
 refine Rg 1 rfl <| WO.U (oLss rfl rfl) rfl <| WO.D (fun h30 => ?_) (fun h30 => ?_)
 rotate_left
 ·refine Wn <| WC.cF rfl <| WC.exits <| loopR_exit <| after_exit rfl <| Rg 8 rfl <| WO.U (oFaP rfl rfl rfl rfl rfl) rfl <| WO.U (oLdP rfl rfl gG rfl rfl) rfl ?_
  refine WO.U (oLenM rfl rfl) rfl <| WO.U (oMf rfl) rfl <| WO.S (oCallF [.v (.int .i64 (ss.length : Int)), .fn (.func 63) [] [.ro (sb (sX ss pl (inL l)))]] [((0 + 3 + 9), { cells := sb ((sX ss pl (inL l))), sz := 40, elem := (65), st := 1 })] rfl (marked_run ss.length 63 [] [.ro (sb (sX ss pl (inL l)))] (fun s => !(sX ss pl (inL l)) s) hn40 d0 (dro _) (fun s hs => shun2_run (sX ss pl (inL l)) (s : Int) om om)) (SnapB.toA (.data (.v _) (.fn .nil (.box (ob := { cells := sb ((sX ss pl (inL l))), sz := 40, elem := (65), st := 0 }) gG (by simp [keys]) (by show (0 : Nat) ≠ 2; decide) (data_sb _) .nil) .nil))) (by intro p hp; rw [List.mem_singleton] at hp; subst hp; exact ⟨_, gG, by show (0 : Nat) ≠ 2; decide, rfl⟩)) rfl ?_
  refine Um rfl rfl <| Ua rfl rfl <| Ua rfl rfl <| Nk [6,7] rfl <| WC.ret ?_
  have hin : i = ss.length := by omega
  have ec : tab ss.length (mixf (fun _ => (0 : Int)) (sC ss pl (inL l)) i) = tab ss.length (sC ss pl (inL l)) := by rw [hin]; exact tab_eq fun s hs => by unfold mixf; rw [if_pos hs]
  exact postA (n := 0) [((0 + 3 + 12 + 3), { cells := ((tab ss.length (sC ss pl (inL l))).map ic).flatten, sz := 1, elem := (3), st := 1 })] (.inr rfl) rfl (.data dc1 (.own ((tab ss.length (sC ss pl (inL l))).map ic) (by rw [List.length_map, tab_len]) (g_to gG (by rw [ec])) (by show (0 : Nat) ≠ 2; decide) rfl (by decide) (by simp [keys]) rfl rows_ic (data_of dic1) .nil)) (by intro p hp; rw [List.mem_singleton] at hp; subst hp; exact ⟨_, (g_to gG (by rw [ec])), by show (0 : Nat) ≠ 2; decide, rfl⟩)
 refine Wn <| WC.cT rfl <| WC.skips <| WC.block ?_
 have hm := getD_mem (us := ss) (i := i) om
 refine Rg 6 rfl <| Um rfl rfl <| WO.U (oIxM rfl rfl rfl rfl rfl om rfl) rfl <| WO.U (oLd (l := .agg (stc (ss.getD i default))) rfl rfl rfl) rfl <| WO.S (oAl rfl) rfl <| Ua rfl rfl <| WO.S0 (oSt (cs' := stc (ss.getD i default)) rfl rfl rfl g0 rfl rfl rfl rfl) <| Wn <| Rg 10 rfl <| Um rfl rfl <| WO.U (oIxA (j := i) rfl rfl rfl rfl om om) rfl <| WO.U (oLdB (f := (sX ss pl (inL l))) om rfl rfl rfl gG rfl (fun _ _ => rfl)) rfl ?_
 refine WO.B (fun h36 => ?_) (fun h36 => ?_)
 ·refine WO.U (oNot rfl) rfl <| Um rfl rfl <| K1 rfl rfl <| K1 rfl rfl <| K1 rfl rfl <| K1 rfl rfl <| WO.U (oPkF rfl rfl) rfl <| Nk [2,3,8,10,11,12,27,28,29,39,40,41,42,43] rfl <| WC.cF1 rfl <| WC.skip <| after_normal <| WC.reg1z (z := 2) rfl <| WO.U (cI (((i + 1 : Nat) : Int)) (oAdd64 rfl rfl om) om) rfl <| Um rfl rfl <| Wn <| loopR_normal ?_
  have ec : (mixf (fun _ => (0 : Int)) (sC ss pl (inL l)) i) = (mixf (fun _ => (0 : Int)) (sC ss pl (inL l)) (i + 1)) := (mixf_skip (f := fun _ => (0 : Int)) (f' := (sC ss pl (inL l))) (show (sC ss pl (inL l)) i = 0 from if_neg (fun h => by rw [h36] at h; cases h.1))).symm
  refine ⟨i + 1, ⟨rfl, rfl, rfl, rfl, rfl, rfl, rfl, trivial⟩, ⟨g_to gG (congrArg (fun z => Ob.mk ((tab ss.length z).map ic).flatten 1 3 0) ec), gG, gG, trivial⟩, ⟨om, om⟩, by show ss.length - (i + 1) < ss.length - i; omega⟩
 refine WO.U (oNot rfl) rfl <| Um rfl rfl <| WO.Ug rfl (oFaP rfl rfl rfl rfl rfl) rfl <| WO.Ug rfl (oLdP rfl rfl gG rfl rfl) rfl ?_
 refine WO.Ug rfl (oMv rfl) rfl <| WO.Ug rfl (oEql rfl rfl) rfl <| WO.D (fun h42 => ?_) (fun h42 => ?_)
 rotate_left
 ·refine WO.U (oPkT rfl rfl) rfl <| Nk [2,3,8,10,11,12,27,28,29,39,40,41,42,43] rfl <| WC.cF1 rfl <| WC.skip <| after_normal <| WC.reg1z (z := 2) rfl <| WO.U (cI (((i + 1 : Nat) : Int)) (oAdd64 rfl rfl om) om) rfl <| Um rfl rfl <| Wn <| loopR_normal ?_
  have ec : (mixf (fun _ => (0 : Int)) (sC ss pl (inL l)) i) = (mixf (fun _ => (0 : Int)) (sC ss pl (inL l)) (i + 1)) := (mixf_skip (f := fun _ => (0 : Int)) (f' := (sC ss pl (inL l))) (show (sC ss pl (inL l)) i = 0 from if_neg (fun h => absurd h.2 om))).symm
  refine ⟨i + 1, ⟨rfl, rfl, rfl, rfl, rfl, rfl, rfl, trivial⟩, ⟨g_to gG (congrArg (fun z => Ob.mk ((tab ss.length z).map ic).flatten 1 3 0) ec), gG, gG, trivial⟩, ⟨om, om⟩, by show ss.length - (i + 1) < ss.length - i; omega⟩
 refine WO.U (oPkT rfl rfl) rfl <| Nk [2,3,8,10,11,12,27,28,29,39,40,41,42,43] rfl <| WC.cT1 rfl <| WC.reg1z (z := 8) rfl <| Um rfl rfl <| Um rfl rfl <| WO.U (oFaP rfl rfl rfl rfl rfl) rfl <| WO.U (oLdP rfl rfl gG rfl rfl) rfl ?_
 refine WO.U (oMf rfl) rfl <| WO.U (oCallB [(0 + 3 + 9)] [.sl (ss.getD i default).2.1 ((ss.getD i default).2.2.map chc), .fn (.func 60) [] [.ro (sb (sX ss pl (inL l)))]] rfl (idx4_run (ss.getD i default).2.1 (ss.getD i default).2.2 60 [.ro (sb (sX ss pl (inL l)))] (fun c => !me c (sX ss pl (inL l))) (dro _) (by have := (hl _ hm).1; omega) (fun c hc => shun1_run c (sX ss pl (inL l)) (fun b hb => to40 hV.wt hm hc hb) (by have := (hl _ hm).2 c hc; omega))) (.data (.sl _ _ fun row hr => dchc row hr) (.fn .nil (.box (ob := { cells := sb ((sX ss pl (inL l))), sz := 40, elem := (65), st := 0 }) gG (by simp) (by show (0 : Nat) ≠ 2; decide) (data_sb _) .nil) .nil)) (.cons gG (by show (0 : Nat) ≠ 2; decide) lent0)) rfl ?_
 refine WO.U (oIxR (j := i) rfl rfl rfl rfl om om rfl) rfl <| WO.S0 (oStTi rfl rfl rfl gG om rfl) ?_
 refine Wn <| after_normal <| Ck [2,3,8,10,27,28,29,39,40,41,42] rfl <| WC.reg1z (z := 2) rfl <| WO.U (cI (((i + 1 : Nat) : Int)) (oAdd64 rfl rfl om) om) rfl <| Um rfl rfl <| Wn <| loopR_normal ?_
 have ec : (fset (mixf (fun _ => (0 : Int)) (sC ss pl (inL l)) i) i (fidx (fun c => !me c (sX ss pl (inL l))) (ss.getD i default).2.2)) = (mixf (fun _ => (0 : Int)) (sC ss pl (inL l)) (i + 1)) := by rw [mixf_set, show (sC ss pl (inL l)) i = fidx (fun c => !me c (sX ss pl (inL l))) (ss.getD i default).2.2 from if_pos ⟨h36, om⟩]
 refine ⟨i + 1, ⟨rfl, rfl, rfl, rfl, rfl, rfl, rfl, trivial⟩, ⟨g_to gG (congrArg (fun z => Ob.mk ((tab ss.length z).map ic).flatten 1 3 0) ec), gG, gG, trivial⟩, ⟨om, om⟩, by show ss.length - (i + 1) < ss.length - i; omega⟩
theorem asked_run (k kl : Nat) (ss : List Go.Ab.ST) (l : List Int) (pl : Int) (hI : ∀ s, s ∈ ss → IS s) (ll : l.length < 1099511627776) : Run Tryz.prog T E0 (.call 54 [lvMo k ss, lvL kl l, .v (.int .i64 pl)] (.v (.int .i64 (eA ss l pl)))) := by
 refine mkcall Tryz.func54 rfl rfl (Nat.le_of_ble_eq_true rfl) <| Rg 2 rfl <| WO.S (oBx rfl rfl) rfl <| Ua rfl rfl <| Wn <| WC.block <| Rg 10 rfl <| WO.U (oLdP (l := lvMo k ss) rfl rfl (by repeat (first | exact g0 | refine g1 (by decide) ?_)) rfl rfl) rfl ?_
 refine WO.U (oCall rfl (mvmodel_run k ss hI) dD) rfl <| WO.B (fun h9 => ?_) (fun h9 => ?_)
 rotate_left
 ·refine WO.U (oNot rfl) rfl <| Um rfl rfl <| K1 rfl rfl <| K1 rfl rfl <| K1 rfl rfl <| K1 rfl rfl <| WO.U (oPkT rfl rfl) rfl <| Ua rfl rfl <| Nk [2,7] rfl <| WC.cT1 rfl <| Rg 1 rfl <| Ua rfl rfl <| Wn <| WC.ret <| after_ret <| post (n := 0) (.inr rfl) rfl ?_ dD
  exact congrArg (fun z => LV.v (.int .i64 z)) (show 1 = eA ss l pl by unfold eA; rw [if_neg (fun h => by rw [h9] at h; cases h.1)])
 refine WO.U (oNot rfl) rfl <| Um rfl rfl <| WO.Ug rfl (oLdP (l := lvMo k ss) rfl rfl (by repeat (first | exact g0 | refine g1 (by decide) ?_)) rfl rfl) rfl ?_
 refine WO.Ug rfl (oMv rfl) rfl <| WO.Ug rfl (oCall rfl (mset_run k kl ss l ll) dD) rfl <| WO.B (fun h14 => ?_) (fun h14 => ?_)
 rotate_left
 ·refine WO.Ug rfl (oNot rfl) rfl <| WO.U (oPkF rfl rfl) rfl <| Ua rfl rfl <| Nk [2,7] rfl <| WC.cT1 rfl <| Rg 1 rfl <| Ua rfl rfl <| Wn <| WC.ret <| after_ret <| post (n := 0) (.inr rfl) rfl ?_ dD
  exact congrArg (fun z => LV.v (.int .i64 z)) (show 1 = eA ss l pl by unfold eA; rw [if_neg (fun h => by rw [h14] at h; cases h.2)])
 refine WO.Ug rfl (oNot rfl) rfl <| WO.U (oPkF rfl rfl) rfl <| Ua rfl rfl <| Nk [2,7] rfl <| WC.cF1 rfl <| Rg 7 rfl <| Um rfl rfl <| WO.U (oLss rfl rfl) rfl <| WO.D (fun h19 => ?_) (fun h19 => ?_)
 ·refine Um rfl rfl <| K1 rfl rfl <| K1 rfl rfl <| WO.U (oPkT rfl rfl) rfl <| Ua rfl rfl <| Wn <| WC.cT1 rfl <| Rg 1 rfl <| Ua rfl rfl <| Wn <| WC.ret <| after_ret <| post (n := 0) (.inr rfl) rfl ?_ dD
  exact congrArg (fun z => LV.v (.int .i64 z)) (show 6 = eA ss l pl by unfold eA; rw [if_pos ⟨h9, h14⟩, if_neg om])
 refine Um rfl rfl <| WO.Ug rfl (oMv rfl) rfl <| WO.Ug rfl (oGtr rfl rfl) rfl <| WO.D (fun h22 => ?_) (fun h22 => ?_)
 ·refine WO.U (oPkF rfl rfl) rfl <| Ua rfl rfl <| Wn <| WC.cT1 rfl <| Rg 1 rfl <| Ua rfl rfl <| Wn <| WC.ret <| after_ret <| post (n := 0) (.inr rfl) rfl ?_ dD
  exact congrArg (fun z => LV.v (.int .i64 z)) (show 6 = eA ss l pl by unfold eA; rw [if_pos ⟨h9, h14⟩, if_neg om])
 refine WO.U (oPkF rfl rfl) rfl <| Ua rfl rfl <| Wn <| WC.cF1 rfl <| WC.skip <| after_normal <| Rg 1 rfl <| Ua rfl rfl <| Wn <| WC.ret <| post (n := 0) (.inr rfl) rfl ?_ dD
 exact congrArg (fun z => LV.v (.int .i64 z)) (show 0 = eA ss l pl by unfold eA; rw [if_pos ⟨h9, h14⟩, if_pos om])
theorem told_run (k kl : Nat) (ss : List Go.Ab.ST) (l : List Int) (pl : Int) (f : FuncId) (a b : LV) (da : Go.Ab.Data a) (db : Go.Ab.Data b) (hI : ∀ s, s ∈ ss → IS s) (ll : l.length < 1099511627776) (hby : eA ss l pl = 0 → Run Tryz.prog T E0 (.call f [lvMo k ss, lvL kl l, .v (.int .i64 pl)] (.tup [a, b]))) : Run Tryz.prog T E0 (.call 34 [lvMo k ss, lvL kl l, .v (.int .i64 pl), .fn (.func f) [] []] (.tup (if eA ss l pl = 0 then [a, b, .v (.int .i64 0)] else [.sl 0 [], .sl 0 [], .v (.int .i64 (eA ss l pl))]))) := by
 refine mkcall Tryz.func34 rfl rfl (Nat.le_of_ble_eq_true rfl) <| Rg 4 rfl <| WO.S (oBx rfl rfl) rfl <| Ua rfl rfl <| Ua rfl rfl <| Ua rfl rfl <| Wn <| WC.assoc <| Rg 5 rfl <| WO.U (oLdP (l := lvMo k ss) rfl rfl (by repeat (first | exact g0 | refine g1 (by decide) ?_)) rfl rfl) rfl ?_
 refine Um rfl rfl <| Um rfl rfl <| WO.U (oCall rfl (asked_run k kl ss l pl hI ll) dD) rfl <| Ua rfl rfl <| Wn <| WC.assoc <| Rg 2 rfl <| Um rfl rfl <| WO.U (oNeq rfl rfl) rfl <| WO.D (fun h19 => ?_) (fun h19 => ?_)
 ·refine Nk [1,2,3,4,11,19] rfl <| WC.cT rfl <| WC.assoc <| Rg 4 rfl <| Um rfl rfl <| Ua rfl rfl <| Ua rfl rfl <| Ua rfl rfl <| Wn <| WC.rets ?_
  rw [if_neg (show ¬ eA ss l pl = 0 by omega)]
  refine post (n := 0) (.inr rfl) rfl ?_ dD
  rfl
 refine Nk [1,2,3,4,11,19] rfl <| WC.cF rfl <| WC.skips <| Rg 10 rfl <| Um rfl rfl <| WO.U (oLdP (l := lvMo k ss) rfl rfl (by repeat (first | exact g0 | refine g1 (by decide) ?_)) rfl rfl) rfl ?_
 refine Um rfl rfl <| Um rfl rfl <| WO.U (oCallVD rfl rfl (hby om) (data3 d0 (by intro c hc; simp only [List.mem_cons, List.not_mem_nil, or_false] at hc; rcases hc with rfl | rfl | rfl; exact dc1; exact dc1; exact .v _) d0)) rfl <| Um rfl rfl <| WO.U (oEx rfl rfl) rfl <| WO.U (oEx rfl rfl) rfl <| Ua rfl rfl <| Ua rfl rfl <| Nk [12,13] rfl <| Rg 5 rfl <| Um rfl rfl <| Um rfl rfl <| Ua rfl rfl <| Ua rfl rfl <| Ua rfl rfl <| Wn <| WC.ret ?_
 rw [if_pos (show eA ss l pl = 0 by omega)]
 refine post (n := 0) (.inr rfl) rfl rfl (.tup _ ?_)
 intro c hc
 simp only [List.mem_cons, List.not_mem_nil, or_false] at hc
 rcases hc with rfl | rfl | rfl
 ·exact da
 ·exact db
 ·exact .v _
theorem dnil : Go.Ab.Data (.sl 0 []) := .sl _ _ (by intro row hr; simp at hr)
theorem possible_told (k kl : Nat) (ss : List Go.Ab.ST) (l : List Int) (pl : Int) (hI : ∀ s, s ∈ ss → IS s) (ll : l.length < 1099511627776) : Run Tryz.prog T E0 (.call 34 [lvMo k ss, lvL kl l, .v (.int .i64 pl), .fn (.func 35) [] []] (.tup (if eA ss l pl = 0 then [lvL (kd (fl ss.length (gX ss pl (fun _ => true) (inL l))).length) (fl ss.length (gX ss pl (fun _ => true) (inL l))), lvG 1 ss.length (gC ss pl (fun _ => true) (inL l)), .v (.int .i64 0)] else [.sl 0 [], .sl 0 [], .v (.int .i64 (eA ss l pl))]))) :=
 told_run k kl ss l pl 35 _ _ dc1 dc1 hI ll fun h => by
  unfold eA at h
  by_cases h1 : VMo ss = true ∧ VSet ss.length l = true
  ·rw [if_pos h1] at h
   by_cases h2 : pl = 0 ∨ pl = 1
   ·exact can_run k kl ss l pl (VMo_1 h1.1) h1.2 ll
   ·rw [if_neg h2] at h; cases h
  ·rw [if_neg h1] at h; cases h
theorem mpossible_run (k kl : Nat) (ss : List Go.Ab.ST) (l : List Int) (pl : Int) (hI : ∀ s, s ∈ ss → IS s) (ll : l.length < 1099511627776) : Run Tryz.prog T E0 (.call 13 [lvMo k ss, lvL kl l, .v (.int .i64 pl)] (.tup (if eA ss l pl = 0 then [lvL (kd (fl ss.length (gX ss pl (fun _ => true) (inL l))).length) (fl ss.length (gX ss pl (fun _ => true) (inL l))), lvG 1 ss.length (gC ss pl (fun _ => true) (inL l)), .v (.int .i64 0)] else [.sl 0 [], .sl 0 [], .v (.int .i64 (eA ss l pl))]))) := by
 refine mkcall Tryz.func13 rfl rfl (Nat.le_of_ble_eq_true rfl) <| Rg 4 rfl <| WO.S (oBx rfl rfl) rfl <| Ua rfl rfl <| Ua rfl rfl <| Ua rfl rfl <| Wn <| Rg 10 rfl <| WO.U (oLdP (l := lvMo k ss) rfl rfl (by repeat (first | exact g0 | refine g1 (by decide) ?_)) rfl rfl) rfl ?_
 refine Um rfl rfl <| Um rfl rfl <| WO.U (OP.cast (b := .tup [(if eA ss l pl = 0 then lvL (kd (fl ss.length (gX ss pl (fun _ => true) (inL l))).length) (fl ss.length (gX ss pl (fun _ => true) (inL l))) else .sl 0 []), (if eA ss l pl = 0 then lvG 1 ss.length (gC ss pl (fun _ => true) (inL l)) else .sl 0 []), .v (.int .i64 (eA ss l pl))]) (oCall rfl (possible_told k kl ss l pl hI ll) (allData_of (by intro c hc; simp only [List.mem_cons, List.not_mem_nil, or_false] at hc; rcases hc with rfl | rfl | rfl | rfl; exact dc1; exact dc1; exact .v _; exact dfn d0 d0))) (by by_cases h : eA ss l pl = 0 <;> simp [h])) rfl <| WO.U (oEx rfl rfl) rfl <| WO.U (oEx rfl rfl) rfl <| WO.U (oEx rfl rfl) rfl <| Ua rfl rfl <| Ua rfl rfl <| Ua rfl rfl <| Wn <| WC.ret ?_
 rw [show (if eA ss l pl = 0 then [lvL (kd (fl ss.length (gX ss pl (fun _ => true) (inL l))).length) (fl ss.length (gX ss pl (fun _ => true) (inL l))), lvG 1 ss.length (gC ss pl (fun _ => true) (inL l)), .v (.int .i64 0)] else [.sl 0 [], .sl 0 [], .v (.int .i64 (eA ss l pl))]) = [(if eA ss l pl = 0 then lvL (kd (fl ss.length (gX ss pl (fun _ => true) (inL l))).length) (fl ss.length (gX ss pl (fun _ => true) (inL l))) else .sl 0 []), (if eA ss l pl = 0 then lvG 1 ss.length (gC ss pl (fun _ => true) (inL l)) else .sl 0 []), .v (.int .i64 (eA ss l pl))] by by_cases h : eA ss l pl = 0 <;> simp [h]]
 refine post (n := 0) (.inr rfl) rfl rfl (.tup _ ?_)
 intro c hc
 simp only [List.mem_cons, List.not_mem_nil, or_false] at hc
 rcases hc with rfl | rfl | rfl
 ·by_cases h : eA ss l pl = 0
  ·rw [if_pos h]; exact dc1
  ·rw [if_neg h]; exact dnil
 ·by_cases h : eA ss l pl = 0
  ·rw [if_pos h]; exact dc1
  ·rw [if_neg h]; exact dnil
 ·exact .v _
theorem sure_told (k kl : Nat) (ss : List Go.Ab.ST) (l : List Int) (pl : Int) (hI : ∀ s, s ∈ ss → IS s) (ll : l.length < 1099511627776) : Run Tryz.prog T E0 (.call 34 [lvMo k ss, lvL kl l, .v (.int .i64 pl), .fn (.func 36) [] []] (.tup (if eA ss l pl = 0 then [lvL (kd (fl ss.length (mX ss pl (inL l))).length) (fl ss.length (mX ss pl (inL l))), lvG 1 ss.length (mC ss pl (inL l)), .v (.int .i64 0)] else [.sl 0 [], .sl 0 [], .v (.int .i64 (eA ss l pl))]))) :=
 told_run k kl ss l pl 36 _ _ dc1 dc1 hI ll fun h => by
  unfold eA at h
  by_cases h1 : VMo ss = true ∧ VSet ss.length l = true
  ·rw [if_pos h1] at h
   by_cases h2 : pl = 0 ∨ pl = 1
   ·exact must_run k kl ss l pl (VMo_1 h1.1) h1.2 ll
   ·rw [if_neg h2] at h; cases h
  ·rw [if_neg h1] at h; cases h
theorem msure_run (k kl : Nat) (ss : List Go.Ab.ST) (l : List Int) (pl : Int) (hI : ∀ s, s ∈ ss → IS s) (ll : l.length < 1099511627776) : Run Tryz.prog T E0 (.call 14 [lvMo k ss, lvL kl l, .v (.int .i64 pl)] (.tup (if eA ss l pl = 0 then [lvL (kd (fl ss.length (mX ss pl (inL l))).length) (fl ss.length (mX ss pl (inL l))), lvG 1 ss.length (mC ss pl (inL l)), .v (.int .i64 0)] else [.sl 0 [], .sl 0 [], .v (.int .i64 (eA ss l pl))]))) := by
 refine mkcall Tryz.func14 rfl rfl (Nat.le_of_ble_eq_true rfl) <| Rg 4 rfl <| WO.S (oBx rfl rfl) rfl <| Ua rfl rfl <| Ua rfl rfl <| Ua rfl rfl <| Wn <| Rg 10 rfl <| WO.U (oLdP (l := lvMo k ss) rfl rfl (by repeat (first | exact g0 | refine g1 (by decide) ?_)) rfl rfl) rfl ?_
 refine Um rfl rfl <| Um rfl rfl <| WO.U (OP.cast (b := .tup [(if eA ss l pl = 0 then lvL (kd (fl ss.length (mX ss pl (inL l))).length) (fl ss.length (mX ss pl (inL l))) else .sl 0 []), (if eA ss l pl = 0 then lvG 1 ss.length (mC ss pl (inL l)) else .sl 0 []), .v (.int .i64 (eA ss l pl))]) (oCall rfl (sure_told k kl ss l pl hI ll) (allData_of (by intro c hc; simp only [List.mem_cons, List.not_mem_nil, or_false] at hc; rcases hc with rfl | rfl | rfl | rfl; exact dc1; exact dc1; exact .v _; exact dfn d0 d0))) (by by_cases h : eA ss l pl = 0 <;> simp [h])) rfl <| WO.U (oEx rfl rfl) rfl <| WO.U (oEx rfl rfl) rfl <| WO.U (oEx rfl rfl) rfl <| Ua rfl rfl <| Ua rfl rfl <| Ua rfl rfl <| Wn <| WC.ret ?_
 rw [show (if eA ss l pl = 0 then [lvL (kd (fl ss.length (mX ss pl (inL l))).length) (fl ss.length (mX ss pl (inL l))), lvG 1 ss.length (mC ss pl (inL l)), .v (.int .i64 0)] else [.sl 0 [], .sl 0 [], .v (.int .i64 (eA ss l pl))]) = [(if eA ss l pl = 0 then lvL (kd (fl ss.length (mX ss pl (inL l))).length) (fl ss.length (mX ss pl (inL l))) else .sl 0 []), (if eA ss l pl = 0 then lvG 1 ss.length (mC ss pl (inL l)) else .sl 0 []), .v (.int .i64 (eA ss l pl))] by by_cases h : eA ss l pl = 0 <;> simp [h]]
 refine post (n := 0) (.inr rfl) rfl rfl (.tup _ ?_)
 intro c hc
 simp only [List.mem_cons, List.not_mem_nil, or_false] at hc
 rcases hc with rfl | rfl | rfl
 ·by_cases h : eA ss l pl = 0
  ·rw [if_pos h]; exact dc1
  ·rw [if_neg h]; exact dnil
 ·by_cases h : eA ss l pl = 0
  ·rw [if_pos h]; exact dc1
  ·rw [if_neg h]; exact dnil
 ·exact .v _
theorem avoid_told (k kl : Nat) (ss : List Go.Ab.ST) (l : List Int) (pl : Int) (hI : ∀ s, s ∈ ss → IS s) (ll : l.length < 1099511627776) : Run Tryz.prog T E0 (.call 34 [lvMo k ss, lvL kl l, .v (.int .i64 pl), .fn (.func 37) [] []] (.tup (if eA ss l pl = 0 then [lvL (kd (fl ss.length (fun s => !sX ss pl (inL l) s)).length) (fl ss.length (fun s => !sX ss pl (inL l) s)), lvG 1 ss.length (sC ss pl (inL l)), .v (.int .i64 0)] else [.sl 0 [], .sl 0 [], .v (.int .i64 (eA ss l pl))]))) :=
 told_run k kl ss l pl 37 _ _ dc1 dc1 hI ll fun h => by
  unfold eA at h
  by_cases h1 : VMo ss = true ∧ VSet ss.length l = true
  ·rw [if_pos h1] at h
   by_cases h2 : pl = 0 ∨ pl = 1
   ·exact shun_run k kl ss l pl h2 (VMo_1 h1.1) h1.2 ll
   ·rw [if_neg h2] at h; cases h
  ·rw [if_neg h1] at h; cases h
theorem mavoid_run (k kl : Nat) (ss : List Go.Ab.ST) (l : List Int) (pl : Int) (hI : ∀ s, s ∈ ss → IS s) (ll : l.length < 1099511627776) : Run Tryz.prog T E0 (.call 15 [lvMo k ss, lvL kl l, .v (.int .i64 pl)] (.tup (if eA ss l pl = 0 then [lvL (kd (fl ss.length (fun s => !sX ss pl (inL l) s)).length) (fl ss.length (fun s => !sX ss pl (inL l) s)), lvG 1 ss.length (sC ss pl (inL l)), .v (.int .i64 0)] else [.sl 0 [], .sl 0 [], .v (.int .i64 (eA ss l pl))]))) := by
 refine mkcall Tryz.func15 rfl rfl (Nat.le_of_ble_eq_true rfl) <| Rg 4 rfl <| WO.S (oBx rfl rfl) rfl <| Ua rfl rfl <| Ua rfl rfl <| Ua rfl rfl <| Wn <| Rg 10 rfl <| WO.U (oLdP (l := lvMo k ss) rfl rfl (by repeat (first | exact g0 | refine g1 (by decide) ?_)) rfl rfl) rfl ?_
 refine Um rfl rfl <| Um rfl rfl <| WO.U (OP.cast (b := .tup [(if eA ss l pl = 0 then lvL (kd (fl ss.length (fun s => !sX ss pl (inL l) s)).length) (fl ss.length (fun s => !sX ss pl (inL l) s)) else .sl 0 []), (if eA ss l pl = 0 then lvG 1 ss.length (sC ss pl (inL l)) else .sl 0 []), .v (.int .i64 (eA ss l pl))]) (oCall rfl (avoid_told k kl ss l pl hI ll) (allData_of (by intro c hc; simp only [List.mem_cons, List.not_mem_nil, or_false] at hc; rcases hc with rfl | rfl | rfl | rfl; exact dc1; exact dc1; exact .v _; exact dfn d0 d0))) (by by_cases h : eA ss l pl = 0 <;> simp [h])) rfl <| WO.U (oEx rfl rfl) rfl <| WO.U (oEx rfl rfl) rfl <| WO.U (oEx rfl rfl) rfl <| Ua rfl rfl <| Ua rfl rfl <| Ua rfl rfl <| Wn <| WC.ret ?_
 rw [show (if eA ss l pl = 0 then [lvL (kd (fl ss.length (fun s => !sX ss pl (inL l) s)).length) (fl ss.length (fun s => !sX ss pl (inL l) s)), lvG 1 ss.length (sC ss pl (inL l)), .v (.int .i64 0)] else [.sl 0 [], .sl 0 [], .v (.int .i64 (eA ss l pl))]) = [(if eA ss l pl = 0 then lvL (kd (fl ss.length (fun s => !sX ss pl (inL l) s)).length) (fl ss.length (fun s => !sX ss pl (inL l) s)) else .sl 0 []), (if eA ss l pl = 0 then lvG 1 ss.length (sC ss pl (inL l)) else .sl 0 []), .v (.int .i64 (eA ss l pl))] by by_cases h : eA ss l pl = 0 <;> simp [h]]
 refine post (n := 0) (.inr rfl) rfl rfl (.tup _ ?_)
 intro c hc
 simp only [List.mem_cons, List.not_mem_nil, or_false] at hc
 rcases hc with rfl | rfl | rfl
 ·by_cases h : eA ss l pl = 0
  ·rw [if_pos h]; exact dc1
  ·rw [if_neg h]; exact dnil
 ·by_cases h : eA ss l pl = 0
  ·rw [if_pos h]; exact dc1
  ·rw [if_neg h]; exact dnil
 ·exact .v _
end Go.Proofs.YthpnlndhebcngaaGreat
set_option linter.unusedVariables false
set_option linter.unusedSimpArgs false
set_option maxRecDepth 100000
set_option maxHeartbeats 16000000
namespace Go.Proofs.YthpnlndhebcngaaGreat
open Go.Ab Go.RowKit
theorem q5asked_run (k kl : Nat) (ss : List Go.Ab.ST) (l : List Int) (hI : ∀ s, s ∈ ss → IS s) (ll : l.length < 1099511627776) : Run Tryz.prog T E0 (.call 29 [lvMo k ss, lvL kl l] (.v (.int .i64 (v5 ss l)))) := by
 refine mkcall Tryz.func29 rfl rfl (Nat.le_of_ble_eq_true rfl) <| Rg 2 rfl <| WO.S (oBx rfl rfl) rfl <| Ua rfl rfl <| Wn <| WC.assoc <| Rg 9 rfl <| WO.U (oLdP (l := lvMo k ss) rfl rfl (by repeat (first | exact g0 | refine g1 (by decide) ?_)) rfl rfl) rfl ?_
 refine WO.U (oCall rfl (qvmodel_run k ss hI) dD) rfl <| WO.B (fun h6 => ?_) (fun h6 => ?_)
 rotate_left
 ·refine WO.U (oNot rfl) rfl <| Um rfl rfl <| K1 rfl rfl <| K1 rfl rfl <| K1 rfl rfl <| K1 rfl rfl <| WO.U (oPkT rfl rfl) rfl <| Wn <| WC.cT rfl <| WC.assoc <| Rg 1 rfl <| Ua rfl rfl <| Wn <| WC.rets <| post (n := 0) (.inr rfl) rfl ?_ dD
  exact congrArg (fun z => LV.v (.int .i64 z)) (show 1 = v5 ss l by unfold v5; rw [if_neg (fun h => by rw [h6] at h; cases h.1)])
 refine WO.U (oNot rfl) rfl <| Um rfl rfl <| WO.Ug rfl (oLdP (l := lvMo k ss) rfl rfl (by repeat (first | exact g0 | refine g1 (by decide) ?_)) rfl rfl) rfl ?_
 refine WO.Ug rfl (oMv rfl) rfl <| WO.Ug rfl (oCall rfl (qset_run k kl ss l ll) dD) rfl <| WO.B (fun h11 => ?_) (fun h11 => ?_)
 ·refine WO.Ug rfl (oNot rfl) rfl <| WO.U (oPkF rfl rfl) rfl <| Wn <| WC.cF rfl <| WC.skips <| Rg 1 rfl <| Ua rfl rfl <| Wn <| WC.ret <| post (n := 0) (.inr rfl) rfl ?_ dD
  exact congrArg (fun z => LV.v (.int .i64 z)) (show 0 = v5 ss l by unfold v5; rw [if_pos ⟨h6, h11⟩])
 refine WO.Ug rfl (oNot rfl) rfl <| WO.U (oPkF rfl rfl) rfl <| Wn <| WC.cT rfl <| WC.assoc <| Rg 1 rfl <| Ua rfl rfl <| Wn <| WC.rets <| post (n := 0) (.inr rfl) rfl ?_ dD
 exact congrArg (fun z => LV.v (.int .i64 z)) (show 1 = v5 ss l by unfold v5; rw [if_neg (fun h => by rw [h11] at h; cases h.2)])
theorem qasked_run (k kl : Nat) (ss : List Go.Ab.ST) (l : List Int) (pl : Int) (hI : ∀ s, s ∈ ss → IS s) (ll : l.length < 1099511627776) : Run Tryz.prog T E0 (.call 8 [lvMo k ss, lvL kl l, .v (.int .i64 pl)] (.v (.int .i64 (eA ss l pl)))) := by
 refine mkcall Tryz.func8 rfl rfl (Nat.le_of_ble_eq_true rfl) <| Rg 2 rfl <| WO.S (oBx rfl rfl) rfl <| Ua rfl rfl <| Wn <| WC.block <| Rg 5 rfl <| WO.U (oLdP (l := lvMo k ss) rfl rfl (by repeat (first | exact g0 | refine g1 (by decide) ?_)) rfl rfl) rfl ?_
 refine Um rfl rfl <| WO.U (oCall rfl (q5asked_run k kl ss l hI ll) dD) rfl <| WO.U (oNeq rfl rfl) rfl <| WO.D (fun h11 => ?_) (fun h11 => ?_)
 ·refine Ua rfl rfl <| Wn <| WC.cT1 rfl <| Rg 1 rfl <| Ua rfl rfl <| Wn <| WC.ret <| after_ret <| post (n := 0) (.inr rfl) rfl ?_ dD
  exact congrArg (fun z => LV.v (.int .i64 z)) (show 1 = eA ss l pl by rw [eA_v5, if_neg om])
 refine Ua rfl rfl <| Wn <| WC.cF1 rfl <| Rg 7 rfl <| Um rfl rfl <| WO.U (oNeq rfl rfl) rfl <| WO.D (fun h14 => ?_) (fun h14 => ?_)
 rotate_left
 ·refine Um rfl rfl <| K1 rfl rfl <| K1 rfl rfl <| WO.U (oPkF rfl rfl) rfl <| Ua rfl rfl <| Nk [12] rfl <| WC.cF1 rfl <| WC.skip <| after_normal <| Rg 1 rfl <| Ua rfl rfl <| Wn <| WC.ret <| post (n := 0) (.inr rfl) rfl ?_ dD
  exact congrArg (fun z => LV.v (.int .i64 z)) (show 0 = eA ss l pl by rw [eA_v5, if_pos om, if_pos om])
 refine Um rfl rfl <| WO.Ug rfl (oMv rfl) rfl <| WO.Ug rfl (oNeq rfl rfl) rfl <| WO.D (fun h17 => ?_) (fun h17 => ?_)
 ·refine WO.U (oPkT rfl rfl) rfl <| Ua rfl rfl <| Nk [12] rfl <| WC.cT1 rfl <| Rg 1 rfl <| Ua rfl rfl <| Wn <| WC.ret <| after_ret <| post (n := 0) (.inr rfl) rfl ?_ dD
  exact congrArg (fun z => LV.v (.int .i64 z)) (show 6 = eA ss l pl by rw [eA_v5, if_pos om, if_neg om])
 refine WO.U (oPkT rfl rfl) rfl <| Ua rfl rfl <| Nk [12] rfl <| WC.cF1 rfl <| WC.skip <| after_normal <| Rg 1 rfl <| Ua rfl rfl <| Wn <| WC.ret <| post (n := 0) (.inr rfl) rfl ?_ dD
 exact congrArg (fun z => LV.v (.int .i64 z)) (show 0 = eA ss l pl by rw [eA_v5, if_pos om, if_pos om])
theorem leq_run (k k' : Nat) (l l' : List Int) (ll : l.length < 1099511627776) : Run Tryz.prog T E0 (.call 16 [lvL k l, lvL k' l'] (.v (.bool (decide (l = l'))))) := by
 refine mkcall Tryz.func16 rfl rfl (Nat.le_of_ble_eq_true rfl) <| Rg 1 rfl <| Ua rfl rfl <| Wn <| WC.assoc <| Rg 5 rfl <| Um rfl rfl <| WO.U (oLenM rfl rfl) rfl <| Um rfl rfl <| WO.U (oLenM rfl rfl) rfl <| WO.U (oNeq rfl rfl) rfl <| WO.D (fun h10 => ?_) (fun h10 => ?_)
 ·refine Wn <| WC.cT rfl <| WC.assoc <| Rg 1 rfl <| Ua rfl rfl <| Wn <| WC.rets <| post (n := 0) (.inr rfl) rfl ?_ dD
  exact congrArg (fun z => LV.v (.bool z)) (show false = decide (l = l') from (decide_eq_false fun h => h10 (by rw [h])).symm)
 refine Wn <| WC.cF rfl <| WC.skips <| WC.assoc <| Rg 3 rfl <| Um rfl rfl <| WO.U (oLenM rfl rfl) rfl <| Um rfl rfl <| Wn <| WC.block <| WC.loopV (α := Nat) (fun i => [(0, lvL k l), (1, lvL k' l'), (12, .v (.int .i64 (l.length : Int))), (13, .v (.int .i64 (i : Int)))]) (fun i => []) (fun i n => i ≤ l.length ∧ l.take i = l'.take i) (fun i => l.length - i) (0) ⟨rfl, rfl, rfl, rfl, trivial⟩ trivial ⟨Nat.zero_le _, by simp⟩ ?_
 rintro i n hF
 change WC _ _ _ _ _ (_ :: _) ([]) n _
 obtain ⟨hi, ha⟩ := hF
 refine Rg 1 rfl <| WO.U (oLss rfl rfl) rfl <| WO.D (fun h14 => ?_) (fun h14 => ?_)
 rotate_left
 ·refine Wn <| WC.cF rfl <| WC.exits <| loopR_exit <| after_exit rfl <| Rg 1 rfl <| Ua rfl rfl <| Wn <| WC.ret <| post (n := 0) (.inr rfl) rfl ?_ dD
  exact congrArg (fun z => LV.v (.bool z)) (show true = decide (l = l') from (decide_eq_true (by rw [List.take_of_length_le om, List.take_of_length_le om] at ha; exact ha)).symm)
 refine Wn <| WC.cT rfl <| WC.skips <| WC.block <| Rg 2 rfl <| Um rfl rfl <| Ua rfl rfl <| Wn <| WC.draw (z := 9) rfl (by kernel_rfl) <| Dm rfl rfl <| Dm rfl rfl <| WD.U (oIxM (j := i) rfl rfl rfl rfl om om rfl) rfl <| WD.U (oLd rfl rfl rfl) rfl <| Dm rfl rfl <| Dm rfl rfl <| WD.U (oIxM (j := i) rfl rfl rfl rfl om om rfl) rfl <| WD.U (oLd rfl rfl rfl) rfl <| WD.U (oNeq rfl rfl) rfl <| WD.D (fun h24 => ?_) (fun h24 => ?_)
 rotate_left
 ·refine WD.nil (drawOk_of (by kernel_rfl)) rfl <| Ck [0,1,12,13,24] rfl <| WC.cF1 rfl <| WC.skip <| after_normal <| WC.reg1z (z := 2) rfl <| WO.U (cI (((i + 1 : Nat) : Int)) (oAdd64 rfl rfl om) om) rfl <| Um rfl rfl <| Wn <| loopR_normal <| ⟨i + 1, ⟨rfl, rfl, rfl, rfl, trivial⟩, trivial, ⟨om, eqL_take ha om om om⟩, by show l.length - (i + 1) < l.length - i; omega⟩
 refine WD.nil (drawOk_of (by kernel_rfl)) rfl <| Ck [0,1,12,13,24] rfl <| WC.cT1 rfl <| Rg 1 rfl <| Ua rfl rfl <| Wn <| WC.ret <| after_ret <| loopR_ret <| after_ret <| post (n := 0) (.inr rfl) rfl ?_ dD
 exact congrArg (fun z => LV.v (.bool z)) (show false = decide (l = l') from (decide_eq_false (eqL_no (i := i) om om om)).symm)
end Go.Proofs.YthpnlndhebcngaaGreat
set_option linter.unusedVariables false
set_option linter.unusedSimpArgs false
set_option maxRecDepth 100000
set_option maxHeartbeats 16000000
namespace Go.Proofs.YthpnlndhebcngaaGreat
open Go.Ab Go.RowKit
theorem qfew_run (k : Nat) (ss : List Go.Ab.ST) : Run Tryz.prog T E0 (.call 27 [.v (.int .i64 40), lvMo k ss] (.v (.bool (fewM ss)))) := by
 refine mkcall Tryz.func27 rfl rfl (Nat.le_of_ble_eq_true rfl) <| Rg 2 rfl <| WO.S (oBx rfl rfl) rfl <| Ua rfl rfl <| Wn <| WC.assoc <| Rg 17 rfl <| WO.U (oFaP rfl rfl rfl rfl rfl) rfl <| WO.U (oLdP rfl rfl (by repeat (first | exact g0 | refine g1 (by decide) ?_)) rfl rfl) rfl ?_
 refine WO.U (oLenM rfl rfl) rfl <| Um rfl rfl <| WO.U (oGtr rfl rfl) rfl <| WO.D (fun h13 => ?_) (fun h13 => ?_)
 rotate_left
 ·refine Um rfl rfl <| K1 rfl rfl <| K1 rfl rfl <| K1 rfl rfl <| K1 rfl rfl <| WO.U (oPkF rfl rfl) rfl <| Um rfl rfl <| WO.Ug rfl (oFaP rfl rfl rfl rfl rfl) rfl <| WO.Ug rfl (oLdP rfl rfl (by repeat (first | exact g0 | refine g1 (by decide) ?_)) rfl rfl) rfl ?_
  refine WO.Ug rfl (oLenM rfl rfl) rfl <| WO.Ug rfl (oGtr rfl rfl) rfl <| WO.D (fun h24 => ?_) (fun h24 => ?_)
  ·refine WO.U (oPkF rfl rfl) rfl <| Nk [3,25] rfl <| WC.cT rfl <| WC.assoc <| Rg 1 rfl <| Ua rfl rfl <| Wn <| WC.rets <| post (n := 0) (.inr rfl) rfl ?_ dD
   exact congrArg (fun z => LV.v (.bool z)) (show false = fewM ss by unfold fewM; rw [decide_eq_false om]; rfl)
  refine WO.U (oPkF rfl rfl) rfl <| Nk [3,25] rfl <| WC.cF rfl <| WC.skips <| WC.assoc <| Rg 4 rfl <| WO.U (oFaP rfl rfl rfl rfl rfl) rfl <| WO.U (oLdP rfl rfl (by repeat (first | exact g0 | refine g1 (by decide) ?_)) rfl rfl) rfl ?_
  refine WO.U (oLenM rfl rfl) rfl <| Um rfl rfl <| Wn <| WC.block <| WC.loopV (α := Nat) (fun i => [(27, .sl k (ss.map stc)), (28, .v (.int .i64 (ss.length : Int))), (29, .v (.int .i64 (i : Int)))]) (fun i => []) (fun i n => i ≤ ss.length ∧ (ss.take i).all fewS = true) (fun i => ss.length - i) (0) ⟨rfl, rfl, rfl, trivial⟩ trivial ⟨Nat.zero_le _, by simp⟩ ?_
  rintro i n hF
  change WC _ _ _ _ _ (_ :: _) ([]) n _
  obtain ⟨hi, ha⟩ := hF
  refine Rg 1 rfl <| WO.U (oLss rfl rfl) rfl <| WO.D (fun h30 => ?_) (fun h30 => ?_)
  rotate_left
  ·refine Wn <| WC.cF rfl <| WC.exits <| loopR_exit <| after_exit rfl <| Rg 1 rfl <| Ua rfl rfl <| Wn <| WC.ret <| post (n := 0) (.inr rfl) rfl ?_ dD
   exact congrArg (fun z => LV.v (.bool z)) (show true = fewM ss by unfold fewM; rw [decide_eq_true om, all_yes ha om]; rfl)
  refine Wn <| WC.cT rfl <| WC.skips <| WC.block <| Rg 4 rfl <| WO.U (oIxM rfl rfl rfl rfl rfl om rfl) rfl <| WO.U (oLd (l := .agg (stc (ss.getD i default))) rfl rfl rfl) rfl <| WO.S (oAl rfl) rfl <| WO.S0 (oSt (cs' := stc (ss.getD i default)) rfl rfl rfl g0 rfl rfl rfl rfl) <| Wn <| WC.assoc <| Rg 4 rfl <| WO.U (oFaP rfl rfl rfl rfl rfl) rfl <| WO.U (oLdP rfl rfl gG rfl rfl) rfl ?_
  refine WO.U (oLenM rfl rfl) rfl <| WO.U (oGtr rfl rfl) rfl <| WO.D (fun h36 => ?_) (fun h36 => ?_)
  ·refine Wn <| WC.cT rfl <| WC.assoc <| Rg 1 rfl <| Ua rfl rfl <| Wn <| WC.rets <| after_ret <| loopR_ret <| after_ret <| post (n := 0) (.inr rfl) rfl ?_ dD
   exact congrArg (fun z => LV.v (.bool z)) (show false = fewM ss from (fewM_no (i := i) om (fewS_no1 om)).symm)
  refine Wn <| WC.cF rfl <| WC.skips <| Rg 4 rfl <| WO.U (oFaP rfl rfl rfl rfl rfl) rfl <| WO.U (oLdP rfl rfl gG rfl rfl) rfl ?_
  refine WO.U (oLenM rfl rfl) rfl <| Um rfl rfl <| Nk [27,28,29,38,39,40] rfl <| WC.block1 <| WC.loopV (α := Nat) (fun j => [(27, .sl k (ss.map stc)), (28, .v (.int .i64 (ss.length : Int))), (29, .v (.int .i64 (i : Int))), (38, .sl (ss.getD i default).2.1 ((ss.getD i default).2.2.map chc)), (39, .v (.int .i64 ((ss.getD i default).2.2.length : Int))), (40, .v (.int .i64 (j : Int)))]) (fun j => []) (fun j n => j ≤ (ss.getD i default).2.2.length ∧ ((ss.getD i default).2.2.take j).all fewC = true) (fun j => (ss.getD i default).2.2.length - j) (0) ⟨rfl, rfl, rfl, rfl, rfl, rfl, trivial⟩ trivial ⟨Nat.zero_le _, by simp⟩ ?_
  rintro j n hF
  change WC _ _ _ _ _ (_ :: _) ([]) n _
  obtain ⟨hj, hb⟩ := hF
  refine Rg 1 rfl <| WO.U (oLss rfl rfl) rfl <| WO.D (fun h41 => ?_) (fun h41 => ?_)
  rotate_left
  ·refine Wn <| WC.cF rfl <| WC.exits <| loopR_exit <| after0_exit rfl <| after_normal <| WC.reg1z (z := 2) rfl <| WO.U (cI (((i + 1 : Nat) : Int)) (oAdd64 rfl rfl om) om) rfl <| Um rfl rfl <| Wn <| loopR_normal <| ⟨i + 1, ⟨rfl, rfl, rfl, trivial⟩, trivial, ⟨om, take_all ha om (by unfold fewS; rw [decide_eq_true om, all_yes hb om]; rfl)⟩, by show ss.length - (i + 1) < ss.length - i; omega⟩
  refine Wn <| WC.cT rfl <| WC.skips <| WC.block <| Rg 4 rfl <| WO.U (oIxM rfl rfl rfl rfl rfl om rfl) rfl <| WO.U (oLd (l := lvC ((ss.getD i default).2.2.getD j default)) rfl rfl rfl) rfl <| WO.S (oAl rfl) rfl <| WO.S0 (oSt (cs' := chc ((ss.getD i default).2.2.getD j default)) rfl rfl rfl g0 rfl rfl rfl rfl) <| Wn <| Rg 4 rfl <| WO.U (oFaP rfl rfl rfl rfl rfl) rfl <| WO.U (oLdP rfl rfl gG rfl rfl) rfl ?_
  refine WO.U (oLenM rfl rfl) rfl <| WO.U (oGtr rfl rfl) rfl <| WO.D (fun h47 => ?_) (fun h47 => ?_)
  rotate_left
  ·refine Wn <| WC.cF1 rfl <| WC.skip <| after_normal <| WC.reg1z (z := 2) rfl <| WO.U (cI (((j + 1 : Nat) : Int)) (oAdd64 rfl rfl om) om) rfl <| Um rfl rfl <| Wn <| loopR_normal <| ⟨j + 1, ⟨rfl, rfl, rfl, rfl, rfl, rfl, trivial⟩, trivial, ⟨om, take_all hb om (decide_eq_true om)⟩, by show (ss.getD i default).2.2.length - (j + 1) < (ss.getD i default).2.2.length - j; omega⟩
  refine Wn <| WC.cT1 rfl <| Rg 1 rfl <| Ua rfl rfl <| Nk [4] rfl <| WC.ret <| after_ret <| loopR_ret <| after0_ret <| after_ret <| loopR_ret <| after_ret <| post (n := 0) (.inr rfl) rfl ?_ dD
  exact congrArg (fun z => LV.v (.bool z)) (show false = fewM ss from (fewM_no (i := i) om (fewS_no2 (j := j) om om)).symm)
 refine Um rfl rfl <| WO.Ug rfl (oFaP rfl rfl rfl rfl rfl) rfl <| WO.Ug rfl (oLdP rfl rfl (by repeat (first | exact g0 | refine g1 (by decide) ?_)) rfl rfl) rfl ?_
 refine WO.Ug rfl (oLenM rfl rfl) rfl <| WO.Ug rfl (oLeq rfl rfl) rfl <| WO.D (fun h18 => ?_) (fun h18 => ?_)
 ·exact absurd h18 om
 refine WO.U (oPkT rfl rfl) rfl <| Um rfl rfl <| WO.Ug rfl (oFaP rfl rfl rfl rfl rfl) rfl <| WO.Ug rfl (oLdP rfl rfl (by repeat (first | exact g0 | refine g1 (by decide) ?_)) rfl rfl) rfl ?_
 refine WO.Ug rfl (oLenM rfl rfl) rfl <| WO.Ug rfl (oGtr rfl rfl) rfl <| WO.D (fun h24 => ?_) (fun h24 => ?_)
 ·refine WO.U (oPkF rfl rfl) rfl <| Nk [3,25] rfl <| WC.cT rfl <| WC.assoc <| Rg 1 rfl <| Ua rfl rfl <| Wn <| WC.rets <| post (n := 0) (.inr rfl) rfl ?_ dD
  exact congrArg (fun z => LV.v (.bool z)) (show false = fewM ss by unfold fewM; rw [decide_eq_false om]; rfl)
 refine WO.U (oPkF rfl rfl) rfl <| Nk [3,25] rfl <| WC.cF rfl <| WC.skips <| WC.assoc <| Rg 4 rfl <| WO.U (oFaP rfl rfl rfl rfl rfl) rfl <| WO.U (oLdP rfl rfl (by repeat (first | exact g0 | refine g1 (by decide) ?_)) rfl rfl) rfl ?_
 refine WO.U (oLenM rfl rfl) rfl <| Um rfl rfl <| Wn <| WC.block <| WC.loopV (α := Nat) (fun i => [(27, .sl k (ss.map stc)), (28, .v (.int .i64 (ss.length : Int))), (29, .v (.int .i64 (i : Int)))]) (fun i => []) (fun i n => i ≤ ss.length ∧ (ss.take i).all fewS = true) (fun i => ss.length - i) (0) ⟨rfl, rfl, rfl, trivial⟩ trivial ⟨Nat.zero_le _, by simp⟩ ?_
 rintro i n hF
 change WC _ _ _ _ _ (_ :: _) ([]) n _
 obtain ⟨hi, ha⟩ := hF
 refine Rg 1 rfl <| WO.U (oLss rfl rfl) rfl <| WO.D (fun h30 => ?_) (fun h30 => ?_)
 rotate_left
 ·refine Wn <| WC.cF rfl <| WC.exits <| loopR_exit <| after_exit rfl <| Rg 1 rfl <| Ua rfl rfl <| Wn <| WC.ret <| post (n := 0) (.inr rfl) rfl ?_ dD
  exact congrArg (fun z => LV.v (.bool z)) (show true = fewM ss by unfold fewM; rw [decide_eq_true om, all_yes ha om]; rfl)
 refine Wn <| WC.cT rfl <| WC.skips <| WC.block <| Rg 4 rfl <| WO.U (oIxM rfl rfl rfl rfl rfl om rfl) rfl <| WO.U (oLd (l := .agg (stc (ss.getD i default))) rfl rfl rfl) rfl <| WO.S (oAl rfl) rfl <| WO.S0 (oSt (cs' := stc (ss.getD i default)) rfl rfl rfl g0 rfl rfl rfl rfl) <| Wn <| WC.assoc <| Rg 4 rfl <| WO.U (oFaP rfl rfl rfl rfl rfl) rfl <| WO.U (oLdP rfl rfl gG rfl rfl) rfl ?_
 refine WO.U (oLenM rfl rfl) rfl <| WO.U (oGtr rfl rfl) rfl <| WO.D (fun h36 => ?_) (fun h36 => ?_)
 ·refine Wn <| WC.cT rfl <| WC.assoc <| Rg 1 rfl <| Ua rfl rfl <| Wn <| WC.rets <| after_ret <| loopR_ret <| after_ret <| post (n := 0) (.inr rfl) rfl ?_ dD
  exact congrArg (fun z => LV.v (.bool z)) (show false = fewM ss from (fewM_no (i := i) om (fewS_no1 om)).symm)
 refine Wn <| WC.cF rfl <| WC.skips <| Rg 4 rfl <| WO.U (oFaP rfl rfl rfl rfl rfl) rfl <| WO.U (oLdP rfl rfl gG rfl rfl) rfl ?_
 refine WO.U (oLenM rfl rfl) rfl <| Um rfl rfl <| Nk [27,28,29,38,39,40] rfl <| WC.block1 <| WC.loopV (α := Nat) (fun j => [(27, .sl k (ss.map stc)), (28, .v (.int .i64 (ss.length : Int))), (29, .v (.int .i64 (i : Int))), (38, .sl (ss.getD i default).2.1 ((ss.getD i default).2.2.map chc)), (39, .v (.int .i64 ((ss.getD i default).2.2.length : Int))), (40, .v (.int .i64 (j : Int)))]) (fun j => []) (fun j n => j ≤ (ss.getD i default).2.2.length ∧ ((ss.getD i default).2.2.take j).all fewC = true) (fun j => (ss.getD i default).2.2.length - j) (0) ⟨rfl, rfl, rfl, rfl, rfl, rfl, trivial⟩ trivial ⟨Nat.zero_le _, by simp⟩ ?_
 rintro j n hF
 change WC _ _ _ _ _ (_ :: _) ([]) n _
 obtain ⟨hj, hb⟩ := hF
 refine Rg 1 rfl <| WO.U (oLss rfl rfl) rfl <| WO.D (fun h41 => ?_) (fun h41 => ?_)
 rotate_left
 ·refine Wn <| WC.cF rfl <| WC.exits <| loopR_exit <| after0_exit rfl <| after_normal <| WC.reg1z (z := 2) rfl <| WO.U (cI (((i + 1 : Nat) : Int)) (oAdd64 rfl rfl om) om) rfl <| Um rfl rfl <| Wn <| loopR_normal <| ⟨i + 1, ⟨rfl, rfl, rfl, trivial⟩, trivial, ⟨om, take_all ha om (by unfold fewS; rw [decide_eq_true om, all_yes hb om]; rfl)⟩, by show ss.length - (i + 1) < ss.length - i; omega⟩
 refine Wn <| WC.cT rfl <| WC.skips <| WC.block <| Rg 4 rfl <| WO.U (oIxM rfl rfl rfl rfl rfl om rfl) rfl <| WO.U (oLd (l := lvC ((ss.getD i default).2.2.getD j default)) rfl rfl rfl) rfl <| WO.S (oAl rfl) rfl <| WO.S0 (oSt (cs' := chc ((ss.getD i default).2.2.getD j default)) rfl rfl rfl g0 rfl rfl rfl rfl) <| Wn <| Rg 4 rfl <| WO.U (oFaP rfl rfl rfl rfl rfl) rfl <| WO.U (oLdP rfl rfl gG rfl rfl) rfl ?_
 refine WO.U (oLenM rfl rfl) rfl <| WO.U (oGtr rfl rfl) rfl <| WO.D (fun h47 => ?_) (fun h47 => ?_)
 rotate_left
 ·refine Wn <| WC.cF1 rfl <| WC.skip <| after_normal <| WC.reg1z (z := 2) rfl <| WO.U (cI (((j + 1 : Nat) : Int)) (oAdd64 rfl rfl om) om) rfl <| Um rfl rfl <| Wn <| loopR_normal <| ⟨j + 1, ⟨rfl, rfl, rfl, rfl, rfl, rfl, trivial⟩, trivial, ⟨om, take_all hb om (decide_eq_true om)⟩, by show (ss.getD i default).2.2.length - (j + 1) < (ss.getD i default).2.2.length - j; omega⟩
 refine Wn <| WC.cT1 rfl <| Rg 1 rfl <| Ua rfl rfl <| Nk [4] rfl <| WC.ret <| after_ret <| loopR_ret <| after0_ret <| after_ret <| loopR_ret <| after_ret <| post (n := 0) (.inr rfl) rfl ?_ dD
 exact congrArg (fun z => LV.v (.bool z)) (show false = fewM ss from (fewM_no (i := i) om (fewS_no2 (j := j) om om)).symm)
theorem lfew_run (k kg : Nat) (ss : List Go.Ab.ST) (gs : List (Nat × List Int)) (hg : gs.length < 1000000) : Run Tryz.prog T E0 (.call 6 [lvMo k ss, .sl kg (gs.map gL)] (.v (.bool (fewG gs ss)))) := by
 refine mkcall Tryz.func6 rfl rfl (Nat.le_of_ble_eq_true rfl) <| Rg 2 rfl <| WO.S (oBx rfl rfl) rfl <| Ua rfl rfl <| Wn <| WC.assoc <| Rg 3 rfl <| Um rfl rfl <| WO.U (oLenM rfl rfl) rfl <| Um rfl rfl <| Wn <| WC.block <| WC.loopV (α := Nat) (fun i => [(2, .ptr 0 0), (7, .sl kg (gs.map gL)), (8, .v (.int .i64 (gs.length : Int))), (9, .v (.int .i64 (i : Int)))]) (fun i => [(0, { cells := [.sl k (ss.map stc)], sz := 1, elem := (24), st := 0 })]) (fun i n => i ≤ gs.length ∧ (gs.take i).all (fun r => decide (r.2.length ≤ 60)) = true ∧ 0 < n) (fun i => gs.length - i) (0) ⟨rfl, rfl, rfl, rfl, trivial⟩ ⟨(by repeat (first | exact g0 | refine g1 (by decide) ?_)), trivial⟩ ⟨Nat.zero_le _, by simp, om⟩ ?_
 rintro i n hF
 change WC _ _ _ _ _ (_ :: _) (_ :: _) n _
 obtain ⟨hi, ha, hn⟩ := hF
 refine Rg 1 rfl <| WO.U (oLss rfl rfl) rfl <| WO.D (fun h10 => ?_) (fun h10 => ?_)
 rotate_left
 ·refine Wn <| WC.cF rfl <| WC.exits <| loopR_exit <| after_exit rfl <| Rg 3 rfl <| WO.U (oLdP (l := lvMo k ss) rfl rfl gG rfl rfl) rfl ?_
  refine WO.U (oCall rfl (qfew_run k ss) dD) rfl <| Ua rfl rfl <| Wn <| WC.ret <| post (n := 0) (.inr rfl) rfl ?_ dD
  exact congrArg (fun z => LV.v (.bool z)) (show fewM ss = fewG gs ss by unfold fewG; rw [all_yes ha om, Bool.true_and])
 refine Wn <| WC.cT rfl <| WC.skips <| WC.block <| Rg 3 rfl <| WO.U (oIxM rfl rfl rfl rfl rfl om rfl) rfl <| WO.U (oLd rfl rfl rfl) rfl <| Ua rfl rfl <| Wn <| Rg 3 rfl <| Um rfl rfl <| WO.U (oLenM rfl rfl) rfl <| WO.U (oGtr rfl rfl) rfl <| WO.D (fun h15 => ?_) (fun h15 => ?_)
 rotate_left
 ·refine Wn <| WC.cF1 rfl <| WC.skip <| after_normal <| WC.reg1z (z := 2) rfl <| WO.U (cI (((i + 1 : Nat) : Int)) (oAdd64 rfl rfl om) om) rfl <| Um rfl rfl <| Wn <| loopR_normal <| ⟨i + 1, ⟨rfl, rfl, rfl, rfl, trivial⟩, ⟨gG, trivial⟩, ⟨om, take_all ha om (decide_eq_true om), om⟩, by show gs.length - (i + 1) < gs.length - i; omega⟩
 refine Wn <| WC.cT1 rfl <| Rg 1 rfl <| Ua rfl rfl <| Wn <| WC.ret <| after_ret <| loopR_ret <| after_ret <| post (n := 0) (.inr rfl) rfl ?_ dD
 exact congrArg (fun z => LV.v (.bool z)) (show false = fewG gs ss by unfold fewG; rw [all_no (us := gs) (p := fun r : Nat × List Int => decide (r.2.length ≤ 60)) (i := i) om (decide_eq_false om)]; rfl)
theorem lnum_run (a b : Int) : Run Tryz.prog T E0 (.call 50 [.v (.int .i64 a), .v (.int .i64 b)] (lvM (a, b))) := by
 refine mkcall Tryz.func50 rfl rfl (Nat.le_of_ble_eq_true rfl) <| Rg 1 rfl <| WO.S (oAl rfl) rfl <| Wn <| Rg 4 rfl <| Um rfl rfl <| Um rfl rfl <| WO.U (oBd (cs := [_, _]) rfl rfl rfl rfl rfl) rfl <| WO.S0 (oSt (cs' := [_, _]) rfl rfl rfl rfl rfl rfl rfl rfl) <| Wn <| WC.ret <| post (n := 0) (.inr rfl) rfl ?_ dD
 rfl
theorem ldice_run  : Run Tryz.prog T E0 (.call 28 [] (lvMo 2 dice)) := by
 refine mkcall Tryz.func28 rfl rfl (Nat.le_of_ble_eq_true rfl) <| Rg 1 rfl <| WO.S (oAl rfl) rfl <| Wn <| Rg 35 rfl <| WO.U (oCall rfl (lnum_run 0 1) dD) rfl <| WO.U (oCall rfl (lnum_run 2 3) dD) rfl <| WO.U (oBd (cs := [_, _, _]) rfl rfl rfl rfl rfl) rfl <| WO.U (oCall rfl (lnum_run 1 3) dD) rfl <| WO.U (oBd (cs := [_, _, _]) rfl rfl rfl rfl rfl) rfl <| WO.U (oBs' (cs := [_, _, _, _, _, _]) (rows := [[_, _, _], [_, _, _]]) rfl rfl (by decide) rfl rfl rfl) rfl <| WO.U (oBd (cs := [_, _, _]) rfl rfl rfl rfl rfl) rfl <| WO.U (oCall rfl (lnum_run 0 1) dD) rfl <| WO.U (oCall rfl (lnum_run 1 2) dD) rfl <| WO.U (oBd (cs := [_, _, _]) rfl rfl rfl rfl rfl) rfl <| WO.U (oCall rfl (lnum_run 1 4) dD) rfl <| WO.U (oBd (cs := [_, _, _]) rfl rfl rfl rfl rfl) rfl <| WO.U (oCall rfl (lnum_run 1 4) dD) rfl <| WO.U (oBd (cs := [_, _, _]) rfl rfl rfl rfl rfl) rfl <| WO.U (oBs' (cs := [_, _, _, _, _, _, _, _, _]) (rows := [[_, _, _], [_, _, _], [_, _, _]]) rfl rfl (by decide) rfl rfl rfl) rfl <| WO.U (oBd (cs := [_, _, _]) rfl rfl rfl rfl rfl) rfl <| WO.U (oBs' (cs := [_, _, _, _, _, _]) (rows := [[_, _, _], [_, _, _]]) rfl rfl (by decide) rfl rfl rfl) rfl <| WO.U (oBd (cs := [_, _, _]) rfl rfl rfl rfl rfl) rfl <| WO.U (oCall rfl (lnum_run 0 1) dD) rfl ?_
 refine WO.U (oCall rfl (lnum_run 1 1) dD) rfl <| WO.U (oBd (cs := [_, _, _]) rfl rfl rfl rfl rfl) rfl <| WO.U (oBs' (cs := [_, _, _]) (rows := [[_, _, _]]) rfl rfl (by decide) rfl rfl rfl) rfl <| WO.U (oBd (cs := [_, _, _]) rfl rfl rfl rfl rfl) rfl <| WO.U (oBs' (cs := [_, _, _]) (rows := [[_, _, _]]) rfl rfl (by decide) rfl rfl rfl) rfl <| WO.U (oBd (cs := [_, _, _]) rfl rfl rfl rfl rfl) rfl <| WO.U (oCall rfl (lnum_run 0 1) dD) rfl <| WO.U (oCall rfl (lnum_run 1 1) dD) rfl <| WO.U (oBd (cs := [_, _, _]) rfl rfl rfl rfl rfl) rfl <| WO.U (oBs' (cs := [_, _, _]) (rows := [[_, _, _]]) rfl rfl (by decide) rfl rfl rfl) rfl <| WO.U (oBd (cs := [_, _, _]) rfl rfl rfl rfl rfl) rfl <| WO.U (oBs' (cs := [_, _, _]) (rows := [[_, _, _]]) rfl rfl (by decide) rfl rfl rfl) rfl <| WO.U (oBd (cs := [_, _, _]) rfl rfl rfl rfl rfl) rfl <| WO.U (oBs' (cs := [_, _, _, _, _, _, _, _, _]) (rows := [[_, _, _], [_, _, _], [_, _, _]]) rfl rfl (by decide) rfl rfl rfl) rfl <| WO.U (oBd (cs := [_]) rfl rfl rfl rfl rfl) rfl <| WO.S0 (oSt (cs' := [_]) rfl rfl rfl rfl rfl rfl rfl rfl) <| Nk [0] rfl <| WC.ret <| post (n := 0) (.inr rfl) rfl ?_ dD
 rfl
theorem awake_run  : Run Tryz.prog T E0 (.call 7 [] (.v (.bool true))) := by
 refine mkcall Tryz.func7 rfl rfl (Nat.le_of_ble_eq_true rfl) <| Rg 1 rfl <| Ua rfl rfl <| Wn <| Rg 10 rfl <| WO.U (oCall rfl (ldice_run) dD) rfl <| WO.U (oBs' (cs := [_]) (rows := [[_]]) rfl rfl (by decide) rfl rfl rfl) rfl <| WO.U (OP.cast (b := .tup [lvL (kd (fl 3 (gX dice 0 (fun _ => true) (inL [2]))).length) (fl 3 (gX dice 0 (fun _ => true) (inL [2]))), lvG 1 3 (gC dice 0 (fun _ => true) (inL [2])), .v (.int .i64 0)]) (oCall rfl (mpossible_run 2 2 dice [2] 0 dice_is (by decide)) (allData_of (by intro c hc; simp only [List.mem_cons, List.not_mem_nil, or_false] at hc; rcases hc with rfl | rfl | rfl; exact dc1; exact dlvL 2 [2]; exact .v _))) (by rw [if_pos dice_e]; rfl)) rfl <| Um rfl rfl <| WO.U (oEx rfl rfl) rfl <| WO.U (oEx rfl rfl) rfl <| WO.U (oEx rfl rfl) rfl <| Ua rfl rfl <| Ua rfl rfl <| Ua rfl rfl <| Wn <| Rg 10 rfl <| WO.U (oCall rfl (ldice_run) dD) rfl <| WO.U (oBs' (cs := [_]) (rows := [[_]]) rfl rfl (by decide) rfl rfl rfl) rfl <| WO.U (OP.cast (b := .tup [lvL (kd (fl 3 (mX dice 0 (inL [2]))).length) (fl 3 (mX dice 0 (inL [2]))), lvG 1 3 (mC dice 0 (inL [2])), .v (.int .i64 0)]) (oCall rfl (msure_run 2 2 dice [2] 0 dice_is (by decide)) (allData_of (by intro c hc; simp only [List.mem_cons, List.not_mem_nil, or_false] at hc; rcases hc with rfl | rfl | rfl; exact dc1; exact dlvL 2 [2]; exact .v _))) (by rw [if_pos dice_e]; rfl)) rfl <| Um rfl rfl <| WO.U (oEx rfl rfl) rfl <| WO.U (oEx rfl rfl) rfl <| WO.U (oEx rfl rfl) rfl ?_
 refine Ua rfl rfl <| Ua rfl rfl <| Ua rfl rfl <| Nk [1,2,3,4,5,6] rfl <| Rg 27 rfl <| Um rfl rfl <| WO.U (oEql rfl rfl) rfl <| WO.D (fun h22 => ?_) (fun h22 => ?_)
 rotate_left
 ·exact absurd rfl h22
 refine Um rfl rfl <| WO.Ug rfl (oMv rfl) rfl <| WO.Ug rfl (oBs' (cs := [_, _]) (rows := [[_], [_]]) rfl rfl (by decide) rfl rfl rfl) rfl <| WO.Ug rfl (OP.cast (b := .v (.bool true)) (oCall rfl (leq_run (kd (fl 3 (gX dice 0 (fun _ => true) (inL [2]))).length) 2 (fl 3 (gX dice 0 (fun _ => true) (inL [2]))) [0, 2] (by have := fl_len 3 (gX dice 0 (fun _ => true) (inL [2])); omega)) (allData_of (by intro c hc; simp only [List.mem_cons, List.not_mem_nil, or_false] at hc; rcases hc with rfl | rfl; exact dc1; exact dlvL 2 [0, 2]))) (by rw [dice_p]; rfl)) rfl <| WO.B (fun h26 => ?_) (fun h26 => ?_)
 rotate_left
 ·cases h26
 refine WO.U (oPkT rfl rfl) rfl <| Um rfl rfl <| WO.Ug rfl (oMv rfl) rfl <| WO.Ug rfl (cI ((3 : Int)) (oLenM rfl rfl) rfl) rfl <| WO.Ug rfl (oEql rfl rfl) rfl <| WO.D (fun h31 => ?_) (fun h31 => ?_)
 rotate_left
 ·exact absurd rfl h31
 refine WO.U (oPkT rfl rfl) rfl <| Um rfl rfl <| WO.Ug rfl (oMv rfl) rfl <| WO.Ug rfl (oEql rfl rfl) rfl <| WO.D (fun h35 => ?_) (fun h35 => ?_)
 rotate_left
 ·exact absurd rfl h35
 refine WO.U (oPkT rfl rfl) rfl <| Um rfl rfl <| WO.Ug rfl (oMv rfl) rfl <| WO.Ug rfl (oBs' (cs := [_]) (rows := [[_]]) rfl rfl (by decide) rfl rfl rfl) rfl <| WO.Ug rfl (OP.cast (b := .v (.bool true)) (oCall rfl (leq_run (kd (fl 3 (mX dice 0 (inL [2]))).length) 2 (fl 3 (mX dice 0 (inL [2]))) [2] (by have := fl_len 3 (mX dice 0 (inL [2])); omega)) (allData_of (by intro c hc; simp only [List.mem_cons, List.not_mem_nil, or_false] at hc; rcases hc with rfl | rfl; exact dc1; exact dlvL 2 [2]))) (by rw [dice_s]; rfl)) rfl <| WO.B (fun h40 => ?_) (fun h40 => ?_)
 rotate_left
 ·cases h40
 refine WO.U (oPkT rfl rfl) rfl <| Um rfl rfl <| WO.Ug rfl (oMv rfl) rfl <| WO.Ug rfl (cI ((3 : Int)) (oLenM rfl rfl) rfl) rfl <| WO.Ug rfl (OP.cast (b := .v (.bool true)) (oEql rfl rfl) rfl) rfl <| WO.U (oPkT rfl rfl) rfl <| Ua rfl rfl <| Nk [0] rfl <| WC.ret <| post (n := 0) (.inr rfl) rfl ?_ dD
 rfl
end Go.Proofs.YthpnlndhebcngaaGreat
set_option linter.unusedVariables false
set_option linter.unusedSimpArgs false
set_option maxRecDepth 100000
set_option maxHeartbeats 16000000
namespace Go.Proofs.YthpnlndhebcngaaGreat
open Go.Ab Go.RowKit
theorem cloneb_run (k : Nat) (bs : List BR) (hk : k ≠ 0) (hne : 0 < bs.length) (ln : bs.length < 1000000) : Run Tryz.prog T E0 (.call 111 [.sl k (bs.map brc)] (.sl 1 (bs.map brc))) := by
 refine mkcall Tryz.func111 rfl rfl (Nat.le_of_ble_eq_true rfl) <| Rg 1 rfl <| Ua rfl rfl <| Wn <| WC.assoc <| Rg 2 rfl <| Um rfl rfl <| WO.U (OP.cast (b := .v (.bool false)) (oNilE rfl rfl) (by rw [beq_eq_false_iff_ne.2 hk])) rfl <| Wn <| WC.cF rfl <| WC.skips <| Rg 4 rfl <| WO.U (oBs' (cs := []) (rows := []) rfl rfl (by decide) rfl rfl rfl) rfl <| Um rfl rfl <| WO.S (oApS (xs := []) (rows := bs.map brc) rfl rfl rfl rfl rfl (by decide) (by simp) (rows_of (f := brc) (n := 3) (fun _ => rfl)) (by simpa using hne) (by rw [List.length_map]; show (2 * (0 + bs.length) + 256) * 24 ≤ _; omega) (by rw [List.length_map]; show 0 + bs.length < _; omega)) rfl <| Ua rfl rfl <| Wn <| WC.ret ?_
 exact postRef (n := 0) (bs.map brc) (.inr rfl) rfl (by simp) g0 (by show (0 : Nat) ≠ 2; decide) rfl (by decide) rfl (rows_of (f := brc) (n := 3) fun _ => rfl) dbrc
theorem mown_run (c : CH) (hk : c.2.1 ≠ 0) (hne : 0 < c.2.2.length) (ln : c.2.2.length < 1000000) : Run Tryz.prog T E0 (.call 87 [lvC c] (lvC (kch c))) := by
 refine mkcall Tryz.func87 rfl rfl (Nat.le_of_ble_eq_true rfl) <| Rg 2 rfl <| WO.S (oBx rfl rfl) rfl <| WO.S (oAl rfl) rfl <| Wn <| WC.draw (z := 7) rfl (by kernel_rfl) <| WD.U (oFaP rfl rfl rfl rfl rfl) rfl <| WD.U (oLdP (l := .agg [_, _]) rfl rfl gG rfl rfl) rfl ?_
 refine WD.U (oFaP rfl rfl rfl rfl rfl) rfl <| WD.U (oLdP rfl rfl gG rfl rfl) rfl ?_
 refine WD.U (oCall rfl (cloneb_run c.2.1 c.2.2 hk hne ln) (allData_of (by intro x hx; rw [List.mem_singleton] at hx; subst hx; exact .sl _ _ fun row hr => dbrc row hr))) rfl <| WD.U (oBd (cs := [_, _, _]) rfl rfl rfl rfl rfl) rfl <| WD.S0 (oSt (cs' := chc (kch c)) rfl rfl rfl gG rfl rfl rfl rfl) ?_
 refine WD.nil (drawOk_of (by kernel_rfl)) rfl <| WC.ret <| post (n := 0) (.inr rfl) rfl ?_ dD
 rfl
theorem kept_run (k : Nat) (ss : List Go.Ab.ST) (g : FuncId) (cap : List LV) (kq : Nat → Nat → Bool) (hcap : ∀ c, c ∈ cap → Go.Ab.Data c) (hV : VM1 ss) (hK : ∀ x, x ∈ ss → ∀ c, c ∈ x.2.2 → c.2.1 ≠ 0) (hk : ∀ i j : Nat, i < ss.length → j < (ss.getD i default).2.2.length → Run Tryz.prog T E0 (.call g ([] ++ [.v (.int .i64 (i : Int)), .v (.int .i64 (j : Int))] ++ cap) (.v (.bool (kq i j))))) : Run Tryz.prog T E0 (.call 68 [lvMo k ss, .fn (.func g) [] cap] (lvMo 1 (kpt kq ss))) := by
 have hn40 := hV.wt.len
 have hpos := hV.pos
 refine mkcall Tryz.func68 rfl rfl (Nat.le_of_ble_eq_true rfl) <| Rg 2 rfl <| WO.S (oBx rfl rfl) rfl <| WO.S (oAl rfl) rfl <| Wn <| Rg 1 rfl <| WO.S (oAl rfl) rfl <| Wn <| WC.assoc <| Rg 4 rfl <| WO.U (oFaP rfl rfl rfl rfl rfl) rfl <| WO.U (oLdP rfl rfl gG rfl rfl) rfl ?_
 refine WO.U (oLenM rfl rfl) rfl <| Um rfl rfl <| Wn <| WC.block <| WC.loopV (α := Nat × Nat) (fun ⟨i, q⟩ => [(1, .fn (.func g) [] cap), (4, .ptr (0 + 1) 0), (5, .ptr (0 + 2) 0), (12, .sl k (ss.map stc)), (13, .v (.int .i64 (ss.length : Int))), (14, .v (.int .i64 (i : Int)))]) (fun ⟨i, q⟩ => outH q 3 (59) ((tab i (fun i => kst (kq i) (ss.getD i default))).map stc) [((0 + 2), { cells := [outV q 3 ((tab i (fun i => kst (kq i) (ss.getD i default))).map stc)], sz := 1, elem := (24), st := 0 }), ((0 + 1), { cells := [.sl 0 []], sz := 1, elem := (24), st := 0 })]) (fun ⟨i, q⟩ n => i ≤ ss.length ∧ 2 < q ∧ q < n) (fun ⟨i, q⟩ => ss.length - i) (0, 3) ⟨rfl, rfl, rfl, rfl, rfl, rfl, trivial⟩ ⟨gG, gG, trivial⟩ ⟨Nat.zero_le _, om, om⟩ ?_
 rintro ⟨i, q⟩ n hF
 change WC _ _ _ _ _ (_ :: _) (outH _ _ _ _ _) n _
 obtain ⟨hi, hq0, hq⟩ := hF
 obtain ⟨nK, hnK⟩ : ∃ z, z = n := ⟨n, rfl⟩
 subst hnK
 refine Rg 1 rfl <| WO.U (oLss rfl rfl) rfl <| WO.D (fun h15 => ?_) (fun h15 => ?_)
 rotate_left
 ·refine Wn <| WC.cF rfl <| WC.exits <| loopR_exit <| after_exit rfl <| Rg 2 rfl <| WO.U (oLdP (l := .agg [_]) rfl rfl (by repeat (first | exact g0 | refine g1 om ?_ | refine outH_get om ?_)) rfl rfl) rfl ?_
  refine WO.S0 (oSt (cs' := [_]) rfl rfl rfl (by repeat (first | exact g0 | refine g1 om ?_ | refine outH_get om ?_)) rfl rfl rfl rfl) ?_
  refine Wn <| WC.ret ?_
  have hin : i = ss.length := by omega
  subst hin
  have hne : (tab ss.length (fun i => kst (kq i) (ss.getD i default))).map stc ≠ [] := fun h => by have := congrArg List.length h; rw [List.length_map, tab_len, List.length_nil] at this; omega
  exact postRefA (n := 0) ((tab ss.length (fun i => kst (kq i) (ss.getD i default))).map stc) (.inr rfl) (Eq.trans rfl (congrArg (fun z => some [LV.agg [z]]) (outV_ne hne))) rfl (by rw [outH_ne hne]; repeat (first | exact g0 | refine g1 om ?_)) (by show (0 : Nat) ≠ 2; decide) rfl (by decide) rfl (rows_of (f := stc) (n := 3) fun _ => rfl) (data_of (f := stc) dstc1)
 refine Wn <| WC.cT rfl <| WC.skips <| WC.block ?_
 have hm := getD_mem (us := ss) (i := i) om
 have hcl := hV.cs _ hm
 refine Rg 6 rfl <| Um rfl rfl <| WO.U (oIxM rfl rfl rfl rfl rfl om rfl) rfl <| WO.U (oLd (l := .agg (stc (ss.getD i default))) rfl rfl rfl) rfl <| WO.S (oAl rfl) rfl <| Ua rfl rfl <| WO.S0 (oSt (cs' := stc (ss.getD i default)) rfl rfl rfl g0 rfl rfl rfl rfl) <| Wn <| Rg 7 rfl <| WO.U (oFaP rfl rfl rfl rfl rfl) rfl <| WO.U (oLdP rfl rfl gG rfl rfl) rfl ?_
 refine WO.U (oFaP rfl rfl rfl rfl rfl) rfl <| WO.U (oLdP rfl rfl gG rfl rfl) rfl ?_
 refine WO.U (oBd (cs := [_, _, _]) rfl rfl rfl rfl rfl) rfl <| WO.S (oAl rfl) rfl <| WO.S0 (oSt (cs' := [_, _, _]) rfl rfl rfl g0 rfl rfl rfl rfl) <| Nk [1,4,5,6,7,8,12,13,14] rfl <| WC.assoc <| Rg 4 rfl <| WO.U (oFaP rfl rfl rfl rfl rfl) rfl <| WO.U (oLdP rfl rfl gG rfl rfl) rfl ?_
 refine WO.U (oLenM rfl rfl) rfl <| Um rfl rfl <| Wn <| WC.block <| WC.loopV (α := Nat × Nat) (fun ⟨j, q2⟩ => [(1, .fn (.func g) [] cap), (4, .ptr (0 + 1) 0), (5, .ptr (0 + 2) 0), (6, .v (.int .i64 (i : Int))), (8, .ptr (nK + 1 + 6 + 5) 0), (12, .sl k (ss.map stc)), (13, .v (.int .i64 (ss.length : Int))), (14, .v (.int .i64 (i : Int))), (25, .sl (ss.getD i default).2.1 ((ss.getD i default).2.2.map chc)), (26, .v (.int .i64 ((ss.getD i default).2.2.length : Int))), (27, .v (.int .i64 (j : Int)))]) (fun ⟨j, q2⟩ => outH q2 3 (73) ((kpl (kq i) (ss.getD i default).2.2 j).map chc) (((nK + 1 + 6 + 5), { cells := [.v (.int .i64 (ss.getD i default).1.1), .v (.int .i64 (ss.getD i default).1.2), outV q2 3 ((kpl (kq i) (ss.getD i default).2.2 j).map chc)], sz := 3, elem := (59), st := 0 }) :: outH q 3 (59) ((tab i (fun i => kst (kq i) (ss.getD i default))).map stc) [((0 + 2), { cells := [outV q 3 ((tab i (fun i => kst (kq i) (ss.getD i default))).map stc)], sz := 1, elem := (24), st := 0 }), ((0 + 1), { cells := [.sl 0 []], sz := 1, elem := (24), st := 0 })])) (fun ⟨j, q2⟩ n => j ≤ (ss.getD i default).2.2.length ∧ nK + 12 < q2 ∧ q2 < n ∧ nK + 18 ≤ n) (fun ⟨j, q2⟩ => (ss.getD i default).2.2.length - j) (0, nK + 13) ⟨rfl, rfl, rfl, rfl, rfl, rfl, rfl, rfl, rfl, rfl, rfl, trivial⟩ ⟨gG, subsM_outH (fun hne => by rw [outH_ne hne]; repeat (first | exact g0 | refine g1 om ?_ | refine outH_get om ?_)) ⟨(by repeat (first | exact g0 | refine g1 om ?_ | refine outH_get om ?_)), (by repeat (first | exact g0 | refine g1 om ?_ | refine outH_get om ?_)), trivial⟩⟩ ⟨Nat.zero_le _, om, om, om⟩ ?_
 rintro ⟨j, q2⟩ n hF
 change WC _ _ _ _ _ (_ :: _) (outH _ _ _ _ _) n _
 obtain ⟨hj, hq1, hq2, hn2⟩ := hF
 have h8 : nK + (1 + (6 + 5)) < n := by omega
 refine WC.regF (z := 1) rfl <| WO.U (oLss rfl rfl) rfl <| WO.D (fun h28 => ?_) (fun h28 => ?_)
 rotate_left
 ·refine Wn <| Fz.cellR (A := [_, _]) [(1, _), (4, _), (5, _), (6, _), (8, _), (12, _), (13, _), (14, _), (25, _), (26, _), (27, _), (28, _)] ⟨rfl, rfl, rfl, rfl, rfl, rfl, rfl, rfl, rfl, rfl, rfl, rfl, trivial⟩ om (by decide) (rows_of (f := chc) (n := 3) fun _ => rfl) (data_of dchc1) (outH_none om (gN om (gN om rfl))) ?_
  rw [outR_kd]
  refine WC.cF rfl <| WC.exits <| loopR_exit <| after_exit rfl ?_
  have hj2 : j = (ss.getD i default).2.2.length := by omega
  subst hj2
  refine WC.reg1z (z := 7) rfl <| WO.U (oFaP rfl rfl rfl rfl rfl) rfl <| WO.U (oLdP rfl rfl (by repeat (first | exact g0 | refine g1 om ?_ | refine outH_get om ?_)) rfl rfl) rfl ?_
  refine WO.U (oLdP (l := .agg (stc (kst (kq i) (ss.getD i default)))) rfl rfl gG rfl rfl) rfl ?_
  refine WO.U (oBs' (cs := [_, _, _]) (rows := [[_, _, _]]) rfl rfl (by decide) rfl rfl rfl) rfl <| WO.weakH _ (subsM.get (subsM_outH (q := q) (sz := 3) (el := (59)) (us := ((tab i (fun i => kst (kq i) (ss.getD i default))).map stc)) (h := [((0 + 2), { cells := [outV q 3 ((tab i (fun i => kst (kq i) (ss.getD i default))).map stc)], sz := 1, elem := (24), st := 0 }), ((0 + 1), { cells := [.sl 0 []], sz := 1, elem := (24), st := 0 })]) (fun hne => by rw [outH_ne hne]; repeat (first | exact g0 | refine g1 om ?_ | refine outH_get om ?_)) ⟨(by repeat (first | exact g0 | refine g1 om ?_ | refine outH_get om ?_)), (by repeat (first | exact g0 | refine g1 om ?_ | refine outH_get om ?_)), trivial⟩)) ?_
  refine WO.apM (te := ti59) (f := stc) (q := q) (us := (tab i (fun i => kst (kq i) (ss.getD i default)))) (u := (kst (kq i) (ss.getD i default))) rfl rfl rfl rfl rfl (fun _ => rfl) (by decide) (by show (2 * (((tab i (fun i => kst (kq i) (ss.getD i default)))).length + 1) + 256) * 40 ≤ _; rw [tab_len]; omega) (by rw [tab_len]; omega) (gN om (gN om rfl)) (gN om (gN om rfl)) rfl <| WO.U (oFaP rfl rfl rfl rfl rfl) rfl <| WO.S0 (oStV rfl rfl rfl rfl rfl (by repeat (first | exact g0 | refine g1 om ?_ | refine outH_get om ?_))) ?_
  refine Wn <| after_normal <| Ck [1,4,5,12,13,14] rfl <| WC.reg1z (z := 2) rfl <| WO.U (cI (((i + 1 : Nat) : Int)) (oAdd64 rfl rfl om) om) rfl <| Um rfl rfl <| Wn <| loopR_normal ?_
  have eu : tab (i + 1) (fun i => kst (kq i) (ss.getD i default)) = (tab i (fun i => kst (kq i) (ss.getD i default))) ++ [(kst (kq i) (ss.getD i default))] := by rw [tab_succ]
  refine ⟨⟨i + 1, n + 1 + 4⟩, ⟨rfl, rfl, rfl, rfl, rfl, rfl, trivial⟩, by dsimp only; rw [eu]; exact subsM_outH (fun hne => by rw [outH_ne hne]; repeat (first | exact g0 | refine g1 om ?_ | refine outH_get om ?_)) ⟨(by repeat (first | exact g0 | refine g1 om ?_ | refine outH_get om ?_)), (by repeat (first | exact g0 | refine g1 om ?_ | refine outH_get om ?_)), trivial⟩, ⟨om, om, om⟩, by show ss.length - (i + 1) < ss.length - i; omega⟩
 refine Wn <| Fz.same [(1, _), (4, _), (5, _), (6, _), (8, _), (12, _), (13, _), (14, _), (25, _), (26, _), (27, _), (28, _)] _ ⟨rfl, rfl, rfl, rfl, rfl, rfl, rfl, rfl, rfl, rfl, rfl, rfl, trivial⟩ (fun _ _ h => h) <| WC.cT rfl <| WC.skips <| WC.block ?_
 have hmc := getD_mem (us := (ss.getD i default).2.2) (i := j) om
 have hbs := hV.bs _ hm _ hmc
 refine Rg 6 rfl <| Um rfl rfl <| WO.U (oIxM rfl rfl rfl rfl rfl om rfl) rfl <| WO.U (oLd (l := lvC ((ss.getD i default).2.2.getD j default)) rfl rfl rfl) rfl <| WO.S (oAl rfl) rfl <| Ua rfl rfl <| WO.S0 (oSt (cs' := chc ((ss.getD i default).2.2.getD j default)) rfl rfl rfl g0 rfl rfl rfl rfl) <| Nk [1,4,5,6,8,9,10,12,13,14,25,26,27] rfl <| Rg 4 rfl <| Um rfl rfl <| Um rfl rfl <| Um rfl rfl <| WO.U (oCallVD rfl rfl (hk i j om om) (data3 d0 (by intro c hc; simp only [List.mem_cons, List.not_mem_nil, or_false] at hc; rcases hc with rfl | rfl; exact .v _; exact .v _) hcap)) rfl <| WO.B (fun h35 => ?_) (fun h35 => ?_)
 rotate_left
 ·refine Nk [1,4,5,6,8,10,12,13,14,25,26,27,35] rfl <| WC.cF1 rfl <| WC.skip <| after_normal <| WC.reg1z (z := 2) rfl <| WO.U (cI (((j + 1 : Nat) : Int)) (oAdd64 rfl rfl om) om) rfl <| Um rfl rfl <| Wn <| loopR_normal ?_
  have eu : (kpl (kq i) (ss.getD i default).2.2 (j + 1)).map chc = ((kpl (kq i) (ss.getD i default).2.2 j).map chc) := by rw [kpl_no h35]
  refine ⟨⟨j + 1, q2⟩, ⟨rfl, rfl, rfl, rfl, rfl, rfl, rfl, rfl, rfl, rfl, rfl, trivial⟩, by dsimp only; rw [eu]; exact subsM_outH (fun hne => by rw [outH_ne hne]; repeat (first | exact g0 | refine g1 om ?_ | refine outH_get om ?_)) ⟨(by repeat (first | exact g0 | refine g1 om ?_ | refine outH_get om ?_)), subsM_outH (fun hne => by rw [outH_ne hne]; repeat (first | exact g0 | refine g1 om ?_ | refine outH_get om ?_)) ⟨(by repeat (first | exact g0 | refine g1 om ?_ | refine outH_get om ?_)), (by repeat (first | exact g0 | refine g1 om ?_ | refine outH_get om ?_)), trivial⟩⟩, ⟨om, om, om, om⟩, by show (ss.getD i default).2.2.length - (j + 1) < (ss.getD i default).2.2.length - j; omega⟩
 refine Nk [1,4,5,6,8,10,12,13,14,25,26,27,35] rfl <| WC.cT1 rfl <| WC.draw1z (z := 8) rfl (by kernel_rfl) <| WD.U (oFaP rfl rfl rfl rfl rfl) rfl <| WD.U (oLdP rfl rfl (by repeat (first | exact g0 | refine g1 om ?_ | refine outH_get om ?_)) rfl rfl) rfl ?_
 refine WD.U (oLdP (l := lvC ((ss.getD i default).2.2.getD j default)) rfl rfl (by repeat (first | exact g0 | refine g1 om ?_ | refine outH_get om ?_)) rfl rfl) rfl ?_
 refine WD.U (oCall rfl (mown_run ((ss.getD i default).2.2.getD j default) (hK _ hm _ hmc) om om) dD) rfl <| WD.U (oBs' (cs := [_, _, _]) (rows := [[_, _, _]]) rfl rfl (by decide) rfl rfl rfl) rfl <| WD.weakH _ (subsM.get (subsM_outH (q := q2) (sz := 3) (el := (73)) (us := ((kpl (kq i) (ss.getD i default).2.2 j).map chc)) (h := (((nK + 1 + 6 + 5), { cells := [.v (.int .i64 (ss.getD i default).1.1), .v (.int .i64 (ss.getD i default).1.2), outV q2 3 ((kpl (kq i) (ss.getD i default).2.2 j).map chc)], sz := 3, elem := (59), st := 0 }) :: outH q 3 (59) ((tab i (fun i => kst (kq i) (ss.getD i default))).map stc) [((0 + 2), { cells := [outV q 3 ((tab i (fun i => kst (kq i) (ss.getD i default))).map stc)], sz := 1, elem := (24), st := 0 }), ((0 + 1), { cells := [.sl 0 []], sz := 1, elem := (24), st := 0 })])) (fun hne => by rw [outH_ne hne]; repeat (first | exact g0 | refine g1 om ?_ | refine outH_get om ?_)) ⟨(by repeat (first | exact g0 | refine g1 om ?_ | refine outH_get om ?_)), subsM_outH (fun hne => by rw [outH_ne hne]; repeat (first | exact g0 | refine g1 om ?_ | refine outH_get om ?_)) ⟨(by repeat (first | exact g0 | refine g1 om ?_ | refine outH_get om ?_)), (by repeat (first | exact g0 | refine g1 om ?_ | refine outH_get om ?_)), trivial⟩⟩)) ?_
 refine WD.ap (te := ti73) (k0 := 0) (us := ((kpl (kq i) (ss.getD i default).2.2 j).map chc)) (rows := [chc (kch ((ss.getD i default).2.2.getD j default))]) (.inl rfl) rfl rfl rfl (by rw [outK_zero]; rfl) rfl (by decide) (by intro r hr; rw [List.mem_singleton] at hr; subst hr; rfl) (rows_of (f := chc) (n := 3) fun _ => rfl) (by simp) (by rw [List.length_map]; show (2 * ((kpl (kq i) (ss.getD i default).2.2 j).length + 1) + 256) * 40 ≤ _; have := kpl_len (kq i) (ss.getD i default).2.2 j; omega) (by rw [List.length_map]; show (kpl (kq i) (ss.getD i default).2.2 j).length + 1 < _; have := kpl_len (kq i) (ss.getD i default).2.2 j; omega) (gN om (outH_none om (gN om (gN om rfl)))) rfl <| WD.U (oFaP rfl rfl rfl rfl rfl) rfl <| WD.S0 (oSt (cs' := [_, _, _]) rfl rfl rfl gG rfl rfl rfl rfl) ?_
 refine WD.nil (drawOk_ren (rn n) (by simp only [List.reverse_cons, List.reverse_nil, List.nil_append, List.cons_append, List.map_cons, List.map_nil, ren, keys, Nat.add_assoc, rn_add, rn_lt hq2, rn_lt h8]; kernel_rfl)) rfl <| after_normal <| Ck [1,4,5,6,8,12,13,14,25,26,27] rfl <| WC.reg1z (z := 2) rfl <| WO.U (cI (((j + 1 : Nat) : Int)) (oAdd64 rfl rfl om) om) rfl <| Um rfl rfl <| Wn <| loopR_normal ?_
 have eu : (kpl (kq i) (ss.getD i default).2.2 (j + 1)).map chc = ((kpl (kq i) (ss.getD i default).2.2 j).map chc) ++ [chc (kch ((ss.getD i default).2.2.getD j default))] := by rw [kpl_yes h35, List.map_append]; rfl
 refine ⟨⟨j + 1, n + 1 + 6 + 4 + 5⟩, ⟨rfl, rfl, rfl, rfl, rfl, rfl, rfl, rfl, rfl, rfl, rfl, trivial⟩, by dsimp only; rw [eu, outH_snoc, outV_snoc]; exact ⟨gG, gG, subsM_outH (fun hne => by rw [outH_ne hne]; repeat (first | exact g0 | refine g1 om ?_ | refine outH_get om ?_)) ⟨(by repeat (first | exact g0 | refine g1 om ?_ | refine outH_get om ?_)), (by repeat (first | exact g0 | refine g1 om ?_ | refine outH_get om ?_)), trivial⟩⟩, ⟨om, om, om, om⟩, by show (ss.getD i default).2.2.length - (j + 1) < (ss.getD i default).2.2.length - j; omega⟩
theorem fixed1_run (k ks : Nat) (ss : List Go.Ab.ST) (st : List Int) (pl : Int) (i j : Nat) (hi : i < ss.length) (hl : st.length = ss.length) : Run Tryz.prog T E0 (.call 69 [.v (.int .i64 (i : Int)), .v (.int .i64 (j : Int)), .ro [.sl k (ss.map stc)], .ro [.v (.int .i64 pl)], .ro [lvL ks st]] (.v (.bool (qf ss st pl i j)))) := by
 refine mkcall Tryz.func69 rfl rfl (Nat.le_of_ble_eq_true rfl) <| Rg 1 rfl <| Ua rfl rfl <| Wn <| WC.draw (z := 17) rfl (by kernel_rfl) <| WD.U (oFa rfl rfl rfl rfl rfl) rfl <| WD.U (oLd rfl rfl rfl) rfl <| Dm rfl rfl <| WD.U (oIxM (j := i) rfl rfl rfl rfl om om rfl) rfl <| WD.U (oFa rfl rfl rfl rfl rfl) rfl <| WD.U (oLd rfl rfl rfl) rfl <| WD.U (oLd rfl rfl rfl) rfl <| WD.U (oNeq rfl rfl) rfl <| WD.D (fun h15 => ?_) (fun h15 => ?_)
 ·refine Dm rfl rfl <| WD.K rfl rfl <| WD.K rfl rfl <| WD.K rfl rfl <| WD.K rfl rfl <| WD.K rfl rfl <| WD.K rfl rfl <| WD.U (oPkT rfl rfl) rfl <| WD.U (oAs rfl) rfl <| WD.nil (drawOk_of (by kernel_rfl)) rfl <| Ck [7] rfl <| WC.ret <| post (n := 0) (.inr rfl) rfl ?_ dD
  exact congrArg (fun z => LV.v (.bool z)) (show true = qf ss st pl i j by unfold qf; rw [decide_eq_true om, Bool.true_or])
 refine Dm rfl rfl <| WD.Ug rfl (oLd rfl rfl rfl) rfl <| WD.Ug rfl (oMv rfl) rfl <| WD.Ug rfl (oIxM (j := i) rfl rfl rfl rfl om om rfl) rfl <| WD.Ug rfl (oLd rfl rfl rfl) rfl <| WD.Ug rfl (oMv rfl) rfl <| WD.Ug rfl (oEql rfl rfl) rfl <| WD.U (oPkF rfl rfl) rfl <| WD.U (oAs rfl) rfl <| WD.nil (drawOk_of (by kernel_rfl)) rfl <| Ck [7] rfl <| WC.ret <| post (n := 0) (.inr rfl) rfl ?_ dD
 exact congrArg (fun z => LV.v (.bool z)) (show _ = qf ss st pl i j by unfold qf; rw [decide_eq_false (show ¬ (ss.getD i default).1.1 ≠ pl by omega), Bool.false_or])
theorem fixedfor_run (k ks : Nat) (ss : List Go.Ab.ST) (st : List Int) (pl : Int) (hV : VM1 ss) (hK : ∀ x, x ∈ ss → ∀ c, c ∈ x.2.2 → c.2.1 ≠ 0) (hl : st.length = ss.length) : Run Tryz.prog T E0 (.call 44 [lvMo k ss, lvL ks st, .v (.int .i64 pl)] (lvMo 1 (kpt (qf ss st pl) ss))) := by
 refine mkcall Tryz.func44 rfl rfl (Nat.le_of_ble_eq_true rfl) <| Rg 4 rfl <| WO.S (oBx rfl rfl) rfl <| WO.S (oBx rfl rfl) rfl <| WO.S (oBx rfl rfl) rfl <| WO.S (oAl rfl) rfl <| Wn <| Rg 4 rfl <| WO.U (oLdP (l := lvMo k ss) rfl rfl gG rfl rfl) rfl ?_
 refine WO.U (oMf rfl) rfl <| WO.S (oCallF [lvMo k ss, .fn (.func 69) [] [.ro [.sl k (ss.map stc)], .ro [.v (.int .i64 pl)], .ro [lvL ks st]]] [(0, { cells := [.sl k (ss.map stc)], sz := 1, elem := (24), st := 1 }), (0 + 2, { cells := [.v (.int .i64 pl)], sz := 1, elem := (3), st := 1 }), (0 + 1, { cells := [lvL ks st], sz := 1, elem := (25), st := 1 })] rfl (kept_run k ss 69 [.ro [.sl k (ss.map stc)], .ro [.v (.int .i64 pl)], .ro [lvL ks st]] (qf ss st pl) (by intro c hc; simp only [List.mem_cons, List.not_mem_nil, or_false] at hc; rcases hc with rfl | rfl | rfl; exact .ro _ (by intro c hc; rw [List.mem_singleton] at hc; subst hc; exact .sl _ _ fun row hr c hc => dstc row hr c hc); exact .ro _ (by intro c hc; rw [List.mem_singleton] at hc; subst hc; exact .v _); exact .ro _ (by intro c hc; rw [List.mem_singleton] at hc; subst hc; exact dlvL _ _)) hV hK (fun i j hi hj => fixed1_run k ks ss st pl i j hi hl)) (SnapB.toA (.data dc1 (.fn .nil (.box (ob := { cells := [.sl k (ss.map stc)], sz := 1, elem := (24), st := 0 }) gG (by simp [keys]) (by show (0 : Nat) ≠ 2; decide) (by intro c hc; have hc' := List.mem_singleton.1 hc; subst hc'; exact .sl _ _ fun row hr c hc => dstc row hr c hc) (.box (ob := { cells := [.v (.int .i64 pl)], sz := 1, elem := (3), st := 0 }) gG (by simp [keys]) (by show (0 : Nat) ≠ 2; decide) (by intro c hc; have hc' := List.mem_singleton.1 hc; subst hc'; exact .v _) (.box (ob := { cells := [lvL ks st], sz := 1, elem := (25), st := 0 }) gG (by simp [keys]) (by show (0 : Nat) ≠ 2; decide) (by intro c hc; have hc' := List.mem_singleton.1 hc; subst hc'; exact dlvL _ _) (.nil)))) .nil))) (by intro p hp; simp only [List.mem_cons, List.not_mem_nil, or_false] at hp; rcases hp with rfl | rfl | rfl; exact ⟨_, gG, (by show (0 : Nat) ≠ 2; decide), rfl⟩; exact ⟨_, gG, (by show (0 : Nat) ≠ 2; decide), rfl⟩; exact ⟨_, gG, (by show (0 : Nat) ≠ 2; decide), rfl⟩)) rfl ?_
 refine WO.S0 (oSt (cs' := [_]) rfl rfl rfl gG rfl rfl rfl rfl) ?_
 refine Wn <| WC.ret <| post (n := 0) (.inr rfl) rfl ?_ dD
 rfl
theorem idxi_run (k : Nat) (ns : List Int) (g : FuncId) (cap : List LV) (p : Int → Bool) (hcap : ∀ c, c ∈ cap → Go.Ab.Data c) (ln : ns.length < 4611686018427387904) (hp : ∀ a, a ∈ ns → Run Tryz.prog T E0 (.call g ([.v (.int .i64 a)] ++ cap) (.v (.bool (p a))))) : Run Tryz.prog T E0 (.call 70 [lvL k ns, .fn (.func g) [] cap] (.v (.int .i64 (fidx p ns)))) := by
 refine mkcall Tryz.func70 rfl rfl (Nat.le_of_ble_eq_true rfl) <| Rg 1 rfl <| Ua rfl rfl <| Wn <| WC.assoc <| Rg 3 rfl <| Um rfl rfl <| WO.U (oLenM rfl rfl) rfl <| Um rfl rfl <| Wn <| WC.block <| WC.loopV (α := Nat) (fun i => [(0, lvL k ns), (1, .fn (.func g) [] cap), (7, .v (.int .i64 (ns.length : Int))), (8, .v (.int .i64 (i : Int)))]) (fun i => []) (fun i n => i ≤ ns.length ∧ (ns.take i).any p = false) (fun i => ns.length - i) (0) ⟨rfl, rfl, rfl, rfl, trivial⟩ trivial ⟨Nat.zero_le _, by simp⟩ ?_
 rintro i n hF
 change WC _ _ _ _ _ (_ :: _) ([]) n _
 obtain ⟨hi, ha⟩ := hF
 refine Rg 1 rfl <| WO.U (oLss rfl rfl) rfl <| WO.D (fun h9 => ?_) (fun h9 => ?_)
 rotate_left
 ·refine Wn <| WC.cF rfl <| WC.exits <| loopR_exit <| after_exit rfl <| Rg 1 rfl <| Ua rfl rfl <| Wn <| WC.ret <| post (n := 0) (.inr rfl) rfl ?_ dD
  exact congrArg (fun z => LV.v (.int .i64 z)) (fidx_none ha om).symm
 refine Wn <| WC.cT rfl <| WC.skips <| WC.block <| Rg 2 rfl <| Um rfl rfl <| Ua rfl rfl <| Wn <| Rg 6 rfl <| Um rfl rfl <| Um rfl rfl <| Um rfl rfl <| WO.U (oIxM rfl rfl rfl rfl rfl om rfl) rfl <| WO.U (oLd rfl rfl rfl) rfl <| WO.U (oCallVD rfl rfl (hp _ (getD_mem om)) (data3 d0 (dII _) hcap)) rfl <| WO.B (fun h16 => ?_) (fun h16 => ?_)
 rotate_left
 ·refine Wn <| WC.cF1 rfl <| WC.skip <| after_normal <| WC.reg1z (z := 2) rfl <| WO.U (cI (((i + 1 : Nat) : Int)) (oAdd64 rfl rfl om) om) rfl <| Um rfl rfl <| Wn <| loopR_normal <| ⟨i + 1, ⟨rfl, rfl, rfl, rfl, trivial⟩, trivial, ⟨om, take_any ha om h16⟩, by show ns.length - (i + 1) < ns.length - i; omega⟩
 refine Wn <| WC.cT1 rfl <| Rg 2 rfl <| Um rfl rfl <| Ua rfl rfl <| Nk [4] rfl <| WC.ret <| after_ret <| loopR_ret <| after_ret <| post (n := 0) (.inr rfl) rfl ?_ dD
 exact congrArg (fun z => LV.v (.int .i64 z)) (fidx_hit ha om h16).symm
theorem coni_run (k : Nat) (ns : List Int) (g : FuncId) (cap : List LV) (p : Int → Bool) (hcap : ∀ c, c ∈ cap → Go.Ab.Data c) (ln : ns.length < 4611686018427387904) (hp : ∀ a, a ∈ ns → Run Tryz.prog T E0 (.call g ([.v (.int .i64 a)] ++ cap) (.v (.bool (p a))))) : Run Tryz.prog T E0 (.call 46 [lvL k ns, .fn (.func g) [] cap] (.v (.bool (ns.any p)))) := by
 refine mkcall Tryz.func46 rfl rfl (Nat.le_of_ble_eq_true rfl) <| Rg 1 rfl <| Ua rfl rfl <| Wn <| Rg 5 rfl <| Um rfl rfl <| Um rfl rfl <| WO.U (oCallB [] [lvL k ns, .fn (.func g) [] cap] rfl (idxi_run k ns g cap p hcap ln hp) (SnapB.datas (by intro c hc; simp only [List.mem_cons, List.not_mem_nil, or_false] at hc; rcases hc with rfl | rfl; exact dlvL _ _; exact dfn d0 hcap)) lent0) rfl <| WO.U (oGeq rfl rfl) rfl <| Ua rfl rfl <| Wn <| WC.ret <| post (n := 0) (.inr rfl) rfl ?_ dD
 exact congrArg (fun z => LV.v (.bool z)) (fidx_nonneg p ns)
theorem attains1_run (f : Nat → Bool) (z : Int) (h0 : 0 ≤ z) (h1 : z < 40) : Run Tryz.prog T E0 (.call 47 [.v (.int .i64 z), .ro (sb f)] (.v (.bool (!f z.toNat)))) := by
 refine mkcall Tryz.func47 rfl rfl (Nat.le_of_ble_eq_true rfl) <| Rg 1 rfl <| Ua rfl rfl <| Wn <| Rg 4 rfl <| Um rfl rfl <| WO.U (oCall rfl (has_run f z h0 h1) (allData_of (by intro c hc; simp only [List.mem_cons, List.not_mem_nil, or_false] at hc; rcases hc with rfl | rfl; exact .ro _ (data_sb f); exact .v _))) rfl <| WO.U (oNot rfl) rfl <| Ua rfl rfl <| Wn <| WC.ret <| post (n := 0) (.inr rfl) rfl ?_ dD
 rfl
theorem mstrat_run (k ks : Nat) (ss : List Go.Ab.ST) (st : List Int) (hll : st.length < 1099511627776) : Run Tryz.prog T E0 (.call 43 [lvMo k ss, lvL ks st] (.v (.bool (vSt ss st)))) := by
 refine mkcall Tryz.func43 rfl rfl (Nat.le_of_ble_eq_true rfl) <| Rg 2 rfl <| WO.S (oBx rfl rfl) rfl <| Ua rfl rfl <| Wn <| WC.assoc <| Rg 6 rfl <| Um rfl rfl <| WO.U (oLenM rfl rfl) rfl <| WO.U (oFaP rfl rfl rfl rfl rfl) rfl <| WO.U (oLdP rfl rfl gG rfl rfl) rfl ?_
 refine WO.U (oLenM rfl rfl) rfl <| WO.U (oNeq rfl rfl) rfl <| WO.D (fun h12 => ?_) (fun h12 => ?_)
 ·refine Wn <| WC.cT rfl <| WC.assoc <| Rg 1 rfl <| Ua rfl rfl <| Wn <| WC.rets <| post (n := 0) (.inr rfl) rfl ?_ dD
  exact congrArg (fun z => LV.v (.bool z)) (show false = vSt ss st by unfold vSt; rw [decide_eq_false om]; rfl)
 refine Wn <| WC.cF rfl <| WC.skips <| WC.assoc <| Rg 3 rfl <| Um rfl rfl <| WO.U (oLenM rfl rfl) rfl <| Um rfl rfl <| Wn <| WC.block <| WC.loopV (α := Nat) (fun i => [(2, .ptr 0 0), (13, lvL ks st), (14, .v (.int .i64 (st.length : Int))), (15, .v (.int .i64 (i : Int)))]) (fun i => [(0, { cells := [.sl k (ss.map stc)], sz := 1, elem := (24), st := 0 })]) (fun i n => i ≤ st.length ∧ (∀ j, j < i → (decide (0 ≤ st.getD j default) && decide (st.getD j default < ((ss.getD j default).2.2.length : Int))) = true) ∧ 0 < n) (fun i => st.length - i) (0) ⟨rfl, rfl, rfl, rfl, trivial⟩ ⟨(by repeat (first | exact g0 | refine g1 (by decide) ?_)), trivial⟩ ⟨Nat.zero_le _, fun j hj => absurd hj om, om⟩ ?_
 rintro i n hF
 change WC _ _ _ _ _ (_ :: _) (_ :: _) n _
 obtain ⟨hi, hok, hn⟩ := hF
 refine Rg 1 rfl <| WO.U (oLss rfl rfl) rfl <| WO.D (fun h16 => ?_) (fun h16 => ?_)
 rotate_left
 ·refine Wn <| WC.cF rfl <| WC.exits <| loopR_exit <| after_exit rfl <| Rg 1 rfl <| Ua rfl rfl <| Wn <| WC.ret <| post (n := 0) (.inr rfl) rfl ?_ dD
  exact congrArg (fun z => LV.v (.bool z)) (show true = vSt ss st by unfold vSt; rw [decide_eq_true om, range_take hok om]; rfl)
 refine Wn <| WC.cT rfl <| WC.skips <| WC.block <| Rg 5 rfl <| Um rfl rfl <| WO.U (oIxM rfl rfl rfl rfl rfl om rfl) rfl <| WO.U (oLd rfl rfl rfl) rfl <| Ua rfl rfl <| Ua rfl rfl <| Wn <| Rg 13 rfl <| Um rfl rfl <| WO.U (oLss rfl rfl) rfl <| WO.D (fun h21 => ?_) (fun h21 => ?_)
 ·refine Um rfl rfl <| K1 rfl rfl <| K1 rfl rfl <| K1 rfl rfl <| K1 rfl rfl <| K1 rfl rfl <| K1 rfl rfl <| K1 rfl rfl <| K1 rfl rfl <| K1 rfl rfl <| WO.U (oPkT rfl rfl) rfl <| Nk [2,13,14,15,23,24,25,26,27,28,29,30,31,32] rfl <| WC.cT1 rfl <| Rg 1 rfl <| Ua rfl rfl <| Nk [4] rfl <| WC.ret <| after_ret <| loopR_ret <| after_ret <| post (n := 0) (.inr rfl) rfl ?_ dD
  exact congrArg (fun z => LV.v (.bool z)) (show false = vSt ss st by unfold vSt; rw [range_all_no (i := i) om (by rw [decide_eq_false om]; rfl), Bool.and_false])
 refine Um rfl rfl <| WO.Ug rfl (oMv rfl) rfl <| WO.Ug rfl (oFaP rfl rfl rfl rfl rfl) rfl <| WO.Ug rfl (oLdP rfl rfl gG rfl rfl) rfl ?_
 refine WO.Ug rfl (oMv rfl) rfl <| WO.Ug rfl (oIxM (j := i) rfl rfl rfl rfl om om rfl) rfl <| WO.Ug rfl (oFa rfl rfl rfl rfl rfl) rfl <| WO.Ug rfl (oLd rfl rfl rfl) rfl <| WO.Ug rfl (oLenM rfl rfl) rfl <| WO.Ug rfl (oGeq rfl rfl) rfl <| WO.D (fun h31 => ?_) (fun h31 => ?_)
 ·refine WO.U (oPkF rfl rfl) rfl <| Nk [2,13,14,15,23,24,25,26,27,28,29,30,31,32] rfl <| WC.cT1 rfl <| Rg 1 rfl <| Ua rfl rfl <| Nk [4] rfl <| WC.ret <| after_ret <| loopR_ret <| after_ret <| post (n := 0) (.inr rfl) rfl ?_ dD
  exact congrArg (fun z => LV.v (.bool z)) (show false = vSt ss st by unfold vSt; rw [range_all_no (i := i) om (by rw [decide_eq_false (show ¬ (st.getD i default) < _ by omega), Bool.and_false]), Bool.and_false])
 refine WO.U (oPkF rfl rfl) rfl <| Nk [2,13,14,15,23,24,25,26,27,28,29,30,31,32] rfl <| WC.cF1 rfl <| WC.skip <| after_normal <| WC.reg1z (z := 2) rfl <| WO.U (cI (((i + 1 : Nat) : Int)) (oAdd64 rfl rfl om) om) rfl <| Um rfl rfl <| Wn <| loopR_normal <| ⟨i + 1, ⟨rfl, rfl, rfl, rfl, trivial⟩, ⟨gG, trivial⟩, ⟨om, fun j hj => ?_, om⟩, by show st.length - (i + 1) < st.length - i; omega⟩
 by_cases e : j = i
 ·rw [e, decide_eq_true om, decide_eq_true om]; rfl
 ·exact hok j om
end Go.Proofs.YthpnlndhebcngaaGreat
set_option linter.unusedVariables false
set_option linter.unusedSimpArgs false
set_option maxRecDepth 100000
set_option maxHeartbeats 16000000
namespace Go.Proofs.YthpnlndhebcngaaGreat
open Go.Ab Go.RowKit
theorem attains_run (k kl kL ks : Nat) (ss : List Go.Ab.ST) (l : List Int) (pl : Int) (L st : List Int) (b : Bool) (hI : ∀ s, s ∈ ss → IS s) (hKN : KN ss) (ll : l.length < 1099511627776) (hLL : L.length < 1099511627776) (hsl : st.length < 1099511627776) : Run Tryz.prog T E0 (.call 22 [lvMo k ss, lvL kl l, .v (.int .i64 pl), lvL kL L, lvL ks st, .v (.bool b)] (.tup [.v (.bool (aT ss l pl L st b)), .v (.int .i64 (eT ss l pl L st))])) := by
 refine mkcall Tryz.func22 rfl rfl (Nat.le_of_ble_eq_true rfl) <| Rg 3 rfl <| WO.S (oBx rfl rfl) rfl <| Ua rfl rfl <| Ua rfl rfl <| Wn <| WC.assoc <| Rg 21 rfl <| WO.U (oLdP (l := lvMo k ss) rfl rfl (by repeat (first | exact g0 | refine g1 (by decide) ?_)) rfl rfl) rfl ?_
 refine WO.U (oCall rfl (mvmodel_run k ss hI) dD) rfl <| WO.B (fun h22 => ?_) (fun h22 => ?_)
 rotate_left
 ·refine WO.U (oNot rfl) rfl <| Um rfl rfl <| K1 rfl rfl <| K1 rfl rfl <| K1 rfl rfl <| K1 rfl rfl <| WO.U (oPkT rfl rfl) rfl <| Um rfl rfl <| K1 rfl rfl <| K1 rfl rfl <| K1 rfl rfl <| K1 rfl rfl <| WO.U (oPkT rfl rfl) rfl <| Um rfl rfl <| K1 rfl rfl <| K1 rfl rfl <| K1 rfl rfl <| K1 rfl rfl <| WO.U (oPkT rfl rfl) rfl <| Nk [1,2,3,4,5,6,41] rfl <| WC.cT rfl <| WC.assoc <| Rg 2 rfl ?_
  refine Ua rfl rfl <| Ua rfl rfl <| Wn <| WC.rets ?_
  have he : (eT ss l pl L st) = 1 := eT_1 (fun h => by rw [h22] at h; cases h.1)
  have ha : (aT ss l pl L st b) = false := aT_no (by rw [he]; decide)
  rw [he, ha]
  refine post (n := 0) (.inr rfl) rfl ?_ dD
  rfl
 refine WO.U (oNot rfl) rfl <| Um rfl rfl <| WO.Ug rfl (oLdP (l := lvMo k ss) rfl rfl (by repeat (first | exact g0 | refine g1 (by decide) ?_)) rfl rfl) rfl ?_
 refine WO.Ug rfl (oMv rfl) rfl <| WO.Ug rfl (oCall rfl (mset_run k kl ss l ll) dD) rfl <| WO.B (fun h27 => ?_) (fun h27 => ?_)
 rotate_left
 ·refine WO.Ug rfl (oNot rfl) rfl <| WO.U (oPkF rfl rfl) rfl <| Um rfl rfl <| K1 rfl rfl <| K1 rfl rfl <| K1 rfl rfl <| K1 rfl rfl <| WO.U (oPkT rfl rfl) rfl <| Um rfl rfl <| K1 rfl rfl <| K1 rfl rfl <| K1 rfl rfl <| K1 rfl rfl <| WO.U (oPkT rfl rfl) rfl <| Nk [1,2,3,4,5,6,41] rfl <| WC.cT rfl <| WC.assoc <| Rg 2 rfl <| Ua rfl rfl <| Ua rfl rfl <| Wn <| WC.rets ?_
  have he : (eT ss l pl L st) = 1 := eT_1 (fun h => by rw [h27] at h; cases h.2.1)
  have ha : (aT ss l pl L st b) = false := aT_no (by rw [he]; decide)
  rw [he, ha]
  refine post (n := 0) (.inr rfl) rfl ?_ dD
  rfl
 refine WO.Ug rfl (oNot rfl) rfl <| WO.U (oPkF rfl rfl) rfl <| Um rfl rfl <| WO.Ug rfl (oLdP (l := lvMo k ss) rfl rfl (by repeat (first | exact g0 | refine g1 (by decide) ?_)) rfl rfl) rfl ?_
 refine WO.Ug rfl (oMv rfl) rfl <| WO.Ug rfl (oCall rfl (mset_run k kL ss L hLL) dD) rfl <| WO.B (fun h33 => ?_) (fun h33 => ?_)
 rotate_left
 ·refine WO.Ug rfl (oNot rfl) rfl <| WO.U (oPkF rfl rfl) rfl <| Um rfl rfl <| K1 rfl rfl <| K1 rfl rfl <| K1 rfl rfl <| K1 rfl rfl <| WO.U (oPkT rfl rfl) rfl <| Nk [1,2,3,4,5,6,41] rfl <| WC.cT rfl <| WC.assoc <| Rg 2 rfl <| Ua rfl rfl <| Ua rfl rfl <| Wn <| WC.rets ?_
  have he : (eT ss l pl L st) = 1 := eT_1 (fun h => by rw [h33] at h; cases h.2.2.1)
  have ha : (aT ss l pl L st b) = false := aT_no (by rw [he]; decide)
  rw [he, ha]
  refine post (n := 0) (.inr rfl) rfl ?_ dD
  rfl
 refine WO.Ug rfl (oNot rfl) rfl <| WO.U (oPkF rfl rfl) rfl <| Um rfl rfl <| WO.Ug rfl (oLdP (l := lvMo k ss) rfl rfl (by repeat (first | exact g0 | refine g1 (by decide) ?_)) rfl rfl) rfl ?_
 refine WO.Ug rfl (oMv rfl) rfl <| WO.Ug rfl (oCall rfl (mstrat_run k ks ss st hsl) dD) rfl <| WO.B (fun h39 => ?_) (fun h39 => ?_)
 rotate_left
 ·refine WO.Ug rfl (oNot rfl) rfl <| WO.U (oPkF rfl rfl) rfl <| Nk [1,2,3,4,5,6,41] rfl <| WC.cT rfl <| WC.assoc <| Rg 2 rfl <| Ua rfl rfl <| Ua rfl rfl <| Wn <| WC.rets ?_
  have he : (eT ss l pl L st) = 1 := eT_1 (fun h => by rw [h39] at h; cases h.2.2.2)
  have ha : (aT ss l pl L st b) = false := aT_no (by rw [he]; decide)
  rw [he, ha]
  refine post (n := 0) (.inr rfl) rfl ?_ dD
  rfl
 refine WO.Ug rfl (oNot rfl) rfl <| WO.U (oPkF rfl rfl) rfl <| Nk [1,2,3,4,5,6,41] rfl <| WC.cF rfl <| WC.skips <| WC.assoc <| Rg 6 rfl <| Um rfl rfl <| WO.U (oLss rfl rfl) rfl <| WO.D (fun h43 => ?_) (fun h43 => ?_)
 ·refine Um rfl rfl <| K1 rfl rfl <| K1 rfl rfl <| WO.U (oPkT rfl rfl) rfl <| Wn <| WC.cT rfl <| WC.assoc <| Rg 2 rfl <| Ua rfl rfl <| Ua rfl rfl <| Nk [12,13] rfl <| WC.rets ?_
  have he : (eT ss l pl L st) = 6 := eT_6 ⟨h22, h27, h33, h39⟩ om
  have ha : (aT ss l pl L st b) = false := aT_no (by rw [he]; decide)
  rw [he, ha]
  refine post (n := 0) (.inr rfl) rfl ?_ dD
  rfl
 refine Um rfl rfl <| WO.Ug rfl (oMv rfl) rfl <| WO.Ug rfl (oGtr rfl rfl) rfl <| WO.D (fun h46 => ?_) (fun h46 => ?_)
 ·refine WO.U (oPkF rfl rfl) rfl <| Wn <| WC.cT rfl <| WC.assoc <| Rg 2 rfl <| Ua rfl rfl <| Ua rfl rfl <| Nk [12,13] rfl <| WC.rets ?_
  have he : (eT ss l pl L st) = 6 := eT_6 ⟨h22, h27, h33, h39⟩ om
  have ha : (aT ss l pl L st b) = false := aT_no (by rw [he]; decide)
  rw [he, ha]
  refine post (n := 0) (.inr rfl) rfl ?_ dD
  rfl
 refine WO.U (oPkF rfl rfl) rfl <| Wn <| WC.cF rfl <| WC.skips <| WC.assoc ?_
 have hV := VMo_1 h22
 have hst := vSt_len h39
 have hp : pl = 0 ∨ pl = 1 := by omega
 have h4 := And.intro h22 (And.intro h27 (And.intro h33 h39))
 have hn40 := hV.wt.len
 refine Rg 3 rfl <| Um rfl rfl <| WO.U (oLenM rfl rfl) rfl <| Um rfl rfl <| Nk [1,2,3,4,5,6,48,49,50] rfl <| WC.block <| WC.loopV (α := Nat) (fun i => [(1, lvL kl l), (2, .v (.int .i64 pl)), (3, lvL kL L), (4, lvL ks st), (5, .v (.bool b)), (6, .ptr 0 0), (48, lvL ks st), (49, .v (.int .i64 (st.length : Int))), (50, .v (.int .i64 (i : Int)))]) (fun i => [(0, { cells := [.sl k (ss.map stc)], sz := 1, elem := (24), st := 0 })]) (fun i n => i ≤ st.length ∧ (∀ j, j < i → (decide ((ss.getD j default).1.1 = pl) || decide (st.getD j default = 0)) = true) ∧ 0 < n) (fun i => st.length - i) (0) ⟨rfl, rfl, rfl, rfl, rfl, rfl, rfl, rfl, rfl, trivial⟩ ⟨(by repeat (first | exact g0 | refine g1 (by decide) ?_)), trivial⟩ ⟨Nat.zero_le _, fun j hj => absurd hj om, om⟩ ?_
 rintro i n hF
 change WC _ _ _ _ _ (_ :: _) (_ :: _) n _
 obtain ⟨hi, hok, hn⟩ := hF
 refine Rg 1 rfl <| WO.U (oLss rfl rfl) rfl <| WO.D (fun h51 => ?_) (fun h51 => ?_)
 ·refine Wn <| WC.cT rfl <| WC.skips <| WC.block <| Rg 5 rfl <| Um rfl rfl <| WO.U (oIxM rfl rfl rfl rfl rfl om rfl) rfl <| WO.U (oLd rfl rfl rfl) rfl <| Ua rfl rfl <| Ua rfl rfl <| Nk [1,2,3,4,5,6,14,15,48,49,50] rfl <| Rg 12 rfl <| WO.U (oFaP rfl rfl rfl rfl rfl) rfl <| WO.U (oLdP rfl rfl gG rfl rfl) rfl ?_
  refine Um rfl rfl <| WO.U (oIxM (j := i) rfl rfl rfl rfl om om rfl) rfl <| WO.U (oFa rfl rfl rfl rfl rfl) rfl <| WO.U (oLd rfl rfl rfl) rfl <| Um rfl rfl <| WO.U (oNeq rfl rfl) rfl <| WO.D (fun h62 => ?_) (fun h62 => ?_)
  rotate_left
  ·refine Um rfl rfl <| K1 rfl rfl <| K1 rfl rfl <| WO.U (oPkF rfl rfl) rfl <| Nk [1,2,3,4,5,6,48,49,50,64,65,66] rfl <| WC.cF1 rfl <| WC.skip <| after_normal <| WC.reg1z (z := 2) rfl <| WO.U (cI (((i + 1 : Nat) : Int)) (oAdd64 rfl rfl om) om) rfl <| Um rfl rfl <| Wn <| loopR_normal <| ⟨i + 1, ⟨rfl, rfl, rfl, rfl, rfl, rfl, rfl, rfl, rfl, trivial⟩, ⟨gG, trivial⟩, ⟨om, fun j hj => ?_, om⟩, by show st.length - (i + 1) < st.length - i; omega⟩
   by_cases e : j = i
   ·rw [e, decide_eq_true om, Bool.true_or]
   ·exact hok j om
  refine Um rfl rfl <| WO.Ug rfl (oMv rfl) rfl <| WO.Ug rfl (oNeq rfl rfl) rfl <| WO.D (fun h65 => ?_) (fun h65 => ?_)
  rotate_left
  ·refine WO.U (oPkT rfl rfl) rfl <| Nk [1,2,3,4,5,6,48,49,50,64,65,66] rfl <| WC.cF1 rfl <| WC.skip <| after_normal <| WC.reg1z (z := 2) rfl <| WO.U (cI (((i + 1 : Nat) : Int)) (oAdd64 rfl rfl om) om) rfl <| Um rfl rfl <| Wn <| loopR_normal <| ⟨i + 1, ⟨rfl, rfl, rfl, rfl, rfl, rfl, rfl, rfl, rfl, trivial⟩, ⟨gG, trivial⟩, ⟨om, fun j hj => ?_, om⟩, by show st.length - (i + 1) < st.length - i; omega⟩
   by_cases e : j = i
   ·rw [e, decide_eq_true (show (st.getD i default) = 0 by omega), Bool.or_true]
   ·exact hok j om
  refine WO.U (oPkT rfl rfl) rfl <| Nk [1,2,3,4,5,6,48,49,50,64,65,66] rfl <| WC.cT1 rfl <| Rg 2 rfl <| Ua rfl rfl <| Ua rfl rfl <| Wn <| WC.ret <| after_ret <| loopR_ret <| after_ret ?_
  have he : (eT ss l pl L st) = 7 := eT_7 h4 hp (by unfold aln; rw [range_all_no (i := i) om (by rw [decide_eq_false (show ¬ (ss.getD i default).1.1 = pl by omega), decide_eq_false (show ¬ (st.getD i default) = 0 by omega)]; rfl), Bool.and_false])
  have ha : (aT ss l pl L st b) = false := aT_no (by rw [he]; decide)
  rw [he, ha]
  refine post (n := 0) (.inr rfl) rfl ?_ dD
  rfl
 refine Wn <| WC.cF rfl <| WC.exits <| loopR_exit <| after_exit rfl ?_
 have he : (eT ss l pl L st) = 0 := eT_0 h4 hp (by unfold aln; rw [h39, range_take hok om]; rfl)
 have hXl := kpt_len (qf ss st pl) ss
 have hX40 : (kpt (qf ss st pl) ss).length ≤ 40 := by omega
 have hXV := kpt_vm (p := pl) hV h39
 have hSx : VSet (kpt (qf ss st pl) ss).length l = true := by rw [hXl]; exact h27
 refine Rg 6 rfl <| WO.U (oLdP (l := lvMo k ss) rfl rfl gG rfl rfl) rfl ?_
 refine Um rfl rfl <| Um rfl rfl <| WO.U (oCall rfl (fixedfor_run k ks ss st pl hV (hKN.ne hV) hst) dD) rfl <| WO.S (oAl rfl) rfl <| WO.S0 (oSt (cs' := [_]) rfl rfl rfl g0 rfl rfl rfl rfl) <| Nk [1,2,3,5,16] rfl <| Rg 1 rfl <| Ua rfl rfl <| Wn <| WC.assoc <| Rg 1 rfl <| Um rfl rfl <| WO.B (fun h72 => ?_) (fun h72 => ?_)
 rotate_left
 ·refine Wn <| WC.cF rfl <| WC.skips <| Rg 10 rfl <| Um rfl rfl <| WO.U (oLdP (l := lvMo 1 (kpt (qf ss st pl) ss)) rfl rfl gG rfl rfl) rfl ?_
  refine Um rfl rfl <| Um rfl rfl <| WO.U (oCallVD rfl rfl (can_run 1 kl (kpt (qf ss st pl) ss) l pl hXV hSx ll) (data3 d0 (by intro c hc; simp only [List.mem_cons, List.not_mem_nil, or_false] at hc; rcases hc with rfl | rfl | rfl; exact dc1; exact dc1; exact .v _) d0)) rfl <| Um rfl rfl <| WO.U (oEx rfl rfl) rfl <| WO.U (oEx rfl rfl) rfl <| Ua rfl rfl <| Ua rfl rfl <| Nk [3,18] rfl <| Rg 4 rfl <| Um rfl rfl <| WO.U (oCall rfl (sof_run (kd (fl (kpt (qf ss st pl) ss).length (gX (kpt (qf ss st pl) ss) pl (fun _ => true) (inL l))).length) (kpt (qf ss st pl) ss).length (fl (kpt (qf ss st pl) ss).length (gX (kpt (qf ss st pl) ss) pl (fun _ => true) (inL l))) hX40 (VSet_fl _ _) (by have := fl_len (kpt (qf ss st pl) ss).length (gX (kpt (qf ss st pl) ss) pl (fun _ => true) (inL l)); omega)) dD) rfl <| WO.S (oAlS rfl rfl rfl) rfl <| WO.S0 (oStS rfl rfl rfl g0 (sb_len _) rfl) <| Wn <| Rg 6 rfl <| Um rfl rfl <| WO.U (oMf rfl) rfl <| WO.U (oCallB [(n + 1 + 6 + 1 + 1 + 10 + 2)] [lvL kL L, .fn (.func 47) [] [.ro (sb (inL (fl (kpt (qf ss st pl) ss).length (gX (kpt (qf ss st pl) ss) pl (fun _ => true) (inL l)))))]] rfl (coni_run kL L 47 [.ro (sb (inL (fl (kpt (qf ss st pl) ss).length (gX (kpt (qf ss st pl) ss) pl (fun _ => true) (inL l)))))] (fun t => !inL (fl (kpt (qf ss st pl) ss).length (gX (kpt (qf ss st pl) ss) pl (fun _ => true) (inL l))) t.toNat) (dro _) om (fun a ha => attains1_run (inL (fl (kpt (qf ss st pl) ss).length (gX (kpt (qf ss st pl) ss) pl (fun _ => true) (inL l)))) a (by have := VSet_mem h33 ha; omega) (by have := VSet_mem h33 ha; omega))) (.data (dlvL _ _) (.fn .nil (.box (ob := { cells := sb (inL (fl (kpt (qf ss st pl) ss).length (gX (kpt (qf ss st pl) ss) pl (fun _ => true) (inL l)))), sz := 40, elem := (65), st := 0 }) gG (by simp) (by show (0 : Nat) ≠ 2; decide) (data_sb _) .nil) .nil)) (.cons gG (by show (0 : Nat) ≠ 2; decide) lent0)) rfl ?_
  refine WO.U (oNot rfl) rfl <| Ua rfl rfl <| Ua rfl rfl <| Wn <| WC.ret ?_
  rw [h72] at *
  rw [he, ← aT_prog he]
  refine post (n := 0) (.inr rfl) rfl ?_ dD
  rfl
 refine Wn <| WC.cT rfl <| Rg 1 rfl <| Ua rfl rfl <| Wn <| Rg 10 rfl <| Um rfl rfl <| WO.U (oLdP (l := lvMo 1 (kpt (qf ss st pl) ss)) rfl rfl gG rfl rfl) rfl ?_
 refine Um rfl rfl <| Um rfl rfl <| WO.U (oCallVD rfl rfl (must_run 1 kl (kpt (qf ss st pl) ss) l pl hXV hSx ll) (data3 d0 (by intro c hc; simp only [List.mem_cons, List.not_mem_nil, or_false] at hc; rcases hc with rfl | rfl | rfl; exact dc1; exact dc1; exact .v _) d0)) rfl <| Um rfl rfl <| WO.U (oEx rfl rfl) rfl <| WO.U (oEx rfl rfl) rfl <| Ua rfl rfl <| Ua rfl rfl <| Nk [3,18] rfl <| Rg 4 rfl <| Um rfl rfl <| WO.U (oCall rfl (sof_run (kd (fl (kpt (qf ss st pl) ss).length (mX (kpt (qf ss st pl) ss) pl (inL l))).length) (kpt (qf ss st pl) ss).length (fl (kpt (qf ss st pl) ss).length (mX (kpt (qf ss st pl) ss) pl (inL l))) hX40 (VSet_fl _ _) (by have := fl_len (kpt (qf ss st pl) ss).length (mX (kpt (qf ss st pl) ss) pl (inL l)); omega)) dD) rfl <| WO.S (oAlS rfl rfl rfl) rfl <| WO.S0 (oStS rfl rfl rfl g0 (sb_len _) rfl) <| Wn <| Rg 6 rfl <| Um rfl rfl <| WO.U (oMf rfl) rfl <| WO.U (oCallB [(n + 1 + 6 + 1 + 1 + 1 + 10 + 2)] [lvL kL L, .fn (.func 47) [] [.ro (sb (inL (fl (kpt (qf ss st pl) ss).length (mX (kpt (qf ss st pl) ss) pl (inL l)))))]] rfl (coni_run kL L 47 [.ro (sb (inL (fl (kpt (qf ss st pl) ss).length (mX (kpt (qf ss st pl) ss) pl (inL l)))))] (fun t => !inL (fl (kpt (qf ss st pl) ss).length (mX (kpt (qf ss st pl) ss) pl (inL l))) t.toNat) (dro _) om (fun a ha => attains1_run (inL (fl (kpt (qf ss st pl) ss).length (mX (kpt (qf ss st pl) ss) pl (inL l)))) a (by have := VSet_mem h33 ha; omega) (by have := VSet_mem h33 ha; omega))) (.data (dlvL _ _) (.fn .nil (.box (ob := { cells := sb (inL (fl (kpt (qf ss st pl) ss).length (mX (kpt (qf ss st pl) ss) pl (inL l)))), sz := 40, elem := (65), st := 0 }) gG (by simp) (by show (0 : Nat) ≠ 2; decide) (data_sb _) .nil) .nil)) (.cons gG (by show (0 : Nat) ≠ 2; decide) lent0)) rfl ?_
 refine WO.U (oNot rfl) rfl <| Ua rfl rfl <| Ua rfl rfl <| Wn <| WC.ret ?_
 rw [h72] at *
 rw [he, ← aT_prog he]
 refine post (n := 0) (.inr rfl) rfl ?_ dD
 rfl
end Go.Proofs.YthpnlndhebcngaaGreat
set_option linter.unusedVariables false
set_option linter.unusedSimpArgs false
set_option maxRecDepth 100000
set_option maxHeartbeats 16000000
namespace Go.Proofs.YthpnlndhebcngaaGreat
open Go.Ab Go.RowKit
theorem lsub_run (ka kb : Nat) (a b : List Int) (ha : ∀ t, t ∈ a → 0 ≤ t) (la : a.length < 1099511627776) (lb : b.length < 1099511627776) : Run Tryz.prog T E0 (.call 23 [lvL ka a, lvL kb b] (.v (.bool (sbt a b)))) := by
 refine mkcall Tryz.func23 rfl rfl (Nat.le_of_ble_eq_true rfl) <| Rg 1 rfl <| Ua rfl rfl <| Wn <| WC.assoc <| Rg 3 rfl <| Um rfl rfl <| WO.U (oLenM rfl rfl) rfl <| Um rfl rfl <| Wn <| WC.block <| WC.loopV (α := Nat) (fun i => [(1, lvL kb b), (7, lvL ka a), (8, .v (.int .i64 (a.length : Int))), (9, .v (.int .i64 (i : Int)))]) (fun i => []) (fun i n => i ≤ a.length ∧ (a.take i).all (fun s => inL b s.toNat) = true) (fun i => a.length - i) (0) ⟨rfl, rfl, rfl, rfl, trivial⟩ trivial ⟨Nat.zero_le _, by simp⟩ ?_
 rintro i n hF
 change WC _ _ _ _ _ (_ :: _) ([]) n _
 obtain ⟨hi, hok⟩ := hF
 refine Rg 1 rfl <| WO.U (oLss rfl rfl) rfl <| WO.D (fun h10 => ?_) (fun h10 => ?_)
 rotate_left
 ·refine Wn <| WC.cF rfl <| WC.exits <| loopR_exit <| after_exit rfl <| Rg 1 rfl <| Ua rfl rfl <| Wn <| WC.ret <| post (n := 0) (.inr rfl) rfl ?_ dD
  exact congrArg (fun z => LV.v (.bool z)) (show true = sbt a b by unfold sbt; rw [all_yes hok om])
 refine Wn <| WC.cT rfl <| WC.skips <| WC.block ?_
 have h0 := ha _ (getD_mem (us := a) (i := i) om)
 refine Rg 3 rfl <| WO.U (oIxM rfl rfl rfl rfl rfl om rfl) rfl <| WO.U (cI (((a.getD i default).toNat : Int)) (oLd rfl rfl rfl) om) rfl <| Ua rfl rfl <| Wn <| Rg 4 rfl <| Um rfl rfl <| Um rfl rfl <| WO.U (oCall rfl (qin_run kb b (a.getD i default).toNat lb) dD) rfl <| WO.B (fun h15 => ?_) (fun h15 => ?_)
 ·refine WO.U (oNot rfl) rfl <| Wn <| WC.cF1 rfl <| WC.skip <| after_normal <| WC.reg1z (z := 2) rfl <| WO.U (cI (((i + 1 : Nat) : Int)) (oAdd64 rfl rfl om) om) rfl <| Um rfl rfl <| Wn <| loopR_normal <| ⟨i + 1, ⟨rfl, rfl, rfl, rfl, trivial⟩, trivial, ⟨om, take_all hok om h15⟩, by show a.length - (i + 1) < a.length - i; omega⟩
 refine WO.U (oNot rfl) rfl <| Wn <| WC.cT1 rfl <| Rg 1 rfl <| Ua rfl rfl <| Wn <| WC.ret <| after_ret <| loopR_ret <| after_ret <| post (n := 0) (.inr rfl) rfl ?_ dD
 exact congrArg (fun z => LV.v (.bool z)) (show false = sbt a b by unfold sbt; rw [all_no (us := a) (i := i) om h15])
theorem lalike_run (k k' : Nat) (ss ss' : List Go.Ab.ST) (hw : WL ss) (hw' : WL ss') : ∃ r, Run Tryz.prog T E0 (.call 26 [lvMo k ss, lvMo k' ss'] r) ∧ ∃ v, r = .v (.bool v) ∧ (v = true → Alk ss ss') := by
 have hn40 := hw.wt.len
 refine mkcallE Tryz.func26 rfl rfl (Nat.le_of_ble_eq_true rfl) <| Rg 3 rfl <| WO.S (oBx rfl rfl) rfl <| WO.S (oBx rfl rfl) rfl <| Ua rfl rfl <| Wn <| WC.assoc <| Rg 7 rfl <| WO.U (oFaP rfl rfl rfl rfl rfl) rfl <| WO.U (oLdP rfl rfl gG rfl rfl) rfl ?_
 refine WO.U (oLenM rfl rfl) rfl <| WO.U (oFaP rfl rfl rfl rfl rfl) rfl <| WO.U (oLdP rfl rfl gG rfl rfl) rfl ?_
 refine WO.U (oLenM rfl rfl) rfl <| WO.U (oNeq rfl rfl) rfl <| WO.D (fun h19 => ?_) (fun h19 => ?_)
 ·refine Wn <| WC.cT rfl <| WC.assoc <| Rg 1 rfl <| Ua rfl rfl <| Wn <| WC.rets <| ⟨_, ⟨false, rfl, fun h => by cases h⟩, post (n := 0) (.inr rfl) rfl rfl (.v _)⟩
 refine Wn <| WC.cF rfl <| WC.skips <| WC.assoc <| Rg 4 rfl <| WO.U (oFaP rfl rfl rfl rfl rfl) rfl <| WO.U (oLdP rfl rfl gG rfl rfl) rfl ?_
 refine WO.U (oLenM rfl rfl) rfl <| Um rfl rfl <| Nk [3,21,22,23] rfl <| WC.block <| WC.loopV (α := Nat) (fun i => [(3, .ptr (0 + 1) 0), (21, .sl k (ss.map stc)), (22, .v (.int .i64 (ss.length : Int))), (23, .v (.int .i64 (i : Int)))]) (fun i => [((0 + 1), { cells := [.sl k' (ss'.map stc)], sz := 1, elem := (24), st := 0 }), (0, { cells := [.sl k (ss.map stc)], sz := 1, elem := (24), st := 0 })]) (fun i n => i ≤ ss.length ∧ (∀ s, s < i → (ss.getD s default).1.1 = (ss'.getD s default).1.1 ∧ (ss.getD s default).2.2.map tos = (ss'.getD s default).2.2.map tos) ∧ 2 < n) (fun i => ss.length - i) (0) ⟨rfl, rfl, rfl, rfl, trivial⟩ ⟨gG, gG, trivial⟩ ⟨Nat.zero_le _, fun s hs => absurd hs om, om⟩ ?_
 rintro i n hF
 change WC _ _ _ _ _ (_ :: _) (_ :: _) n _
 obtain ⟨hi, hA, hn⟩ := hF
 obtain ⟨nA, hnA⟩ : ∃ z, z = n := ⟨n, rfl⟩
 subst hnA
 refine Rg 1 rfl <| WO.U (oLss rfl rfl) rfl <| WO.D (fun h24 => ?_) (fun h24 => ?_)
 rotate_left
 ·refine Wn <| WC.cF rfl <| WC.exits <| loopR_exit <| after_exit rfl <| Rg 1 rfl <| Ua rfl rfl <| Wn <| WC.ret <| ⟨_, ⟨true, rfl, fun _ => ⟨om, fun s hs => (hA s om).1, fun s hs => (hA s om).2⟩⟩, post (n := 0) (.inr rfl) rfl rfl (.v _)⟩
 refine Wn <| WC.cT rfl <| WC.skips <| WC.block ?_
 have hm := getD_mem (us := ss) (i := i) om
 have hml := hw.hl _ hm
 refine Rg 6 rfl <| Um rfl rfl <| WO.U (oIxM rfl rfl rfl rfl rfl om rfl) rfl <| WO.U (oLd (l := .agg (stc (ss.getD i default))) rfl rfl rfl) rfl <| WO.S (oAl rfl) rfl <| Ua rfl rfl <| WO.S0 (oSt (cs' := stc (ss.getD i default)) rfl rfl rfl g0 rfl rfl rfl rfl) <| Wn <| Rg 7 rfl <| WO.U (oFaP rfl rfl rfl rfl rfl) rfl <| WO.U (oLdP rfl rfl gG rfl rfl) rfl ?_
 refine Um rfl rfl <| WO.U (oIxM (j := i) rfl rfl rfl rfl om om rfl) rfl <| WO.U (oLd (l := .agg (stc (ss'.getD i default))) rfl rfl rfl) rfl <| WO.S (oAl rfl) rfl <| WO.S0 (oSt (cs' := stc (ss'.getD i default)) rfl rfl rfl g0 rfl rfl rfl rfl) <| Nk [3,6,7,21,22,23] rfl <| WC.assoc <| Rg 14 rfl <| WO.U (oFaP rfl rfl rfl rfl rfl) rfl <| WO.U (oLdP rfl rfl gG rfl rfl) rfl ?_
 refine WO.U (oFaP rfl rfl rfl rfl rfl) rfl <| WO.U (oLdP rfl rfl gG rfl rfl) rfl ?_
 refine WO.U (oNeq rfl rfl) rfl <| WO.D (fun h37 => ?_) (fun h37 => ?_)
 ·refine Um rfl rfl <| K1 rfl rfl <| K1 rfl rfl <| K1 rfl rfl <| K1 rfl rfl <| K1 rfl rfl <| K1 rfl rfl <| K1 rfl rfl <| WO.U (oPkT rfl rfl) rfl <| Nk [3,6,7,21,22,23,39,40,41,42,43,44,45,46] rfl <| WC.cT rfl <| WC.assoc <| Rg 1 rfl <| Ua rfl rfl <| Nk [4] rfl <| WC.rets <| after_ret <| loopR_ret <| after_ret <| ⟨_, ⟨false, rfl, fun h => by cases h⟩, post (n := 0) (.inr rfl) rfl rfl (.v _)⟩
 refine Um rfl rfl <| WO.Ug rfl (oFaP rfl rfl rfl rfl rfl) rfl <| WO.Ug rfl (oLdP rfl rfl gG rfl rfl) rfl ?_
 refine WO.Ug rfl (oLenM rfl rfl) rfl <| WO.Ug rfl (oFaP rfl rfl rfl rfl rfl) rfl <| WO.Ug rfl (oLdP rfl rfl gG rfl rfl) rfl ?_
 refine WO.Ug rfl (oLenM rfl rfl) rfl <| WO.Ug rfl (oNeq rfl rfl) rfl <| WO.D (fun h45 => ?_) (fun h45 => ?_)
 ·refine WO.U (oPkF rfl rfl) rfl <| Nk [3,6,7,21,22,23,39,40,41,42,43,44,45,46] rfl <| WC.cT rfl <| WC.assoc <| Rg 1 rfl <| Ua rfl rfl <| Nk [4] rfl <| WC.rets <| after_ret <| loopR_ret <| after_ret <| ⟨_, ⟨false, rfl, fun h => by cases h⟩, post (n := 0) (.inr rfl) rfl rfl (.v _)⟩
 refine WO.U (oPkF rfl rfl) rfl <| Nk [3,6,7,21,22,23,39,40,41,42,43,44,45,46] rfl <| WC.cF rfl <| WC.skips <| Rg 4 rfl <| WO.U (oFaP rfl rfl rfl rfl rfl) rfl <| WO.U (oLdP rfl rfl gG rfl rfl) rfl ?_
 refine WO.U (oLenM rfl rfl) rfl <| Um rfl rfl <| Nk [3,7,21,22,23,39,40,41,42,43,44,45,48,49,50] rfl <| WC.block1 <| WC.loopV (α := Nat) (fun j => [(3, .ptr (0 + 1) 0), (7, .ptr (nA + 1 + 6 + 5) 0), (21, .sl k (ss.map stc)), (22, .v (.int .i64 (ss.length : Int))), (23, .v (.int .i64 (i : Int))), (48, .sl (ss.getD i default).2.1 ((ss.getD i default).2.2.map chc)), (49, .v (.int .i64 ((ss.getD i default).2.2.length : Int))), (50, .v (.int .i64 (j : Int)))]) (fun j => [((nA + 1 + 6 + 5), { cells := stc (ss'.getD i default), sz := 3, elem := (59), st := 0 }), ((nA + 1 + 3), { cells := stc (ss.getD i default), sz := 3, elem := (59), st := 0 }), ((0 + 1), { cells := [.sl k' (ss'.map stc)], sz := 1, elem := (24), st := 0 }), (0, { cells := [.sl k (ss.map stc)], sz := 1, elem := (24), st := 0 })]) (fun j n => j ≤ (ss.getD i default).2.2.length ∧ (∀ c, c < j → tos ((ss.getD i default).2.2.getD c default) = tos ((ss'.getD i default).2.2.getD c default)) ∧ nA + 18 ≤ n) (fun j => (ss.getD i default).2.2.length - j) (0) ⟨rfl, rfl, rfl, rfl, rfl, rfl, rfl, rfl, trivial⟩ ⟨gG, gG, gG, gG, trivial⟩ ⟨Nat.zero_le _, fun s hs => absurd hs om, om⟩ ?_
 rintro j n hF
 change WC _ _ _ _ _ (_ :: _) (_ :: _) n _
 obtain ⟨hj, hB, hn2⟩ := hF
 obtain ⟨nB, hnB⟩ : ∃ z, z = n := ⟨n, rfl⟩
 subst hnB
 refine Rg 1 rfl <| WO.U (oLss rfl rfl) rfl <| WO.D (fun h51 => ?_) (fun h51 => ?_)
 rotate_left
 ·refine Wn <| WC.cF rfl <| WC.exits <| loopR_exit <| after0_exit rfl <| after_normal <| WC.reg1z (z := 2) rfl <| WO.U (cI (((i + 1 : Nat) : Int)) (oAdd64 rfl rfl om) om) rfl <| Um rfl rfl <| Wn <| loopR_normal <| ⟨i + 1, ⟨rfl, rfl, rfl, rfl, trivial⟩, ⟨gG, gG, trivial⟩, ⟨om, fun s hs => ?_, om⟩, by show ss.length - (i + 1) < ss.length - i; omega⟩
  by_cases e : s = i
  ·subst e; exact ⟨om, css_eq om fun c hc => hB c om⟩
  ·exact hA s om
 refine Wn <| WC.cT rfl <| WC.skips <| WC.block ?_
 have hmc := getD_mem (us := (ss.getD i default).2.2) (i := j) om
 have hcl := hml.2 _ hmc
 refine Rg 6 rfl <| Um rfl rfl <| WO.U (oIxM rfl rfl rfl rfl rfl om rfl) rfl <| WO.U (oLd (l := lvC ((ss.getD i default).2.2.getD j default)) rfl rfl rfl) rfl <| WO.S (oAl rfl) rfl <| Ua rfl rfl <| WO.S0 (oSt (cs' := chc ((ss.getD i default).2.2.getD j default)) rfl rfl rfl g0 rfl rfl rfl rfl) <| Wn <| Rg 7 rfl <| WO.U (oFaP rfl rfl rfl rfl rfl) rfl <| WO.U (oLdP rfl rfl gG rfl rfl) rfl ?_
 refine Um rfl rfl <| WO.U (oIxM (j := j) rfl rfl rfl rfl om om rfl) rfl <| WO.U (oLd (l := lvC ((ss'.getD i default).2.2.getD j default)) rfl rfl rfl) rfl <| WO.S (oAl rfl) rfl <| WO.S0 (oSt (cs' := chc ((ss'.getD i default).2.2.getD j default)) rfl rfl rfl g0 rfl rfl rfl rfl) <| Nk [3,7,9,10,21,22,23,48,49,50] rfl <| WC.assoc <| Rg 7 rfl <| WO.U (oFaP rfl rfl rfl rfl rfl) rfl <| WO.U (oLdP rfl rfl gG rfl rfl) rfl ?_
 refine WO.U (oLenM rfl rfl) rfl <| WO.U (oFaP rfl rfl rfl rfl rfl) rfl <| WO.U (oLdP rfl rfl gG rfl rfl) rfl ?_
 refine WO.U (oLenM rfl rfl) rfl <| WO.U (oNeq rfl rfl) rfl <| WO.D (fun h66 => ?_) (fun h66 => ?_)
 ·refine Nk [3,7,9,10,21,22,23,48,49,50,66] rfl <| WC.cT rfl <| WC.assoc <| Rg 1 rfl <| Ua rfl rfl <| Wn <| WC.rets <| after_ret <| loopR_ret <| after0_ret <| after_ret <| loopR_ret <| after_ret <| ⟨_, ⟨false, rfl, fun h => by cases h⟩, post (n := 0) (.inr rfl) rfl rfl (.v _)⟩
 refine Nk [3,7,9,10,21,22,23,48,49,50,66] rfl <| WC.cF rfl <| WC.skips <| Rg 4 rfl <| WO.U (oFaP rfl rfl rfl rfl rfl) rfl <| WO.U (oLdP rfl rfl gG rfl rfl) rfl ?_
 refine WO.U (oLenM rfl rfl) rfl <| Um rfl rfl <| Nk [3,7,10,21,22,23,48,49,50,68,69,70] rfl <| WC.block1 <| WC.loopV (α := Nat) (fun u => [(3, .ptr (0 + 1) 0), (7, .ptr (nA + 1 + 6 + 5) 0), (10, .ptr (nB + 1 + 6 + 5) 0), (21, .sl k (ss.map stc)), (22, .v (.int .i64 (ss.length : Int))), (23, .v (.int .i64 (i : Int))), (48, .sl (ss.getD i default).2.1 ((ss.getD i default).2.2.map chc)), (49, .v (.int .i64 ((ss.getD i default).2.2.length : Int))), (50, .v (.int .i64 (j : Int))), (68, .sl ((ss.getD i default).2.2.getD j default).2.1 (((ss.getD i default).2.2.getD j default).2.2.map brc)), (69, .v (.int .i64 (((ss.getD i default).2.2.getD j default).2.2.length : Int))), (70, .v (.int .i64 (u : Int)))]) (fun u => [((nB + 1 + 6 + 5), { cells := chc ((ss'.getD i default).2.2.getD j default), sz := 3, elem := (73), st := 0 }), ((nB + 1 + 3), { cells := chc ((ss.getD i default).2.2.getD j default), sz := 3, elem := (73), st := 0 }), ((nA + 1 + 6 + 5), { cells := stc (ss'.getD i default), sz := 3, elem := (59), st := 0 }), ((nA + 1 + 3), { cells := stc (ss.getD i default), sz := 3, elem := (59), st := 0 }), ((0 + 1), { cells := [.sl k' (ss'.map stc)], sz := 1, elem := (24), st := 0 }), (0, { cells := [.sl k (ss.map stc)], sz := 1, elem := (24), st := 0 })]) (fun u n => u ≤ ((ss.getD i default).2.2.getD j default).2.2.length ∧ (∀ t, t < u → (((ss.getD i default).2.2.getD j default).2.2.getD t default).1 = (((ss'.getD i default).2.2.getD j default).2.2.getD t default).1) ∧ nB + 18 ≤ n) (fun u => ((ss.getD i default).2.2.getD j default).2.2.length - u) (0) ⟨rfl, rfl, rfl, rfl, rfl, rfl, rfl, rfl, rfl, rfl, rfl, rfl, trivial⟩ ⟨gG, gG, gG, gG, gG, gG, trivial⟩ ⟨Nat.zero_le _, fun s hs => absurd hs om, om⟩ ?_
 rintro u n hF
 change WC _ _ _ _ _ (_ :: _) (_ :: _) n _
 obtain ⟨hu, hC, hn3⟩ := hF
 refine Rg 1 rfl <| WO.U (oLss rfl rfl) rfl <| WO.D (fun h71 => ?_) (fun h71 => ?_)
 rotate_left
 ·refine Wn <| WC.cF rfl <| WC.exits <| loopR_exit <| after0_exit rfl <| after_normal <| WC.reg1z (z := 2) rfl <| WO.U (cI (((j + 1 : Nat) : Int)) (oAdd64 rfl rfl om) om) rfl <| Um rfl rfl <| Wn <| loopR_normal <| ⟨j + 1, ⟨rfl, rfl, rfl, rfl, rfl, rfl, rfl, rfl, trivial⟩, ⟨gG, gG, gG, gG, trivial⟩, ⟨om, fun c hc => ?_, om⟩, by show (ss.getD i default).2.2.length - (j + 1) < (ss.getD i default).2.2.length - j; omega⟩
  by_cases e : c = j
  ·subst e; exact tos_eq om fun t ht => hC t om
  ·exact hB c om
 refine Wn <| WC.cT rfl <| WC.skips <| WC.block <| Rg 6 rfl <| Um rfl rfl <| WO.U (oIxM rfl rfl rfl rfl rfl om rfl) rfl <| WO.U (oLd (l := .agg (brc (((ss.getD i default).2.2.getD j default).2.2.getD u default))) rfl rfl rfl) rfl <| WO.S (oAl rfl) rfl <| Ua rfl rfl <| WO.S0 (oSt (cs' := brc (((ss.getD i default).2.2.getD j default).2.2.getD u default)) rfl rfl rfl g0 rfl rfl rfl rfl) <| Nk [3,7,10,11,12,21,22,23,48,49,50,68,69,70] rfl <| WC.draw (z := 9) rfl (by kernel_rfl) <| WD.U (oFaP rfl rfl rfl rfl rfl) rfl <| WD.U (oLdP rfl rfl g0 rfl rfl) rfl <| WD.U (oFaP rfl rfl rfl rfl rfl) rfl <| WD.U (oLdP rfl rfl gG rfl rfl) rfl ?_
 refine Dm rfl rfl <| WD.U (oIxM (j := u) rfl rfl rfl rfl om om rfl) rfl <| WD.U (oFa rfl rfl rfl rfl rfl) rfl <| WD.U (oLd rfl rfl rfl) rfl <| WD.U (oNeq rfl rfl) rfl <| WD.D (fun h83 => ?_) (fun h83 => ?_)
 rotate_left
 ·refine WD.nil (drawOk_of (by kernel_rfl)) rfl <| Ck [3,7,10,21,22,23,48,49,50,68,69,70,83] rfl <| WC.cF1 rfl <| WC.skip <| after_normal <| WC.reg1z (z := 2) rfl <| WO.U (cI (((u + 1 : Nat) : Int)) (oAdd64 rfl rfl om) om) rfl <| Um rfl rfl <| Wn <| loopR_normal <| ⟨u + 1, ⟨rfl, rfl, rfl, rfl, rfl, rfl, rfl, rfl, rfl, rfl, rfl, rfl, trivial⟩, ⟨gG, gG, gG, gG, gG, gG, trivial⟩, ⟨om, fun t ht => ?_, om⟩, by show ((ss.getD i default).2.2.getD j default).2.2.length - (u + 1) < ((ss.getD i default).2.2.getD j default).2.2.length - u; omega⟩
  by_cases e : t = u
  ·subst e; omega
  ·exact hC t om
 refine WD.nil (drawOk_of (by kernel_rfl)) rfl <| Ck [3,7,10,21,22,23,48,49,50,68,69,70,83] rfl <| WC.cT1 rfl <| Rg 1 rfl <| Ua rfl rfl <| Wn <| WC.ret <| after_ret <| loopR_ret <| after0_ret <| after_ret <| loopR_ret <| after0_ret <| after_ret <| loopR_ret <| after_ret <| ⟨_, ⟨false, rfl, fun h => by cases h⟩, post (n := 0) (.inr rfl) rfl rfl (.v _)⟩
theorem sureLaws_run (k k' kl km kL ks : Nat) (ss ss' : List Go.Ab.ST) (l M : List Int) (pl : Int) (L st : List Int) (hI : ∀ s, s ∈ ss → IS s) (hI' : ∀ s, s ∈ ss' → IS s) (hKN : KN ss) : Run Tryz.prog T E0 (.call 5 [lvMo k ss, lvMo k' ss', lvL kl l, lvL km M, .v (.int .i64 pl), lvL kL L, lvL ks st] (.v (.bool true))) := by
 refine mkcall Tryz.func5 rfl rfl (Nat.le_of_ble_eq_true rfl) ?_
 have J24 : ∀  (n : Nat) (hE : eA ss l pl = 0) (ll : l.length < 1099511627776) (hLL : L.length < 1099511627776) (hsl : st.length < 1099511627776), WC Tryz.prog T E0 Tryz.f5.ntmps (codeR (codeR (codeR (codeR (codeR (codeR (codeR (codeR (codeR (codeR (codeR (codeR (codeOf Tryz.f5))))))))))))) [(2, lvL kl l), (4, .v (.int .i64 pl)), (7, .ptr 0 0), (8, .ptr (0 + 1) 0), (15, lvL (kd (fl ss.length (gX ss pl (fun _ => true) (inL l))).length) (fl ss.length (gX ss pl (fun _ => true) (inL l)))), (18, lvL (kd (fl ss.length (mX ss pl (inL l))).length) (fl ss.length (mX ss pl (inL l))))] [((0 + 1), { cells := [.sl k' (ss'.map stc)], sz := 1, elem := (24), st := 0 }), (0, { cells := [.sl k (ss.map stc)], sz := 1, elem := (24), st := 0 })] n (Post T Tryz.f5.results.toList (.v (.bool true))) := by
  intro  n hE ll hLL hsl
  obtain ⟨hvm, hset, hp⟩ := eA_ok hE
  have hV := VMo_1 hvm
  have hn40 := hV.wt.len
  have hgl : ∀ s, inL l s = true → s < ss.length := fun s hs => inL_lt hset hs
  refine WC.assoc <| Rg 9 rfl <| WO.U (oLdP (l := lvMo k' ss') rfl rfl gG rfl rfl) rfl ?_
  refine WO.U (oCall rfl (qvmodel_run k' ss' hI') dD) rfl <| WO.B (fun h211 => ?_) (fun h211 => ?_)
  rotate_left
  ·refine WO.U (oNot rfl) rfl <| Um rfl rfl <| K1 rfl rfl <| K1 rfl rfl <| K1 rfl rfl <| K1 rfl rfl <| WO.U (oPkT rfl rfl) rfl <| Nk [2,4,8,15,18,218] rfl <| WC.cT rfl <| WC.assoc <| Rg 2 rfl <| WO.U (oCall rfl (awake_run) dD) rfl <| Ua rfl rfl <| Wn <| WC.rets ?_
   exact post (n := 0) (.inr rfl) rfl rfl (by simp)
  have hV' := VMo_1 h211
  obtain ⟨ra, hra, va, rfl, hva⟩ := lalike_run k k' ss ss' hV.wl hV'.wl
  refine WO.U (oNot rfl) rfl <| Um rfl rfl <| WO.Ug rfl (oLdP (l := lvMo k ss) rfl rfl gG rfl rfl) rfl ?_
  refine WO.Ug rfl (oLdP (l := lvMo k' ss') rfl rfl gG rfl rfl) rfl ?_
  refine WO.Ug rfl (oCall rfl hra (allData_of (by intro c hc; simp only [List.mem_cons, List.not_mem_nil, or_false] at hc; rcases hc with rfl | rfl; exact dc1; exact dc1))) rfl <| WO.B (fun h216 => ?_) (fun h216 => ?_)
  rotate_left
  ·refine WO.Ug rfl (oNot rfl) rfl <| WO.U (oPkF rfl rfl) rfl <| Nk [2,4,8,15,18,218] rfl <| WC.cT rfl <| WC.assoc <| Rg 2 rfl <| WO.U (oCall rfl (awake_run) dD) rfl <| Ua rfl rfl <| Wn <| WC.rets ?_
   exact post (n := 0) (.inr rfl) rfl rfl (by simp)
  have hA := hva h216
  refine WO.Ug rfl (oNot rfl) rfl <| WO.U (oPkF rfl rfl) rfl <| Nk [2,4,8,15,18,218] rfl <| WC.cF rfl <| WC.skips <| Rg 10 rfl <| WO.U (oLdP (l := lvMo k' ss') rfl rfl gG rfl rfl) rfl ?_
  refine Um rfl rfl <| Um rfl rfl <| WO.U (OP.cast (b := .tup [lvL (kd (fl ss.length (gX ss pl (fun _ => true) (inL l))).length) (fl ss.length (gX ss pl (fun _ => true) (inL l))), lvG 1 ss.length (gC ss' pl (fun _ => true) (inL l)), .v (.int .i64 0)]) (oCall rfl (mpossible_run k' kl ss' l pl hI' ll) (allData_of (by intro c hc; simp only [List.mem_cons, List.not_mem_nil, or_false] at hc; rcases hc with rfl | rfl | rfl; exact dc1; exact dc1; exact .v _))) (by rw [if_pos (eA_other hE h211 hA.len), ← hA.gX, ← hA.len])) rfl <| Um rfl rfl <| WO.U (oEx rfl rfl) rfl <| WO.U (oEx rfl rfl) rfl <| WO.U (oEx rfl rfl) rfl <| Ua rfl rfl <| Ua rfl rfl <| Nk [2,4,8,15,18,26,28] rfl <| Rg 10 rfl <| WO.U (oLdP (l := lvMo k' ss') rfl rfl gG rfl rfl) rfl ?_
  refine Um rfl rfl <| Um rfl rfl <| WO.U (OP.cast (b := .tup [lvL (kd (fl ss.length (mX ss pl (inL l))).length) (fl ss.length (mX ss pl (inL l))), lvG 1 ss.length (mC ss' pl (inL l)), .v (.int .i64 0)]) (oCall rfl (msure_run k' kl ss' l pl hI' ll) (allData_of (by intro c hc; simp only [List.mem_cons, List.not_mem_nil, or_false] at hc; rcases hc with rfl | rfl | rfl; exact dc1; exact dc1; exact .v _))) (by rw [if_pos (eA_other hE h211 hA.len), ← hA.mX, ← hA.len])) rfl <| Um rfl rfl <| WO.U (oEx rfl rfl) rfl <| WO.U (oEx rfl rfl) rfl <| WO.U (oEx rfl rfl) rfl <| Ua rfl rfl <| Ua rfl rfl <| Nk [15,18,26,28,29,31] rfl <| Rg 20 rfl <| Um rfl rfl <| WO.U (OP.cast (b := .v (.bool true)) (oEql rfl rfl) (by exact congrArg (fun z => LV.v (.bool z)) (decide_eq_true rfl))) rfl <| Um rfl rfl <| WO.Ug rfl (oMv rfl) rfl <| WO.Ug rfl (OP.cast (b := .v (.bool true)) (oEql rfl rfl) (by exact congrArg (fun z => LV.v (.bool z)) (decide_eq_true rfl))) rfl <| WO.U (oPkT rfl rfl) rfl <| Um rfl rfl <| WO.Ug rfl (oMv rfl) rfl <| WO.Ug rfl (oMv rfl) rfl <| WO.Ug rfl (OP.cast (b := .v (.bool true)) (oCall rfl (leq_run (kd (fl ss.length (gX ss pl (fun _ => true) (inL l))).length) (kd (fl ss.length (gX ss pl (fun _ => true) (inL l))).length) (fl ss.length (gX ss pl (fun _ => true) (inL l))) (fl ss.length (gX ss pl (fun _ => true) (inL l))) (by have := fl_len ss.length (gX ss pl (fun _ => true) (inL l)); omega)) (allData_of (by intro c hc; simp only [List.mem_cons, List.not_mem_nil, or_false] at hc; rcases hc with rfl | rfl; exact dlvL _ _; exact dlvL _ _))) (by exact congrArg (fun z => LV.v (.bool z)) (decide_eq_true rfl))) rfl <| WO.U (oPkT rfl rfl) rfl <| Um rfl rfl ?_
  refine WO.Ug rfl (oMv rfl) rfl <| WO.Ug rfl (oMv rfl) rfl <| WO.Ug rfl (OP.cast (b := .v (.bool true)) (oCall rfl (leq_run (kd (fl ss.length (mX ss pl (inL l))).length) (kd (fl ss.length (mX ss pl (inL l))).length) (fl ss.length (mX ss pl (inL l))) (fl ss.length (mX ss pl (inL l))) (by have := fl_len ss.length (mX ss pl (inL l)); omega)) (allData_of (by intro c hc; simp only [List.mem_cons, List.not_mem_nil, or_false] at hc; rcases hc with rfl | rfl; exact dlvL _ _; exact dlvL _ _))) (by exact congrArg (fun z => LV.v (.bool z)) (decide_eq_true rfl))) rfl <| WO.U (oPkT rfl rfl) rfl <| Um rfl rfl <| WO.Ug rfl (oCall rfl (awake_run) dD) rfl <| WO.U (oPkT rfl rfl) rfl <| Ua rfl rfl <| Nk [14] rfl <| WC.ret <| post (n := 0) (.inr rfl) rfl ?_ dD
  rfl
 have J21 : ∀  (n : Nat) (hE : eA ss l pl = 0) (ll : l.length < 1099511627776) (hLL : L.length < 1099511627776) (hsl : st.length < 1099511627776), WC Tryz.prog T E0 Tryz.f5.ntmps (codeR (codeR (codeR (codeR (codeR (codeR (codeR (codeR (codeR (codeR (codeR (codeOf Tryz.f5)))))))))))) [(2, lvL kl l), (4, .v (.int .i64 pl)), (5, lvL kL L), (6, lvL ks st), (7, .ptr 0 0), (8, .ptr (0 + 1) 0), (15, lvL (kd (fl ss.length (gX ss pl (fun _ => true) (inL l))).length) (fl ss.length (gX ss pl (fun _ => true) (inL l)))), (18, lvL (kd (fl ss.length (mX ss pl (inL l))).length) (fl ss.length (mX ss pl (inL l))))] [((0 + 1), { cells := [.sl k' (ss'.map stc)], sz := 1, elem := (24), st := 0 }), (0, { cells := [.sl k (ss.map stc)], sz := 1, elem := (24), st := 0 })] n (Post T Tryz.f5.results.toList (.v (.bool true))) := by
  intro  n hE ll hLL hsl
  obtain ⟨hvm, hset, hp⟩ := eA_ok hE
  have hV := VMo_1 hvm
  have hn40 := hV.wt.len
  have hgl : ∀ s, inL l s = true → s < ss.length := fun s hs => inL_lt hset hs
  refine WC.assoc <| Rg 11 rfl <| WO.U (oLdP (l := lvMo k ss) rfl rfl gG rfl rfl) rfl ?_
  refine Um rfl rfl <| Um rfl rfl <| Um rfl rfl <| Um rfl rfl <| WO.U (oCall rfl (attains_run k kl kL ks ss l pl L st false hI hKN ll hLL hsl) (allData_of (by intro c hc; simp only [List.mem_cons, List.not_mem_nil, or_false] at hc; rcases hc with rfl | rfl | rfl | rfl | rfl | rfl; exact dc1; exact dc1; exact .v _; exact dc1; exact dc1; exact .v _))) rfl <| Um rfl rfl <| WO.U (oEx rfl rfl) rfl <| WO.B (fun h197 => ?_) (fun h197 => ?_)
  ·refine WO.U (oEx rfl rfl) rfl <| Ua rfl rfl <| Ua rfl rfl <| Nk [2,4,5,7,8,15,18,34,35] rfl <| WC.assoc <| Rg 11 rfl <| Um rfl rfl <| WO.U (oEql rfl rfl) rfl <| WO.D (fun h200 => ?_) (fun h200 => ?_)
   ·refine Um rfl rfl <| WO.Ug rfl (oMv rfl) rfl <| WO.U (oPkT rfl rfl) rfl <| Um rfl rfl <| WO.Ug rfl (oMv rfl) rfl <| WO.Ug rfl (oMv rfl) rfl <| WO.Ug rfl (OP.cast (b := .v (.bool true)) (oCall rfl (lsub_run kL (kd (fl ss.length (gX ss pl (fun _ => true) (inL l))).length) L (fl ss.length (gX ss pl (fun _ => true) (inL l))) (fun t ht => (VSet_mem (eT_ok h200).1.2.2.1 ht).1) hLL (by have := fl_len ss.length (gX ss pl (fun _ => true) (inL l)); omega)) (allData_of (by intro c hc; simp only [List.mem_cons, List.not_mem_nil, or_false] at hc; rcases hc with rfl | rfl; exact dlvL _ _; exact dlvL _ _))) (by exact congrArg (fun z => LV.v (.bool z)) (sbt_atn h200 h197))) rfl <| WO.Ug rfl (oNot rfl) rfl <| WO.U (oPkT rfl rfl) rfl <| Nk [2,4,7,8,15,18,209] rfl <| WC.cF rfl <| WC.skips <| Ck [2,4,7,8,15,18] rfl ?_
    exact WC.weakM [((0 + 1), { cells := [.sl k' (ss'.map stc)], sz := 1, elem := (24), st := 0 }), (0, { cells := [.sl k (ss.map stc)], sz := 1, elem := (24), st := 0 })] ⟨gG, gG, trivial⟩ (J24 _ hE ll hLL hsl)
   refine Um rfl rfl <| K1 rfl rfl <| WO.U (oPkF rfl rfl) rfl <| Um rfl rfl <| K1 rfl rfl <| K1 rfl rfl <| K1 rfl rfl <| K1 rfl rfl <| WO.U (oPkF rfl rfl) rfl <| Nk [2,4,7,8,15,18,209] rfl <| WC.cF rfl <| WC.skips <| Ck [2,4,7,8,15,18] rfl ?_
   exact WC.weakM [((0 + 1), { cells := [.sl k' (ss'.map stc)], sz := 1, elem := (24), st := 0 }), (0, { cells := [.sl k (ss.map stc)], sz := 1, elem := (24), st := 0 })] ⟨gG, gG, trivial⟩ (J24 _ hE ll hLL hsl)
  refine WO.U (oEx rfl rfl) rfl <| Ua rfl rfl <| Ua rfl rfl <| Nk [2,4,5,7,8,15,18,34,35] rfl <| WC.assoc <| Rg 11 rfl <| Um rfl rfl <| WO.U (oEql rfl rfl) rfl <| WO.D (fun h200 => ?_) (fun h200 => ?_)
  ·refine Um rfl rfl <| WO.Ug rfl (oMv rfl) rfl <| WO.U (oPkT rfl rfl) rfl <| Um rfl rfl <| K1 rfl rfl <| K1 rfl rfl <| K1 rfl rfl <| K1 rfl rfl <| WO.U (oPkF rfl rfl) rfl <| Nk [2,4,7,8,15,18,209] rfl <| WC.cF rfl <| WC.skips <| Ck [2,4,7,8,15,18] rfl ?_
   exact WC.weakM [((0 + 1), { cells := [.sl k' (ss'.map stc)], sz := 1, elem := (24), st := 0 }), (0, { cells := [.sl k (ss.map stc)], sz := 1, elem := (24), st := 0 })] ⟨gG, gG, trivial⟩ (J24 _ hE ll hLL hsl)
  refine Um rfl rfl <| K1 rfl rfl <| WO.U (oPkF rfl rfl) rfl <| Um rfl rfl <| K1 rfl rfl <| K1 rfl rfl <| K1 rfl rfl <| K1 rfl rfl <| WO.U (oPkF rfl rfl) rfl <| Nk [2,4,7,8,15,18,209] rfl <| WC.cF rfl <| WC.skips <| Ck [2,4,7,8,15,18] rfl ?_
  exact WC.weakM [((0 + 1), { cells := [.sl k' (ss'.map stc)], sz := 1, elem := (24), st := 0 }), (0, { cells := [.sl k (ss.map stc)], sz := 1, elem := (24), st := 0 })] ⟨gG, gG, trivial⟩ (J24 _ hE ll hLL hsl)
 have J18 : ∀  (n : Nat) (hE : eA ss l pl = 0) (ll : l.length < 1099511627776) (hLL : L.length < 1099511627776) (hsl : st.length < 1099511627776), WC Tryz.prog T E0 Tryz.f5.ntmps (codeR (codeR (codeR (codeR (codeR (codeR (codeR (codeR (codeR (codeR (codeOf Tryz.f5))))))))))) [(2, lvL kl l), (4, .v (.int .i64 pl)), (5, lvL kL L), (6, lvL ks st), (7, .ptr 0 0), (8, .ptr (0 + 1) 0), (15, lvL (kd (fl ss.length (gX ss pl (fun _ => true) (inL l))).length) (fl ss.length (gX ss pl (fun _ => true) (inL l)))), (18, lvL (kd (fl ss.length (mX ss pl (inL l))).length) (fl ss.length (mX ss pl (inL l))))] [((0 + 1), { cells := [.sl k' (ss'.map stc)], sz := 1, elem := (24), st := 0 }), (0, { cells := [.sl k (ss.map stc)], sz := 1, elem := (24), st := 0 })] n (Post T Tryz.f5.results.toList (.v (.bool true))) := by
  intro  n hE ll hLL hsl
  obtain ⟨hvm, hset, hp⟩ := eA_ok hE
  have hV := VMo_1 hvm
  have hn40 := hV.wt.len
  have hgl : ∀ s, inL l s = true → s < ss.length := fun s hs => inL_lt hset hs
  refine WC.assoc <| Rg 11 rfl <| WO.U (oLdP (l := lvMo k ss) rfl rfl gG rfl rfl) rfl ?_
  refine Um rfl rfl <| Um rfl rfl <| Um rfl rfl <| Um rfl rfl <| WO.U (oCall rfl (attains_run k kl kL ks ss l pl L st true hI hKN ll hLL hsl) (allData_of (by intro c hc; simp only [List.mem_cons, List.not_mem_nil, or_false] at hc; rcases hc with rfl | rfl | rfl | rfl | rfl | rfl; exact dc1; exact dc1; exact .v _; exact dc1; exact dc1; exact .v _))) rfl <| Um rfl rfl <| WO.U (oEx rfl rfl) rfl <| WO.B (fun h177 => ?_) (fun h177 => ?_)
  ·refine WO.U (oEx rfl rfl) rfl <| Ua rfl rfl <| Ua rfl rfl <| Nk [2,4,5,6,7,8,15,18,32,33] rfl <| WC.assoc <| Rg 11 rfl <| Um rfl rfl <| WO.U (oEql rfl rfl) rfl <| WO.D (fun h180 => ?_) (fun h180 => ?_)
   ·refine Um rfl rfl <| WO.Ug rfl (oMv rfl) rfl <| WO.U (oPkT rfl rfl) rfl <| Um rfl rfl <| WO.Ug rfl (oMv rfl) rfl <| WO.Ug rfl (oMv rfl) rfl <| WO.Ug rfl (OP.cast (b := .v (.bool true)) (oCall rfl (lsub_run kL (kd (fl ss.length (mX ss pl (inL l))).length) L (fl ss.length (mX ss pl (inL l))) (fun t ht => (VSet_mem (eT_ok h180).1.2.2.1 ht).1) hLL (by have := fl_len ss.length (mX ss pl (inL l)); omega)) (allData_of (by intro c hc; simp only [List.mem_cons, List.not_mem_nil, or_false] at hc; rcases hc with rfl | rfl; exact dlvL _ _; exact dlvL _ _))) (by exact congrArg (fun z => LV.v (.bool z)) (sbt_atn h180 h177))) rfl <| WO.Ug rfl (oNot rfl) rfl <| WO.U (oPkT rfl rfl) rfl <| Nk [2,4,5,6,7,8,15,18,189] rfl <| WC.cF rfl <| WC.skips <| Ck [2,4,5,6,7,8,15,18] rfl ?_
    exact WC.weakM [((0 + 1), { cells := [.sl k' (ss'.map stc)], sz := 1, elem := (24), st := 0 }), (0, { cells := [.sl k (ss.map stc)], sz := 1, elem := (24), st := 0 })] ⟨gG, gG, trivial⟩ (J21 _ hE ll hLL hsl)
   refine Um rfl rfl <| K1 rfl rfl <| WO.U (oPkF rfl rfl) rfl <| Um rfl rfl <| K1 rfl rfl <| K1 rfl rfl <| K1 rfl rfl <| K1 rfl rfl <| WO.U (oPkF rfl rfl) rfl <| Nk [2,4,5,6,7,8,15,18,189] rfl <| WC.cF rfl <| WC.skips <| Ck [2,4,5,6,7,8,15,18] rfl ?_
   exact WC.weakM [((0 + 1), { cells := [.sl k' (ss'.map stc)], sz := 1, elem := (24), st := 0 }), (0, { cells := [.sl k (ss.map stc)], sz := 1, elem := (24), st := 0 })] ⟨gG, gG, trivial⟩ (J21 _ hE ll hLL hsl)
  refine WO.U (oEx rfl rfl) rfl <| Ua rfl rfl <| Ua rfl rfl <| Nk [2,4,5,6,7,8,15,18,32,33] rfl <| WC.assoc <| Rg 11 rfl <| Um rfl rfl <| WO.U (oEql rfl rfl) rfl <| WO.D (fun h180 => ?_) (fun h180 => ?_)
  ·refine Um rfl rfl <| WO.Ug rfl (oMv rfl) rfl <| WO.U (oPkT rfl rfl) rfl <| Um rfl rfl <| K1 rfl rfl <| K1 rfl rfl <| K1 rfl rfl <| K1 rfl rfl <| WO.U (oPkF rfl rfl) rfl <| Nk [2,4,5,6,7,8,15,18,189] rfl <| WC.cF rfl <| WC.skips <| Ck [2,4,5,6,7,8,15,18] rfl ?_
   exact WC.weakM [((0 + 1), { cells := [.sl k' (ss'.map stc)], sz := 1, elem := (24), st := 0 }), (0, { cells := [.sl k (ss.map stc)], sz := 1, elem := (24), st := 0 })] ⟨gG, gG, trivial⟩ (J21 _ hE ll hLL hsl)
  refine Um rfl rfl <| K1 rfl rfl <| WO.U (oPkF rfl rfl) rfl <| Um rfl rfl <| K1 rfl rfl <| K1 rfl rfl <| K1 rfl rfl <| K1 rfl rfl <| WO.U (oPkF rfl rfl) rfl <| Nk [2,4,5,6,7,8,15,18,189] rfl <| WC.cF rfl <| WC.skips <| Ck [2,4,5,6,7,8,15,18] rfl ?_
  exact WC.weakM [((0 + 1), { cells := [.sl k' (ss'.map stc)], sz := 1, elem := (24), st := 0 }), (0, { cells := [.sl k (ss.map stc)], sz := 1, elem := (24), st := 0 })] ⟨gG, gG, trivial⟩ (J21 _ hE ll hLL hsl)
 refine Rg 3 rfl <| WO.S (oBx rfl rfl) rfl <| WO.S (oBx rfl rfl) rfl <| Ua rfl rfl <| Wn <| WC.assoc <| Rg 26 rfl <| WO.U (oLdP (l := lvMo k ss) rfl rfl gG rfl rfl) rfl ?_
 refine Um rfl rfl <| Um rfl rfl <| Um rfl rfl <| Um rfl rfl <| WO.U (oBs' (cs := [_, _, _, _]) (rows := [[_], [_], [_], [_]]) rfl rfl (by decide) rfl rfl rfl) rfl <| WO.U (oCall rfl (lfew_run k 2 ss [(kl, l), (km, M), (kL, L), (ks, st)] (by simp)) (allData_of (by intro c hc; simp only [List.mem_cons, List.not_mem_nil, or_false] at hc; rcases hc with rfl | rfl; exact dc1; exact .sl _ _ (data_of dgL (us := [(kl, l), (km, M), (kL, L), (ks, st)]))))) rfl <| WO.B (fun h42 => ?_) (fun h42 => ?_)
 rotate_left
 ·refine WO.U (oNot rfl) rfl <| Um rfl rfl <| K1 rfl rfl <| K1 rfl rfl <| K1 rfl rfl <| WO.U (oPkT rfl rfl) rfl <| Um rfl rfl <| K1 rfl rfl <| K1 rfl rfl <| K1 rfl rfl <| K1 rfl rfl <| K1 rfl rfl <| WO.U (oPkT rfl rfl) rfl <| Um rfl rfl <| K1 rfl rfl <| K1 rfl rfl <| K1 rfl rfl <| K1 rfl rfl <| WO.U (oPkT rfl rfl) rfl <| Nk [2,3,4,5,6,7,8,61] rfl <| WC.cT rfl <| WC.assoc <| Rg 2 rfl ?_
  refine WO.U (oCall rfl (awake_run) dD) rfl <| Ua rfl rfl <| Wn <| WC.rets ?_
  exact post (n := 0) (.inr rfl) rfl rfl (by simp)
 have hl60 := fewG_len h42
 have ll : l.length < 1099511627776 := by have : l.length ≤ 60 := hl60 (kl, l) (by simp); omega
 have lm : M.length < 1099511627776 := by have : M.length ≤ 60 := hl60 (km, M) (by simp); omega
 have hLL : L.length < 1099511627776 := by have : L.length ≤ 60 := hl60 (kL, L) (by simp); omega
 have hsl : st.length < 1099511627776 := by have : st.length ≤ 60 := hl60 (ks, st) (by simp); omega
 refine WO.U (oNot rfl) rfl <| Um rfl rfl <| WO.Ug rfl (oLdP (l := lvMo k' ss') rfl rfl gG rfl rfl) rfl ?_
 refine WO.Ug rfl (oCall rfl (lfew_run k' 0 ss' [] (by simp)) (allData_of (by intro c hc; simp only [List.mem_cons, List.not_mem_nil, or_false] at hc; rcases hc with rfl | rfl; exact dc1; exact dnil))) rfl <| WO.B (fun h46 => ?_) (fun h46 => ?_)
 rotate_left
 ·refine WO.Ug rfl (oNot rfl) rfl <| WO.U (oPkF rfl rfl) rfl <| Um rfl rfl <| K1 rfl rfl <| K1 rfl rfl <| K1 rfl rfl <| K1 rfl rfl <| K1 rfl rfl <| WO.U (oPkT rfl rfl) rfl <| Um rfl rfl <| K1 rfl rfl <| K1 rfl rfl <| K1 rfl rfl <| K1 rfl rfl <| WO.U (oPkT rfl rfl) rfl <| Nk [2,3,4,5,6,7,8,61] rfl <| WC.cT rfl <| WC.assoc <| Rg 2 rfl <| WO.U (oCall rfl (awake_run) dD) rfl <| Ua rfl rfl <| Wn <| WC.rets ?_
  exact post (n := 0) (.inr rfl) rfl rfl (by simp)
 refine WO.Ug rfl (oNot rfl) rfl <| WO.U (oPkF rfl rfl) rfl <| Um rfl rfl <| WO.Ug rfl (oLdP (l := lvMo k ss) rfl rfl gG rfl rfl) rfl ?_
 refine WO.Ug rfl (oMv rfl) rfl <| WO.Ug rfl (oMv rfl) rfl <| WO.Ug rfl (oCall rfl (qasked_run k kl ss l pl hI ll) dD) rfl <| WO.Ug rfl (oNeq rfl rfl) rfl <| WO.D (fun h54 => ?_) (fun h54 => ?_)
 ·refine WO.U (oPkF rfl rfl) rfl <| Um rfl rfl <| K1 rfl rfl <| K1 rfl rfl <| K1 rfl rfl <| K1 rfl rfl <| WO.U (oPkT rfl rfl) rfl <| Nk [2,3,4,5,6,7,8,61] rfl <| WC.cT rfl <| WC.assoc <| Rg 2 rfl <| WO.U (oCall rfl (awake_run) dD) rfl <| Ua rfl rfl <| Wn <| WC.rets ?_
  exact post (n := 0) (.inr rfl) rfl rfl (by simp)
 have hE : eA ss l pl = 0 := by omega
 refine WO.U (oPkF rfl rfl) rfl <| Um rfl rfl <| WO.Ug rfl (oLdP (l := lvMo k ss) rfl rfl gG rfl rfl) rfl ?_
 refine WO.Ug rfl (oMv rfl) rfl <| WO.Ug rfl (oCall rfl (qset_run k km ss M lm) dD) rfl <| WO.B (fun h59 => ?_) (fun h59 => ?_)
 rotate_left
 ·refine WO.Ug rfl (oNot rfl) rfl <| WO.U (oPkF rfl rfl) rfl <| Nk [2,3,4,5,6,7,8,61] rfl <| WC.cT rfl <| WC.assoc <| Rg 2 rfl <| WO.U (oCall rfl (awake_run) dD) rfl <| Ua rfl rfl <| Wn <| WC.rets ?_
  exact post (n := 0) (.inr rfl) rfl rfl (by simp)
 refine WO.Ug rfl (oNot rfl) rfl <| WO.U (oPkF rfl rfl) rfl <| Nk [2,3,4,5,6,7,8,61] rfl <| WC.cF rfl <| WC.skips ?_
 obtain ⟨hvm, hset, hp⟩ := eA_ok hE
 have hV := VMo_1 hvm
 have hn40 := hV.wt.len
 have hgl : ∀ s, inL l s = true → s < ss.length := fun s hs => inL_lt hset hs
 refine Rg 11 rfl <| WO.U (oLdP (l := lvMo k ss) rfl rfl gG rfl rfl) rfl ?_
 refine Um rfl rfl <| Um rfl rfl <| WO.U (OP.cast (b := .tup [lvL (kd (fl ss.length (gX ss pl (fun _ => true) (inL l))).length) (fl ss.length (gX ss pl (fun _ => true) (inL l))), lvG 1 ss.length (gC ss pl (fun _ => true) (inL l)), .v (.int .i64 0)]) (oCall rfl (mpossible_run k kl ss l pl hI ll) (allData_of (by intro c hc; simp only [List.mem_cons, List.not_mem_nil, or_false] at hc; rcases hc with rfl | rfl | rfl; exact dc1; exact dc1; exact .v _))) (by rw [if_pos hE])) rfl <| Um rfl rfl <| WO.U (oEx rfl rfl) rfl <| WO.U (oEx rfl rfl) rfl <| WO.U (oEx rfl rfl) rfl <| Ua rfl rfl <| Ua rfl rfl <| Ua rfl rfl <| Nk [2,3,4,5,6,7,8,15,17] rfl <| Rg 11 rfl <| WO.U (oLdP (l := lvMo k ss) rfl rfl gG rfl rfl) rfl ?_
 refine Um rfl rfl <| Um rfl rfl <| WO.U (OP.cast (b := .tup [lvL (kd (fl ss.length (mX ss pl (inL l))).length) (fl ss.length (mX ss pl (inL l))), lvG 1 ss.length (mC ss pl (inL l)), .v (.int .i64 0)]) (oCall rfl (msure_run k kl ss l pl hI ll) (allData_of (by intro c hc; simp only [List.mem_cons, List.not_mem_nil, or_false] at hc; rcases hc with rfl | rfl | rfl; exact dc1; exact dc1; exact .v _))) (by rw [if_pos hE])) rfl <| Um rfl rfl <| WO.U (oEx rfl rfl) rfl <| WO.U (oEx rfl rfl) rfl <| WO.U (oEx rfl rfl) rfl <| Ua rfl rfl <| Ua rfl rfl <| Ua rfl rfl <| Nk [2,3,4,5,6,7,8,15,17,18,20] rfl <| Rg 12 rfl <| WO.U (oLdP (l := lvMo k ss) rfl rfl gG rfl rfl) rfl ?_
 refine Um rfl rfl <| Um rfl rfl <| WO.U (cI ((1 - pl)) (oSub64 rfl rfl om) rfl) rfl <| WO.U (OP.cast (b := .tup [lvL (kd (fl ss.length (fun s => !(gX ss pl (fun _ => true) (inL l)) s)).length) (fl ss.length (fun s => !(gX ss pl (fun _ => true) (inL l)) s)), lvG 1 ss.length (sC ss (1 - pl) (inL l)), .v (.int .i64 0)]) (oCall rfl (mavoid_run k kl ss l (1 - pl) hI ll) (allData_of (by intro c hc; simp only [List.mem_cons, List.not_mem_nil, or_false] at hc; rcases hc with rfl | rfl | rfl; exact dc1; exact dc1; exact .v _))) (by simp only [sX_one, if_pos (eA_sub hE)])) rfl <| Um rfl rfl <| WO.U (oEx rfl rfl) rfl <| WO.U (oEx rfl rfl) rfl <| WO.U (oEx rfl rfl) rfl <| Ua rfl rfl <| Ua rfl rfl <| Ua rfl rfl <| Nk [2,3,4,5,6,7,8,15,17,18,20,21,23] rfl <| WC.assoc <| Rg 33 rfl <| Um rfl rfl <| WO.U (OP.cast (b := .v (.bool false)) (oNeq rfl rfl) (by exact congrArg (fun z => LV.v (.bool z)) (decide_eq_false om))) rfl <| Um rfl rfl <| WO.Ug rfl (oMv rfl) rfl <| WO.Ug rfl (OP.cast (b := .v (.bool false)) (oNeq rfl rfl) (by exact congrArg (fun z => LV.v (.bool z)) (decide_eq_false om))) rfl <| WO.U (oPkF rfl rfl) rfl <| Um rfl rfl <| WO.Ug rfl (oMv rfl) rfl <| WO.Ug rfl (OP.cast (b := .v (.bool false)) (oNeq rfl rfl) (by exact congrArg (fun z => LV.v (.bool z)) (decide_eq_false om))) rfl ?_
 refine WO.U (oPkF rfl rfl) rfl <| Um rfl rfl <| WO.Ug rfl (oMv rfl) rfl <| WO.Ug rfl (oLenM rfl rfl) rfl <| WO.Ug rfl (oMv rfl) rfl <| WO.Ug rfl (oLenM rfl rfl) rfl <| WO.Ug rfl (cI ((ss.length : Int)) (oAdd64 rfl rfl (by have := fl_two (f := (gX ss pl (fun _ => true) (inL l))) ss.length; omega)) (by have := fl_two (f := (gX ss pl (fun _ => true) (inL l))) ss.length; omega)) rfl <| WO.Ug rfl (oFaP rfl rfl rfl rfl rfl) rfl <| WO.Ug rfl (oLdP rfl rfl gG rfl rfl) rfl ?_
 refine WO.Ug rfl (oLenM rfl rfl) rfl <| WO.Ug rfl (OP.cast (b := .v (.bool false)) (oNeq rfl rfl) (by exact congrArg (fun z => LV.v (.bool z)) (decide_eq_false om))) rfl <| WO.U (oPkF rfl rfl) rfl <| Um rfl rfl <| WO.Ug rfl (oMv rfl) rfl <| WO.Ug rfl (oMv rfl) rfl <| WO.Ug rfl (OP.cast (b := .v (.bool true)) (oCall rfl (lsub_run kl (kd (fl ss.length (mX ss pl (inL l))).length) l (fl ss.length (mX ss pl (inL l))) (fun t ht => (VSet_mem hset ht).1) ll (by have := fl_len ss.length (mX ss pl (inL l)); omega)) (allData_of (by intro c hc; simp only [List.mem_cons, List.not_mem_nil, or_false] at hc; rcases hc with rfl | rfl; exact dlvL _ _; exact dlvL _ _))) (by exact congrArg (fun z => LV.v (.bool z)) (sbt_goal hset (mX_g hn40 hgl)))) rfl <| WO.Ug rfl (oNot rfl) rfl <| WO.U (oPkF rfl rfl) rfl <| Um rfl rfl <| WO.Ug rfl (oMv rfl) rfl <| WO.Ug rfl (oMv rfl) rfl <| WO.Ug rfl (OP.cast (b := .v (.bool true)) (oCall rfl (lsub_run (kd (fl ss.length (mX ss pl (inL l))).length) (kd (fl ss.length (gX ss pl (fun _ => true) (inL l))).length) (fl ss.length (mX ss pl (inL l))) (fl ss.length (gX ss pl (fun _ => true) (inL l))) (fun t ht => by obtain ⟨s, rfl, _⟩ := fl_mem.1 ht; omega) (by have := fl_len ss.length (mX ss pl (inL l)); omega) (by have := fl_len ss.length (gX ss pl (fun _ => true) (inL l)); omega)) (allData_of (by intro c hc; simp only [List.mem_cons, List.not_mem_nil, or_false] at hc; rcases hc with rfl | rfl; exact dlvL _ _; exact dlvL _ _))) (by exact congrArg (fun z => LV.v (.bool z)) (sbt_fl (mX_gX hn40 hgl)))) rfl <| WO.Ug rfl (oNot rfl) rfl <| WO.U (oPkF rfl rfl) rfl <| Nk [2,3,4,5,6,7,8,15,18,21,120] rfl <| WC.cF rfl <| WC.skips <| WC.assoc <| Rg 3 rfl <| Um rfl rfl <| WO.U (oLenM rfl rfl) rfl <| Um rfl rfl ?_
 refine Wn <| WC.block <| WC.loopV (α := Nat) (fun i => [(2, lvL kl l), (3, lvL km M), (4, .v (.int .i64 pl)), (5, lvL kL L), (6, lvL ks st), (7, .ptr 0 0), (8, .ptr (0 + 1) 0), (15, lvL (kd (fl ss.length (gX ss pl (fun _ => true) (inL l))).length) (fl ss.length (gX ss pl (fun _ => true) (inL l)))), (18, lvL (kd (fl ss.length (mX ss pl (inL l))).length) (fl ss.length (mX ss pl (inL l)))), (121, lvL (kd (fl ss.length (fun s => !(gX ss pl (fun _ => true) (inL l)) s)).length) (fl ss.length (fun s => !(gX ss pl (fun _ => true) (inL l)) s))), (122, .v (.int .i64 ((fl ss.length (fun s => !(gX ss pl (fun _ => true) (inL l)) s)).length : Int))), (123, .v (.int .i64 (i : Int)))]) (fun i => [((0 + 1), { cells := [.sl k' (ss'.map stc)], sz := 1, elem := (24), st := 0 }), (0, { cells := [.sl k (ss.map stc)], sz := 1, elem := (24), st := 0 })]) (fun i n => i ≤ (fl ss.length (fun s => !(gX ss pl (fun _ => true) (inL l)) s)).length ∧ 2 ≤ n) (fun i => (fl ss.length (fun s => !(gX ss pl (fun _ => true) (inL l)) s)).length - i) (0) ⟨rfl, rfl, rfl, rfl, rfl, rfl, rfl, rfl, rfl, rfl, rfl, rfl, trivial⟩ ⟨gG, gG, trivial⟩ ⟨Nat.zero_le _, om⟩ ?_
 rintro i n hF
 change WC _ _ _ _ _ (_ :: _) (_ :: _) n _
 obtain ⟨hi, hn⟩ := hF
 have hfa := fl_len ss.length (fun s => !(gX ss pl (fun _ => true) (inL l)) s)
 refine Rg 1 rfl <| WO.U (oLss rfl rfl) rfl <| WO.D (fun h124 => ?_) (fun h124 => ?_)
 ·refine Wn <| WC.cT rfl <| WC.skips <| WC.block <| Rg 3 rfl <| WO.U (oIxM rfl rfl rfl rfl rfl om rfl) rfl <| WO.U (cI ((((fl ss.length (fun s => !(gX ss pl (fun _ => true) (inL l)) s)).getD i default).toNat : Int)) (oLd rfl rfl rfl) (by have := (fl_part (f := (gX ss pl (fun _ => true) (inL l))) (n := ss.length) (i := i) om).1; omega)) rfl <| Ua rfl rfl <| Nk [2,3,4,5,6,7,8,15,18,25,121,122,123] rfl <| Rg 3 rfl <| Um rfl rfl <| Um rfl rfl <| WO.U (OP.cast (b := .v (.bool false)) (oCall rfl (qin_run (kd (fl ss.length (gX ss pl (fun _ => true) (inL l))).length) (fl ss.length (gX ss pl (fun _ => true) (inL l))) ((fl ss.length (fun s => !(gX ss pl (fun _ => true) (inL l)) s)).getD i default).toNat (by have := fl_len ss.length (gX ss pl (fun _ => true) (inL l)); omega)) (allData_of (by intro c hc; simp only [List.mem_cons, List.not_mem_nil, or_false] at hc; rcases hc with rfl | rfl; exact dlvL _ _; exact .v _))) (by exact congrArg (fun z => LV.v (.bool z)) ((fl_part om).2))) rfl <| Nk [2,3,4,5,6,7,8,15,18,121,122,123,129] rfl <| WC.cF1 rfl <| WC.skip <| after_normal <| WC.reg1z (z := 2) rfl <| WO.U (cI (((i + 1 : Nat) : Int)) (oAdd64 rfl rfl om) om) rfl <| Um rfl rfl <| Wn <| loopR_normal ?_
  refine ⟨i + 1, ⟨rfl, rfl, rfl, rfl, rfl, rfl, rfl, rfl, rfl, rfl, rfl, rfl, trivial⟩, ⟨gG, gG, trivial⟩, ⟨om, om⟩, by show (fl ss.length (fun s => !(gX ss pl (fun _ => true) (inL l)) s)).length - (i + 1) < (fl ss.length (fun s => !(gX ss pl (fun _ => true) (inL l)) s)).length - i; omega⟩
 refine Wn <| WC.cF rfl <| WC.exits <| loopR_exit <| after_exit rfl <| Rg 11 rfl <| WO.U (oLdP (l := lvMo k ss) rfl rfl gG rfl rfl) rfl ?_
 refine Um rfl rfl <| Um rfl rfl <| WO.U (OP.cast (b := .tup [lvL (kd (fl ss.length (gX ss pl (fun _ => true) (inL M))).length) (fl ss.length (gX ss pl (fun _ => true) (inL M))), lvG 1 ss.length (gC ss pl (fun _ => true) (inL M)), .v (.int .i64 0)]) (oCall rfl (mpossible_run k km ss M pl hI lm) (allData_of (by intro c hc; simp only [List.mem_cons, List.not_mem_nil, or_false] at hc; rcases hc with rfl | rfl | rfl; exact dc1; exact dc1; exact .v _))) (by rw [if_pos (eA_more hE h59)])) rfl <| Um rfl rfl <| WO.U (oEx rfl rfl) rfl <| WO.U (oEx rfl rfl) rfl <| WO.U (oEx rfl rfl) rfl <| Ua rfl rfl <| Ua rfl rfl <| Ua rfl rfl <| Nk [2,3,4,5,6,7,8,15,18,26,28] rfl <| Rg 11 rfl <| WO.U (oLdP (l := lvMo k ss) rfl rfl gG rfl rfl) rfl ?_
 refine Um rfl rfl <| Um rfl rfl <| WO.U (OP.cast (b := .tup [lvL (kd (fl ss.length (mX ss pl (inL M))).length) (fl ss.length (mX ss pl (inL M))), lvG 1 ss.length (mC ss pl (inL M)), .v (.int .i64 0)]) (oCall rfl (msure_run k km ss M pl hI lm) (allData_of (by intro c hc; simp only [List.mem_cons, List.not_mem_nil, or_false] at hc; rcases hc with rfl | rfl | rfl; exact dc1; exact dc1; exact .v _))) (by rw [if_pos (eA_more hE h59)])) rfl <| Um rfl rfl <| WO.U (oEx rfl rfl) rfl <| WO.U (oEx rfl rfl) rfl <| WO.U (oEx rfl rfl) rfl <| Ua rfl rfl <| Ua rfl rfl <| Ua rfl rfl <| Nk [2,3,4,5,6,7,8,15,18,26,28,29,31] rfl <| WC.assoc <| Rg 23 rfl <| Um rfl rfl <| Um rfl rfl <| WO.U (oCall rfl (lsub_run kl km l M (fun t ht => (VSet_mem hset ht).1) ll lm) (allData_of (by intro c hc; simp only [List.mem_cons, List.not_mem_nil, or_false] at hc; rcases hc with rfl | rfl; exact dlvL _ _; exact dlvL _ _))) rfl <| WO.B (fun h149 => ?_) (fun h149 => ?_)
 ·refine Um rfl rfl <| WO.Ug rfl (oMv rfl) rfl <| WO.Ug rfl (OP.cast (b := .v (.bool false)) (oNeq rfl rfl) (by exact congrArg (fun z => LV.v (.bool z)) (decide_eq_false om))) rfl <| WO.Ug rfl (oMv rfl) rfl <| WO.Ug rfl (oMv rfl) rfl <| WO.Ug rfl (OP.cast (b := .v (.bool false)) (oNeq rfl rfl) (by exact congrArg (fun z => LV.v (.bool z)) (decide_eq_false om))) rfl <| WO.Ug rfl (oPkF rfl rfl) rfl <| WO.Ug rfl (oMv rfl) rfl <| WO.Ug rfl (oMv rfl) rfl <| WO.Ug rfl (oMv rfl) rfl <| WO.Ug rfl (OP.cast (b := .v (.bool true)) (oCall rfl (lsub_run (kd (fl ss.length (gX ss pl (fun _ => true) (inL l))).length) (kd (fl ss.length (gX ss pl (fun _ => true) (inL M))).length) (fl ss.length (gX ss pl (fun _ => true) (inL l))) (fl ss.length (gX ss pl (fun _ => true) (inL M))) (fun t ht => by obtain ⟨s, rfl, _⟩ := fl_mem.1 ht; omega) (by have := fl_len ss.length (gX ss pl (fun _ => true) (inL l)); omega) (by have := fl_len ss.length (gX ss pl (fun _ => true) (inL M)); omega)) (allData_of (by intro c hc; simp only [List.mem_cons, List.not_mem_nil, or_false] at hc; rcases hc with rfl | rfl; exact dlvL _ _; exact dlvL _ _))) (by exact congrArg (fun z => LV.v (.bool z)) (sbt_fl (gX_mono hn40 (fun _ h => h) (sbt_le hset h149))))) rfl <| WO.Ug rfl (oNot rfl) rfl <| WO.Ug rfl (oPkF rfl rfl) rfl <| WO.Ug rfl (oMv rfl) rfl <| WO.Ug rfl (oMv rfl) rfl <| WO.Ug rfl (oMv rfl) rfl <| WO.Ug rfl (OP.cast (b := .v (.bool true)) (oCall rfl (lsub_run (kd (fl ss.length (mX ss pl (inL l))).length) (kd (fl ss.length (mX ss pl (inL M))).length) (fl ss.length (mX ss pl (inL l))) (fl ss.length (mX ss pl (inL M))) (fun t ht => by obtain ⟨s, rfl, _⟩ := fl_mem.1 ht; omega) (by have := fl_len ss.length (mX ss pl (inL l)); omega) (by have := fl_len ss.length (mX ss pl (inL M)); omega)) (allData_of (by intro c hc; simp only [List.mem_cons, List.not_mem_nil, or_false] at hc; rcases hc with rfl | rfl; exact dlvL _ _; exact dlvL _ _))) (by exact congrArg (fun z => LV.v (.bool z)) (sbt_fl (mX_mono hn40 (fun s hs => inL_lt h59 hs) (sbt_le hset h149))))) rfl <| WO.Ug rfl (oNot rfl) rfl <| WO.Ug rfl (oPkF rfl rfl) rfl <| WO.U (oPkT rfl rfl) rfl <| Nk [2,4,5,6,7,8,15,18,169] rfl <| WC.cF rfl <| WC.skips ?_
  refine Ck [2,4,5,6,7,8,15,18] rfl ?_
  exact WC.weakM [((0 + 1), { cells := [.sl k' (ss'.map stc)], sz := 1, elem := (24), st := 0 }), (0, { cells := [.sl k (ss.map stc)], sz := 1, elem := (24), st := 0 })] ⟨gG, gG, trivial⟩ (J18 _ hE ll hLL hsl)
 refine Um rfl rfl <| K1 rfl rfl <| K1 rfl rfl <| K1 rfl rfl <| K1 rfl rfl <| K1 rfl rfl <| K1 rfl rfl <| K1 rfl rfl <| K1 rfl rfl <| K1 rfl rfl <| K1 rfl rfl <| K1 rfl rfl <| K1 rfl rfl <| K1 rfl rfl <| K1 rfl rfl <| K1 rfl rfl <| K1 rfl rfl <| K1 rfl rfl <| K1 rfl rfl <| WO.U (oPkF rfl rfl) rfl <| Nk [2,4,5,6,7,8,15,18,169] rfl <| WC.cF rfl <| WC.skips ?_
 refine Ck [2,4,5,6,7,8,15,18] rfl ?_
 exact WC.weakM [((0 + 1), { cells := [.sl k' (ss'.map stc)], sz := 1, elem := (24), st := 0 }), (0, { cells := [.sl k (ss.map stc)], sz := 1, elem := (24), st := 0 })] ⟨gG, gG, trivial⟩ (J18 _ hE ll hLL hsl)
end Go.Proofs.YthpnlndhebcngaaGreat
