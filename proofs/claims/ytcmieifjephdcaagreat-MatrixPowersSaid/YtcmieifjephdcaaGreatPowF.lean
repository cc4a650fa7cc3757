/- Part F of the proof of matrixPowers_holds: what it rests on. No condition. -/
import Derived.Test.YtcmieifjephdcaaGreatPowE
set_option linter.unusedVariables false
set_option linter.unusedSimpArgs false
set_option maxRecDepth 100000
set_option maxHeartbeats 8000000
namespace Go.Proofs.YtcmieifjephdcaaGreat
open Go.Ab Go.RowKit
theorem law_powers (k : Nat) (a : List M1) (z : Int) (hI : IM a) : Run Tryz.prog T E0 (.call 7 [.sl k (a.map fM), .v (.int .i64 z)] (.v (.bool true))) := by
 refine mkcall Tryz.func7 rfl rfl (Nat.le_of_ble_eq_true rfl) ?_
 have J3 : ∀ (hfew : fewb a = true) (n : Nat) , WC Tryz.prog T E0 Tryz.f7.ntmps (codeR (codeR (codeOf Tryz.f7))) [(0, .sl k (a.map fM)), (1, .v (.int .i64 z))] [] n (Post T Tryz.f7.results.toList (.v (.bool true))) := by
  intro hfew n
  refine WC.reg (z := 8) rfl ?_
  have hF := few8 hfew
  obtain ⟨l1, l2⟩ := pow1_len hF z
  refine WO.U (oMv rfl) rfl <| WO.U (oMv rfl) rfl <| WO.U (oCall rfl (qpower_run k a z hI hF) (by first | exact dc | exact dc1 | (simp [-data_sl]; done) | simp)) rfl <| WO.U (oMv rfl) rfl <| WO.U (oEx rfl rfl) rfl <| WO.U (oEx rfl rfl) rfl <| WO.U (oAs rfl) rfl <| WO.U (oAs rfl) rfl <| WO.nil <| WC.weak [(0, _), (1, _), (5, _), (6, _)] ⟨rfl, rfl, rfl, rfl, trivial⟩ <| WC.reg (z := 8) rfl <| WO.U (oMv rfl) rfl <| WO.U (oMv rfl) rfl <| WO.U (oCall rfl (mpower_run k a z hI hF) (by first | exact dc | exact dc1 | (simp [-data_sl]; done) | simp)) rfl <| WO.U (oMv rfl) rfl <| WO.U (oEx rfl rfl) rfl <| WO.U (oEx rfl rfl) rfl <| WO.U (oAs rfl) rfl <| WO.U (oAs rfl) rfl <| WO.nil <| WC.weak [(5, _), (6, _), (7, _), (8, _)] ⟨rfl, rfl, rfl, rfl, trivial⟩ <| WC.reg (z := 12) rfl <| WO.U (oMv rfl) rfl <| WO.U (oMv rfl) rfl ?_
  refine WO.U (oCall rfl (msame_run _ _ (pow1 a z) (by omega) (fun r hr => by have := l2 r hr; omega)) (by first | exact dc | exact dc1 | (simp [-data_sl]; done) | simp)) rfl <| WO.U (oMv rfl) rfl <| WO.Ug rfl (oMv rfl) rfl <| WO.Ug rfl (oMv rfl) rfl <| WO.Ug rfl (oEql rfl rfl) rfl <| WO.D (fun h58 => ?_) (fun h58 => ?_)
  rotate_left
  ·exact absurd rfl h58
  refine WO.U (oPkT rfl rfl) rfl <| WO.U (oMv rfl) rfl <| WO.Ug rfl (oCall rfl (awake_run) (by first | exact dc | exact dc1 | (simp [-data_sl]; done) | simp)) rfl <| WO.U (oPkT rfl rfl) rfl <| WO.U (oAs rfl) rfl <| WO.nil <| WC.weak [(4, _)] ⟨rfl, trivial⟩ <| WC.ret <| post (n := 0) (.inr rfl) rfl ?_ (by first | exact dc | exact dc1 | (simp [-data_sl]; done) | simp)
  rfl
 refine WC.weak [(0, _), (1, _)] ⟨rfl, rfl, trivial⟩ <| WC.reg (z := 1) rfl <| WO.U (oAs rfl) rfl <| WO.nil <| WC.weak [(0, _), (1, _)] ⟨rfl, rfl, trivial⟩ <| WC.assoc <| WC.reg (z := 30) rfl <| WO.U (oMv rfl) rfl <| WO.U (oBs' (cs := [_]) (rows := [[_]]) rfl rfl (by decide) rfl rfl rfl) rfl <| WO.U (oCall rfl (few1_run k a) (by first | exact dc | exact dc1 | (simp [-data_sl]; done) | simp)) rfl <| WO.B (fun h11 => ?_) (fun h11 => ?_)
 rotate_left
 ·refine WO.U (oNot rfl) rfl <| WO.U (oMv rfl) rfl <| WO.K rfl rfl <| WO.K rfl rfl <| WO.K rfl rfl <| WO.K rfl rfl <| WO.K rfl rfl <| WO.K rfl rfl <| WO.K rfl rfl <| WO.K rfl rfl <| WO.K rfl rfl <| WO.K rfl rfl <| WO.K rfl rfl <| WO.K rfl rfl <| WO.K rfl rfl <| WO.K rfl rfl <| WO.K rfl rfl <| WO.K rfl rfl <| WO.K rfl rfl <| WO.K rfl rfl <| WO.K rfl rfl <| WO.K rfl rfl <| WO.K rfl rfl <| WO.K rfl rfl ?_
  refine WO.K rfl rfl <| WO.K rfl rfl <| WO.U (oPkT rfl rfl) rfl <| WO.nil <| WC.weak [(0, _), (1, _), (38, _)] ⟨rfl, rfl, rfl, trivial⟩ <| WC.cT rfl <| WC.assoc <| WC.reg (z := 2) rfl <| WO.U (oCall rfl (awake_run) (by first | exact dc | exact dc1 | (simp [-data_sl]; done) | simp)) rfl <| WO.U (oAs rfl) rfl <| WO.nil <| WC.weak [(4, _)] ⟨rfl, trivial⟩ <| WC.rets <| post (n := 0) (.inr rfl) rfl ?_ (by first | exact dc | exact dc1 | (simp [-data_sl]; done) | simp)
  rfl
 refine WO.U (oNot rfl) rfl <| WO.U (oMv rfl) rfl <| WO.Ug rfl (oMv rfl) rfl <| WO.Ug rfl (oGtr rfl rfl) rfl <| WO.D (fun h15 => ?_) (fun h15 => ?_)
 rotate_left
 ·refine WO.Ug rfl (oMv rfl) rfl <| WO.K rfl rfl <| WO.K rfl rfl <| WO.Ug rfl (oPkF rfl rfl) rfl <| WO.Ug rfl (oMv rfl) rfl <| WO.Ug rfl (oMv rfl) rfl <| WO.Ug rfl (oGtr rfl rfl) rfl <| WO.D (fun h22 => ?_) (fun h22 => ?_)
  rotate_left
  ·refine WO.Ug rfl (oMv rfl) rfl <| WO.K rfl rfl <| WO.K rfl rfl <| WO.Ug rfl (oPkF rfl rfl) rfl <| WO.Ug rfl (oMv rfl) rfl <| WO.K rfl rfl ?_
   obtain ⟨r1, hr1, b1, rfl⟩ := light_run k a (by have := (few8 h11).ln; omega) (fun r hr => by have := (few8 h11).lr r hr; omega)
   refine WO.K rfl rfl <| WO.K rfl rfl <| WO.Ug rfl (oPkF rfl rfl) rfl <| WO.Ug rfl (oPkF rfl rfl) rfl <| WO.Ug rfl (oMv rfl) rfl <| WO.K rfl rfl ?_
   obtain ⟨r2, hr2, b2, rfl⟩ := single_run k a (by have := (few8 h11).ln; omega) (fun r hr => by have := (few8 h11).lr r hr; omega)
   refine WO.K rfl rfl <| WO.K rfl rfl <| WO.Ug rfl (oPkF rfl rfl) rfl <| WO.U (oPkF rfl rfl) rfl <| WO.nil <| WC.weak [(0, _), (1, _), (38, _)] ⟨rfl, rfl, rfl, trivial⟩ <| WC.cF rfl <| WC.skips <| WC.weak [(0, _), (1, _)] ⟨rfl, rfl, trivial⟩ ?_
   exact J3 h11 _
  refine WO.Ug rfl (oMv rfl) rfl <| WO.Ug rfl (oMv rfl) rfl <| WO.Ug rfl (oLeq rfl rfl) rfl <| WO.D (fun h25 => ?_) (fun h25 => ?_)
  rotate_left
  ·refine WO.Ug rfl (oPkT rfl rfl) rfl <| WO.Ug rfl (oMv rfl) rfl <| WO.K rfl rfl ?_
   obtain ⟨r1, hr1, b1, rfl⟩ := light_run k a (by have := (few8 h11).ln; omega) (fun r hr => by have := (few8 h11).lr r hr; omega)
   refine WO.K rfl rfl <| WO.K rfl rfl <| WO.Ug rfl (oPkF rfl rfl) rfl <| WO.Ug rfl (oPkF rfl rfl) rfl <| WO.Ug rfl (oMv rfl) rfl <| WO.K rfl rfl ?_
   obtain ⟨r2, hr2, b2, rfl⟩ := single_run k a (by have := (few8 h11).ln; omega) (fun r hr => by have := (few8 h11).lr r hr; omega)
   refine WO.K rfl rfl <| WO.K rfl rfl <| WO.Ug rfl (oPkF rfl rfl) rfl <| WO.U (oPkF rfl rfl) rfl <| WO.nil <| WC.weak [(0, _), (1, _), (38, _)] ⟨rfl, rfl, rfl, trivial⟩ <| WC.cF rfl <| WC.skips <| WC.weak [(0, _), (1, _)] ⟨rfl, rfl, trivial⟩ ?_
   exact J3 h11 _
  refine WO.Ug rfl (oPkT rfl rfl) rfl <| WO.Ug rfl (oMv rfl) rfl <| WO.Ug rfl (oMv rfl) rfl ?_
  obtain ⟨r1, hr1, b1, rfl⟩ := light_run k a (by have := (few8 h11).ln; omega) (fun r hr => by have := (few8 h11).lr r hr; omega)
  refine WO.Ug rfl (oCall rfl (hr1) (by first | exact dc | exact dc1 | (simp [-data_sl]; done) | simp)) rfl <| WO.B (fun h29 => ?_) (fun h29 => ?_)
  ·refine WO.Ug rfl (oNot rfl) rfl <| WO.Ug rfl (oPkT rfl rfl) rfl <| WO.Ug rfl (oPkF rfl rfl) rfl <| WO.Ug rfl (oMv rfl) rfl <| WO.K rfl rfl ?_
   obtain ⟨r2, hr2, b2, rfl⟩ := single_run k a (by have := (few8 h11).ln; omega) (fun r hr => by have := (few8 h11).lr r hr; omega)
   refine WO.K rfl rfl <| WO.K rfl rfl <| WO.Ug rfl (oPkF rfl rfl) rfl <| WO.U (oPkF rfl rfl) rfl <| WO.nil <| WC.weak [(0, _), (1, _), (38, _)] ⟨rfl, rfl, rfl, trivial⟩ <| WC.cF rfl <| WC.skips <| WC.weak [(0, _), (1, _)] ⟨rfl, rfl, trivial⟩ ?_
   exact J3 h11 _
  refine WO.Ug rfl (oNot rfl) rfl <| WO.Ug rfl (oPkT rfl rfl) rfl <| WO.Ug rfl (oPkF rfl rfl) rfl <| WO.Ug rfl (oMv rfl) rfl <| WO.Ug rfl (oMv rfl) rfl ?_
  obtain ⟨r2, hr2, b2, rfl⟩ := single_run k a (by have := (few8 h11).ln; omega) (fun r hr => by have := (few8 h11).lr r hr; omega)
  refine WO.Ug rfl (oCall rfl (hr2) (by first | exact dc | exact dc1 | (simp [-data_sl]; done) | simp)) rfl <| WO.B (fun h35 => ?_) (fun h35 => ?_)
  ·refine WO.Ug rfl (oNot rfl) rfl <| WO.Ug rfl (oPkT rfl rfl) rfl <| WO.U (oPkF rfl rfl) rfl <| WO.nil <| WC.weak [(0, _), (1, _), (38, _)] ⟨rfl, rfl, rfl, trivial⟩ <| WC.cF rfl <| WC.skips <| WC.weak [(0, _), (1, _)] ⟨rfl, rfl, trivial⟩ ?_
   exact J3 h11 _
  refine WO.Ug rfl (oNot rfl) rfl <| WO.Ug rfl (oPkT rfl rfl) rfl <| WO.U (oPkF rfl rfl) rfl <| WO.nil <| WC.weak [(0, _), (1, _), (38, _)] ⟨rfl, rfl, rfl, trivial⟩ <| WC.cT rfl <| WC.assoc <| WC.reg (z := 2) rfl <| WO.U (oCall rfl (awake_run) (by first | exact dc | exact dc1 | (simp [-data_sl]; done) | simp)) rfl <| WO.U (oAs rfl) rfl <| WO.nil <| WC.weak [(4, _)] ⟨rfl, trivial⟩ <| WC.rets <| post (n := 0) (.inr rfl) rfl ?_ (by first | exact dc | exact dc1 | (simp [-data_sl]; done) | simp)
  rfl
 refine WO.Ug rfl (oMv rfl) rfl <| WO.Ug rfl (oMv rfl) rfl <| WO.Ug rfl (oLeq rfl rfl) rfl <| WO.D (fun h18 => ?_) (fun h18 => ?_)
 ·refine WO.Ug rfl (oPkT rfl rfl) rfl <| WO.Ug rfl (oMv rfl) rfl <| WO.K rfl rfl <| WO.K rfl rfl <| WO.K rfl rfl <| WO.K rfl rfl <| WO.K rfl rfl <| WO.K rfl rfl <| WO.K rfl rfl <| WO.K rfl rfl ?_
  obtain ⟨r1, hr1, b1, rfl⟩ := light_run k a (by have := (few8 h11).ln; omega) (fun r hr => by have := (few8 h11).lr r hr; omega)
  refine WO.K rfl rfl <| WO.K rfl rfl <| WO.K rfl rfl <| WO.Ug rfl (oPkT rfl rfl) rfl <| WO.Ug rfl (oMv rfl) rfl <| WO.Ug rfl (oMv rfl) rfl ?_
  obtain ⟨r2, hr2, b2, rfl⟩ := single_run k a (by have := (few8 h11).ln; omega) (fun r hr => by have := (few8 h11).lr r hr; omega)
  refine WO.Ug rfl (oCall rfl (hr2) (by first | exact dc | exact dc1 | (simp [-data_sl]; done) | simp)) rfl <| WO.B (fun h35 => ?_) (fun h35 => ?_)
  ·refine WO.Ug rfl (oNot rfl) rfl <| WO.Ug rfl (oPkT rfl rfl) rfl <| WO.U (oPkF rfl rfl) rfl <| WO.nil <| WC.weak [(0, _), (1, _), (38, _)] ⟨rfl, rfl, rfl, trivial⟩ <| WC.cF rfl <| WC.skips <| WC.weak [(0, _), (1, _)] ⟨rfl, rfl, trivial⟩ ?_
   exact J3 h11 _
  refine WO.Ug rfl (oNot rfl) rfl <| WO.Ug rfl (oPkT rfl rfl) rfl <| WO.U (oPkF rfl rfl) rfl <| WO.nil <| WC.weak [(0, _), (1, _), (38, _)] ⟨rfl, rfl, rfl, trivial⟩ <| WC.cT rfl <| WC.assoc <| WC.reg (z := 2) rfl <| WO.U (oCall rfl (awake_run) (by first | exact dc | exact dc1 | (simp [-data_sl]; done) | simp)) rfl <| WO.U (oAs rfl) rfl <| WO.nil <| WC.weak [(4, _)] ⟨rfl, trivial⟩ <| WC.rets <| post (n := 0) (.inr rfl) rfl ?_ (by first | exact dc | exact dc1 | (simp [-data_sl]; done) | simp)
  rfl
 refine WO.Ug rfl (oPkT rfl rfl) rfl <| WO.Ug rfl (oMv rfl) rfl <| WO.Ug rfl (oMv rfl) rfl <| WO.Ug rfl (oGtr rfl rfl) rfl <| WO.D (fun h22 => ?_) (fun h22 => ?_)
 rotate_left
 ·refine WO.Ug rfl (oMv rfl) rfl <| WO.K rfl rfl <| WO.K rfl rfl <| WO.Ug rfl (oPkF rfl rfl) rfl <| WO.Ug rfl (oMv rfl) rfl <| WO.K rfl rfl ?_
  obtain ⟨r1, hr1, b1, rfl⟩ := light_run k a (by have := (few8 h11).ln; omega) (fun r hr => by have := (few8 h11).lr r hr; omega)
  refine WO.K rfl rfl <| WO.K rfl rfl <| WO.Ug rfl (oPkF rfl rfl) rfl <| WO.Ug rfl (oPkF rfl rfl) rfl <| WO.Ug rfl (oMv rfl) rfl <| WO.K rfl rfl ?_
  obtain ⟨r2, hr2, b2, rfl⟩ := single_run k a (by have := (few8 h11).ln; omega) (fun r hr => by have := (few8 h11).lr r hr; omega)
  refine WO.K rfl rfl <| WO.K rfl rfl <| WO.Ug rfl (oPkF rfl rfl) rfl <| WO.U (oPkF rfl rfl) rfl <| WO.nil <| WC.weak [(0, _), (1, _), (38, _)] ⟨rfl, rfl, rfl, trivial⟩ <| WC.cF rfl <| WC.skips <| WC.weak [(0, _), (1, _)] ⟨rfl, rfl, trivial⟩ ?_
  exact J3 h11 _
 refine WO.Ug rfl (oMv rfl) rfl <| WO.Ug rfl (oMv rfl) rfl <| WO.Ug rfl (oLeq rfl rfl) rfl <| WO.D (fun h25 => ?_) (fun h25 => ?_)
 rotate_left
 ·refine WO.Ug rfl (oPkT rfl rfl) rfl <| WO.Ug rfl (oMv rfl) rfl <| WO.K rfl rfl ?_
  obtain ⟨r1, hr1, b1, rfl⟩ := light_run k a (by have := (few8 h11).ln; omega) (fun r hr => by have := (few8 h11).lr r hr; omega)
  refine WO.K rfl rfl <| WO.K rfl rfl <| WO.Ug rfl (oPkF rfl rfl) rfl <| WO.Ug rfl (oPkF rfl rfl) rfl <| WO.Ug rfl (oMv rfl) rfl <| WO.K rfl rfl ?_
  obtain ⟨r2, hr2, b2, rfl⟩ := single_run k a (by have := (few8 h11).ln; omega) (fun r hr => by have := (few8 h11).lr r hr; omega)
  refine WO.K rfl rfl <| WO.K rfl rfl <| WO.Ug rfl (oPkF rfl rfl) rfl <| WO.U (oPkF rfl rfl) rfl <| WO.nil <| WC.weak [(0, _), (1, _), (38, _)] ⟨rfl, rfl, rfl, trivial⟩ <| WC.cF rfl <| WC.skips <| WC.weak [(0, _), (1, _)] ⟨rfl, rfl, trivial⟩ ?_
  exact J3 h11 _
 refine WO.Ug rfl (oPkT rfl rfl) rfl <| WO.Ug rfl (oMv rfl) rfl <| WO.Ug rfl (oMv rfl) rfl ?_
 obtain ⟨r1, hr1, b1, rfl⟩ := light_run k a (by have := (few8 h11).ln; omega) (fun r hr => by have := (few8 h11).lr r hr; omega)
 refine WO.Ug rfl (oCall rfl (hr1) (by first | exact dc | exact dc1 | (simp [-data_sl]; done) | simp)) rfl <| WO.B (fun h29 => ?_) (fun h29 => ?_)
 ·refine WO.Ug rfl (oNot rfl) rfl <| WO.Ug rfl (oPkT rfl rfl) rfl <| WO.Ug rfl (oPkF rfl rfl) rfl <| WO.Ug rfl (oMv rfl) rfl <| WO.K rfl rfl ?_
  obtain ⟨r2, hr2, b2, rfl⟩ := single_run k a (by have := (few8 h11).ln; omega) (fun r hr => by have := (few8 h11).lr r hr; omega)
  refine WO.K rfl rfl <| WO.K rfl rfl <| WO.Ug rfl (oPkF rfl rfl) rfl <| WO.U (oPkF rfl rfl) rfl <| WO.nil <| WC.weak [(0, _), (1, _), (38, _)] ⟨rfl, rfl, rfl, trivial⟩ <| WC.cF rfl <| WC.skips <| WC.weak [(0, _), (1, _)] ⟨rfl, rfl, trivial⟩ ?_
  exact J3 h11 _
 refine WO.Ug rfl (oNot rfl) rfl <| WO.Ug rfl (oPkT rfl rfl) rfl <| WO.Ug rfl (oPkF rfl rfl) rfl <| WO.Ug rfl (oMv rfl) rfl <| WO.Ug rfl (oMv rfl) rfl ?_
 obtain ⟨r2, hr2, b2, rfl⟩ := single_run k a (by have := (few8 h11).ln; omega) (fun r hr => by have := (few8 h11).lr r hr; omega)
 refine WO.Ug rfl (oCall rfl (hr2) (by first | exact dc | exact dc1 | (simp [-data_sl]; done) | simp)) rfl <| WO.B (fun h35 => ?_) (fun h35 => ?_)
 ·refine WO.Ug rfl (oNot rfl) rfl <| WO.Ug rfl (oPkT rfl rfl) rfl <| WO.U (oPkF rfl rfl) rfl <| WO.nil <| WC.weak [(0, _), (1, _), (38, _)] ⟨rfl, rfl, rfl, trivial⟩ <| WC.cF rfl <| WC.skips <| WC.weak [(0, _), (1, _)] ⟨rfl, rfl, trivial⟩ ?_
  exact J3 h11 _
 refine WO.Ug rfl (oNot rfl) rfl <| WO.Ug rfl (oPkT rfl rfl) rfl <| WO.U (oPkF rfl rfl) rfl <| WO.nil <| WC.weak [(0, _), (1, _), (38, _)] ⟨rfl, rfl, rfl, trivial⟩ <| WC.cT rfl <| WC.assoc <| WC.reg (z := 2) rfl <| WO.U (oCall rfl (awake_run) (by first | exact dc | exact dc1 | (simp [-data_sl]; done) | simp)) rfl <| WO.U (oAs rfl) rfl <| WO.nil <| WC.weak [(4, _)] ⟨rfl, trivial⟩ <| WC.rets <| post (n := 0) (.inr rfl) rfl ?_ (by first | exact dc | exact dc1 | (simp [-data_sl]; done) | simp)
 rfl
end Go.Proofs.YtcmieifjephdcaaGreat
