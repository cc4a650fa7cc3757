/- Part F of the proof of matrixLaws_holds: what it rests on. No condition. -/
import Derived.Test.YtcmieifjephdcaaGreatLawE
set_option linter.unusedVariables false
set_option linter.unusedSimpArgs false
set_option maxRecDepth 100000
set_option maxHeartbeats 8000000
namespace Go.Proofs.YtcmieifjephdcaaGreat
open Go.Ab Go.RowKit
theorem mMul_run (k k2 : Nat) (a b : List M1) (hI : IM a) (hIb : IM b) (hF : Few8 a) (hFb : Few8 b) : Run Tryz.prog T E0 (.call 25 [.sl k (a.map fM), .sl k2 (b.map fM)] (lvMul a b)) := by
 have l1 := hF.ln
 have l2 : ∀ r, r ∈ a → r.2.length < 1099511627776 := fun r hr => by have := hF.lr r hr; omega
 have l3 := hFb.ln
 have l4 : ∀ r, r ∈ b → r.2.length < 1099511627776 := fun r hr => by have := hFb.lr r hr; omega
 refine mkcall Tryz.func25 rfl rfl (Nat.le_of_ble_eq_true rfl) ?_
 have J5 : ∀ (h8 : VM a = true) (h12 : VM b = true) (hdim : 0 < a.length → wd a = b.length) (n : Nat) , WC Tryz.prog T E0 Tryz.f25.ntmps (codeR (codeR (codeOf Tryz.f25))) [(0, .sl k (a.map fM)), (1, .sl k2 (b.map fM))] [] n (Post T Tryz.f25.results.toList (lvMul a b)) := by
  intro h8 h12 hdim n
  refine Rg 10 rfl ?_
  obtain ⟨f1, f2⟩ := VM.facts h8
  obtain ⟨f3, f4⟩ := VM.facts h12
  have hva : ∀ r, r ∈ a → ∀ x, x ∈ r.2 → VN x := fun r hr => (f2 r hr).2.2
  have hvb : ∀ r, r ∈ b → ∀ x, x ∈ r.2 → VN x := fun r hr => (f4 r hr).2.2
  have hw8 := wd_le h12 hFb
  have hxa : ∀ r, r ∈ a.map nxr → r.2.length = (b.map nxr).length := fun r hr => by
   obtain ⟨s, hs, rfl⟩ := List.mem_map.1 hr
   show (s.2.map nx).length = _
   rw [List.length_map, List.length_map, (f2 s hs).1]; exact hdim (List.length_pos_of_mem hs)
  have hxb : ∀ r, r ∈ b.map nxr → r.2.length = wd b := fun r hr => by
   obtain ⟨s, hs, rfl⟩ := List.mem_map.1 hr
   show (s.2.map nx).length = _
   rw [List.length_map]; exact (f4 s hs).1
  have hAb : ∀ r, r ∈ a.map nxr → ∀ x, x ∈ r.2 → Bd 2 x.1 := fun r hr x hx => by
   obtain ⟨s, hs, rfl⟩ := List.mem_map.1 hr
   obtain ⟨y, hy, rfl⟩ := List.mem_map.1 hx
   exact (hva s hs y hy).bd
  have hBb : ∀ r, r ∈ b.map nxr → ∀ x, x ∈ r.2 → Bd 2 x.1 := fun r hr x hx => by
   obtain ⟨s, hs, rfl⟩ := List.mem_map.1 hr
   obtain ⟨y, hy, rfl⟩ := List.mem_map.1 hx
   exact (hvb s hs y hy).bd
  obtain ⟨_, hr, rows, rfl, hrows⟩ := mmul_run (kd (a.map nxr).length) (kd (b.map nxr).length) (a.map nxr) (b.map nxr) 2 2 (by rw [List.length_map]; omega) (by rw [List.length_map]; omega) (by rw [wdx_nx]; omega) (by rw [wdx_nx]; exact hxb) hxa hAb hBb (by omega) (by rw [List.length_map]; omega)
  rw [vX_nx, vX_nx, wdx_nx] at hrows
  have hrl : rows.length = a.length := by have := congrArg List.length hrows; rw [prodR_len, vX_len] at this; simpa [vM] using this
  have hrw := vX_rows hrows prodR_row
  refine Um rfl rfl <| WO.U (oCall rfl (mrats_run k a (by omega) hI (fun r hr x hx => by have := (hva r hr x hx).1; omega) l2) (by first | exact dc | exact dc1 | (simp [-data_sl]; done) | simp)) rfl <| Um rfl rfl <| WO.U (oCall rfl (mrats_run k2 b (by omega) hIb (fun r hr x hx => by have := (hvb r hr x hx).1; omega) l4) (by first | exact dc | exact dc1 | (simp [-data_sl]; done) | simp)) rfl <| WO.U (oCall rfl (hr) (by first | exact dc | exact dc1 | (simp [-data_sl]; done) | simp)) rfl <| WO.U (OP.cast (b := lvOM (mulO a b)) (oCall rfl (mouts_run (kd rows.length) rows (by omega) (fun r hr => by rw [hrw r hr]; omega)) (by first | exact dc | exact dc1 | (simp [-data_sl]; done) | simp)) (by rw [outX_eq, hrows]; rfl)) rfl <| WO.U (oEx rfl rfl) rfl <| WO.U (oEx rfl rfl) rfl <| Ua rfl rfl <| Ua rfl rfl <| Wn <| WC.ret <| post (n := 0) (.inr rfl) rfl ?_ (by first | exact dc | exact dc1 | (simp [-data_sl]; done) | simp)
  rw [lvMul_ok h8 h12 hdim]; rfl
 refine Rg 2 rfl <| Ua rfl rfl <| Ua rfl rfl <| Wn <| WC.block <| Rg 9 rfl <| Um rfl rfl <| WO.U (oCall rfl (mvalid_run k a hI (by omega) (fun r hr => by have := l2 r hr; omega)) (by first | exact dc | exact dc1 | (simp [-data_sl]; done) | simp)) rfl <| WO.B (fun h8 => ?_) (fun h8 => ?_)
 rotate_left
 ·refine WO.U (oNot rfl) rfl <| Um rfl rfl <| WO.K rfl rfl <| WO.K rfl rfl <| WO.K rfl rfl <| WO.U (oPkT rfl rfl) rfl <| Ua rfl rfl <| Wn <| WC.cT1 rfl <| Rg 2 rfl <| Ua rfl rfl <| Ua rfl rfl <| Wn <| WC.ret <| after_ret <| post (n := 0) (.inr rfl) rfl ?_ (by first | exact dc | exact dc1 | (simp [-data_sl]; done) | simp)
  rw [lvMul_no1 (.inl h8)]; rfl
 refine WO.U (oNot rfl) rfl <| Um rfl rfl <| WO.Ug rfl (oMv rfl) rfl <| WO.Ug rfl (oCall rfl (mvalid_run k2 b hIb (by omega) (fun r hr => by have := l4 r hr; omega)) (by first | exact dc | exact dc1 | (simp [-data_sl]; done) | simp)) rfl <| WO.B (fun h12 => ?_) (fun h12 => ?_)
 rotate_left
 ·refine WO.Ug rfl (oNot rfl) rfl <| WO.U (oPkF rfl rfl) rfl <| Ua rfl rfl <| Wn <| WC.cT1 rfl <| Rg 2 rfl <| Ua rfl rfl <| Ua rfl rfl <| Wn <| WC.ret <| after_ret <| post (n := 0) (.inr rfl) rfl ?_ (by first | exact dc | exact dc1 | (simp [-data_sl]; done) | simp)
  rw [lvMul_no1 (.inr h12)]; rfl
 refine WO.Ug rfl (oNot rfl) rfl <| WO.U (oPkF rfl rfl) rfl <| Ua rfl rfl <| Wn <| WC.cF1 rfl <| Rg 11 rfl <| Um rfl rfl <| WO.U (oLenM rfl rfl) rfl <| WO.U (oGtr rfl rfl) rfl <| WO.D (fun h18 => ?_) (fun h18 => ?_)
 rotate_left
 ·refine Um rfl rfl <| WO.K rfl rfl <| WO.K rfl rfl <| WO.K rfl rfl <| WO.K rfl rfl <| WO.K rfl rfl <| WO.U (oPkF rfl rfl) rfl <| Ua rfl rfl <| Nw [(0, _), (1, _), (15, _)] ⟨rfl, rfl, rfl, trivial⟩ <| WC.cF1 rfl <| WC.skip <| after_normal <| WC.weak [(0, _), (1, _)] ⟨rfl, rfl, trivial⟩ ?_
  exact J5 h8 h12 (by omega) _
 refine Um rfl rfl <| WO.Ug rfl (oMv rfl) rfl <| WO.Ug rfl (oCall rfl (mwidth_run k a) (by first | exact dc | exact dc1 | (simp [-data_sl]; done) | simp)) rfl <| WO.Ug rfl (oMv rfl) rfl <| WO.Ug rfl (oLenM rfl rfl) rfl <| WO.Ug rfl (oNeq rfl rfl) rfl <| WO.D (fun h24 => ?_) (fun h24 => ?_)
 rotate_left
 ·refine WO.U (oPkT rfl rfl) rfl <| Ua rfl rfl <| Nw [(0, _), (1, _), (15, _)] ⟨rfl, rfl, rfl, trivial⟩ <| WC.cF1 rfl <| WC.skip <| after_normal <| WC.weak [(0, _), (1, _)] ⟨rfl, rfl, trivial⟩ ?_
  exact J5 h8 h12 (by omega) _
 refine WO.U (oPkT rfl rfl) rfl <| Ua rfl rfl <| Nw [(0, _), (1, _), (15, _)] ⟨rfl, rfl, rfl, trivial⟩ <| WC.cT1 rfl <| Rg 2 rfl <| Ua rfl rfl <| Ua rfl rfl <| Wn <| WC.ret <| after_ret <| post (n := 0) (.inr rfl) rfl ?_ (by first | exact dc | exact dc1 | (simp [-data_sl]; done) | simp)
 rw [lvMul_no2 h8 h12 (by omega) (by omega)]; rfl
theorem mApply_run (k k2 : Nat) (a : List M1) (x : List NM) (hI : IM a) (hIb : IV x) (hF : Few8 a) (lx : x.length ≤ 70) : Run Tryz.prog T E0 (.call 26 [.sl k (a.map fM), .sl k2 (x.map mc)] (lvApp a x)) := by
 have l1 := hF.ln
 have l2 : ∀ r, r ∈ a → r.2.length < 1099511627776 := fun r hr => by have := hF.lr r hr; omega
 refine mkcall Tryz.func26 rfl rfl (Nat.le_of_ble_eq_true rfl) ?_
 have J5 : ∀ (hVa : VM a = true) (hVb : VV x = true) (hdim : 0 < a.length → wd a = x.length) (n : Nat) , WC Tryz.prog T E0 Tryz.f26.ntmps (codeR (codeR (codeOf Tryz.f26))) [(0, .sl k (a.map fM)), (1, .sl k2 (x.map mc))] [] n (Post T Tryz.f26.results.toList (lvApp a x)) := by
  intro hVa hVb hdim n
  refine Rg 1 rfl ?_
  have hla : (a.map nxr).length = a.length := List.length_map _
  obtain ⟨f1, f2⟩ := VM.facts hVa
  obtain ⟨f3, hvb⟩ := VV.facts hVb
  have hva : ∀ r, r ∈ a → ∀ x, x ∈ r.2 → VN x := fun r hr => (f2 r hr).2.2
  refine Ua rfl rfl <| Wn <| Rg 3 rfl <| Um rfl rfl <| WO.U (oCall rfl (nrats_run k2 x (by omega) hIb (fun y hy => by have := (hvb y hy).1; omega)) (by first | exact dc | exact dc1 | (simp [-data_sl]; done) | simp)) rfl <| Ua rfl rfl <| Wn <| WC.assoc <| Rg 4 rfl <| Um rfl rfl <| WO.U (oCall rfl (mrats_run k a (by omega) hI (fun r hr x hx => by have := (hva r hr x hx).1; omega) l2) (by first | exact dc | exact dc1 | (simp [-data_sl]; done) | simp)) rfl <| WO.U (oLenM rfl rfl) rfl <| Um rfl rfl <| Wn <| WC.block <| WC.loopV (α := Nat × Nat × (List X)) (fun ⟨i, q, ds⟩ => [(6, outV q 4 (ds.map xc)), (7, .sl (kd (x.map nx).length) ((x.map nx).map xc)), (33, .sl (kd (a.map nxr).length) ((a.map nxr).map fX)), (34, .v (.int .i64 ((a.map nxr).length : Int))), (35, .v (.int .i64 (i : Int)))]) (fun ⟨i, q, ds⟩ => outH q 4 77 (ds.map xc) []) (fun ⟨i, q, ds⟩ n => i ≤ (a.map nxr).length ∧ ds.map (·.1) = ((vM a).take i).map (fun r => dotR r (x.map nq)) ∧ ds.length = i ∧ q < n) (fun ⟨i, q, ds⟩ => (a.map nxr).length - i) (0, 0, []) ⟨rfl, rfl, rfl, rfl, rfl, trivial⟩ trivial ⟨Nat.zero_le _, by simp, rfl, by omega⟩ ?_
  rintro ⟨i, q, ds⟩ n hF
  change WC _ _ _ _ _ [(6, outV q 4 (ds.map xc)), (7, .sl (kd (x.map nx).length) ((x.map nx).map xc)), (33, .sl (kd (a.map nxr).length) ((a.map nxr).map fX)), (34, .v (.int .i64 ((a.map nxr).length : Int))), (35, .v (.int .i64 (i : Int)))] (outH q 4 77 (ds.map xc) []) n _
  obtain ⟨hi, hds, hdl, hq⟩ := hF
  refine Rg 1 rfl <| WO.U (oLss rfl rfl) rfl <| WO.D (fun h36 => ?_) (fun h36 => ?_)
  rotate_left
  ·refine Wn <| WC.cF rfl <| WC.exits <| loopR_exit <| after_exit rfl <| Rg 6 rfl <| Um rfl rfl <| WO.S (OP.cast (b := lvOV (appO a x)) (oCallU rfl (by rw [outR_kd]; exact nouts_run _ ds (by rw [List.length_map] at *; omega)) (fun hu => outH_self hu) (by decide) (rows_of (n := 4) (fun _ => rfl)) (data_of dxc) (allData_of (by simp))) (congrArg lvOV (by
 have hap : (vM a).take i = vM a := List.take_of_length_le (by simp [vM] at *; omega)
 rw [hap] at hds
 rw [show (ds.mapM fun x => outN x.1) = (ds.map (·.1)).mapM outN from (mapM_map' outN (·.1) ds).symm, hds]; rfl))) rfl ?_
   refine WO.U (oEx rfl rfl) rfl <| WO.U (oEx rfl rfl) rfl <| Ua rfl rfl <| Ua rfl rfl <| Wn <| WC.ret <| post (n := 0) (.inr rfl) rfl ?_ (by first | exact dc | exact dc1 | (simp [-data_sl]; done) | simp)
   rw [lvApp_ok hVa hVb hdim]; rfl
  refine Wn <| WC.cT rfl <| WC.skips <| WC.block <| Rg 3 rfl <| WO.U (oIxM rfl rfl rfl rfl rfl (by omega) rfl) rfl <| WO.U (oLd rfl rfl rfl) rfl <| Ua rfl rfl <| WO.nil ?_
  have hro : ((a.map nxr).getD i default) = nxr (a.getD i default) := mapD (by rw [List.length_map] at *; omega)
  have hma := getD_mem (us := a) (i := i) (by rw [List.length_map] at *; omega)
  have hrl : ((a.map nxr).getD i default).2.length = x.length := by
   rw [hro]; show ((a.getD i default).2.map nx).length = _
   rw [List.length_map, (f2 _ hma).1]; exact hdim (List.length_pos_of_mem hma)
  have hAb : ∀ y, y ∈ ((a.map nxr).getD i default).2 → Bd 2 y.1 := fun y hy => by
   rw [hro] at hy
   obtain ⟨z, hz, rfl⟩ := List.mem_map.1 hy
   exact (hva _ hma z hz).bd
  have hBb : ∀ y, y ∈ x.map nx → Bd 2 y.1 := fun y hy => by
   obtain ⟨z, hz, rfl⟩ := List.mem_map.1 hy
   exact (hvb z hz).bd
  obtain ⟨_, hr, s, rfl, hs⟩ := mdot_run ((a.map nxr).getD i default).1 (kd (x.map nx).length) ((a.map nxr).getD i default).2 (x.map nx) 2 2 (by rw [List.length_map, hrl]; omega) (by rw [hrl]; omega) hAb hBb (by omega) (by rw [hrl]; omega)
  refine WC.reg1z (z := 7) rfl <| Um rfl rfl <| Um rfl rfl <| Um rfl rfl <| WO.U (oCall rfl (hr) (by first | exact dc | exact dc1 | (simp [-data_sl]; done) | simp)) rfl <| WO.U (oBs' (cs := [_, _, _, _]) (rows := [[_, _, _, _]]) rfl rfl (by decide) rfl rfl rfl) rfl <| WO.apM (te := ti77) (f := xc) (q := q) (us := ds) (u := s) rfl rfl rfl rfl rfl (fun _ => rfl) (by decide) (by rw [List.length_map] at *; show (2 * (ds.length + 1) + 256) * 64 ≤ _; omega) (by rw [List.length_map] at *; omega) rfl rfl rfl <| Ua rfl rfl <| Wn <| after_normal <| WC.weak [(6, _), (7, _), (33, _), (34, _), (35, _)] ⟨rfl, rfl, rfl, rfl, rfl, trivial⟩ <| WC.reg1z (z := 2) rfl <| WO.U (cI (((i + 1 : Nat) : Int)) (oAdd64 rfl rfl (by omega)) (by omega)) rfl <| Um rfl rfl <| Wn <| loopR_normal <| ⟨⟨i + 1, _, ds ++ [s]⟩, ⟨rfl, rfl, rfl, rfl, rfl, trivial⟩, subsM_out, ⟨by omega, ?_, by simp; omega, by omega⟩, by show (a.map nxr).length - (i + 1) < (a.map nxr).length - i; omega⟩
  rw [List.map_append, hds, take_map_succ (us := vM a) (f := (fun r => dotR r (x.map nq))) (by simp [vM] at *; omega)]
  congr 1
  show [s.1] = [dotR ((vM a).getD i default) (x.map nq)]
  have hvm : (vM a).getD i default = (a.getD i default).2.map nq := mapD (f := fun r : M1 => r.2.map nq) (by rw [List.length_map] at *; omega)
  rw [hvm, hs, hro]
  show [dotR (((a.getD i default).2.map nx).map (·.1)) ((x.map nx).map (·.1))] = _
  rw [List.map_map, List.map_map]; rfl
 refine Rg 2 rfl <| Ua rfl rfl <| Ua rfl rfl <| Wn <| WC.block <| Rg 9 rfl <| Um rfl rfl <| WO.U (oCall rfl (mvalid_run k a hI (by omega) (fun r hr => by have := l2 r hr; omega)) (by first | exact dc | exact dc1 | (simp [-data_sl]; done) | simp)) rfl <| WO.B (fun h12 => ?_) (fun h12 => ?_)
 rotate_left
 ·refine WO.U (oNot rfl) rfl <| Um rfl rfl <| WO.K rfl rfl <| WO.K rfl rfl <| WO.K rfl rfl <| WO.U (oPkT rfl rfl) rfl <| Ua rfl rfl <| Wn <| WC.cT1 rfl <| Rg 2 rfl <| Ua rfl rfl <| Ua rfl rfl <| Wn <| WC.ret <| after_ret <| post (n := 0) (.inr rfl) rfl ?_ (by first | exact dc | exact dc1 | (simp [-data_sl]; done) | simp)
  rw [lvApp_no1 (.inl h12)]; rfl
 refine WO.U (oNot rfl) rfl <| Um rfl rfl <| WO.Ug rfl (oMv rfl) rfl <| WO.Ug rfl (oCall rfl (vv_run k2 x hIb (by omega)) (by first | exact dc | exact dc1 | (simp [-data_sl]; done) | simp)) rfl <| WO.B (fun h16 => ?_) (fun h16 => ?_)
 rotate_left
 ·refine WO.Ug rfl (oNot rfl) rfl <| WO.U (oPkF rfl rfl) rfl <| Ua rfl rfl <| Wn <| WC.cT1 rfl <| Rg 2 rfl <| Ua rfl rfl <| Ua rfl rfl <| Wn <| WC.ret <| after_ret <| post (n := 0) (.inr rfl) rfl ?_ (by first | exact dc | exact dc1 | (simp [-data_sl]; done) | simp)
  rw [lvApp_no1 (.inr h16)]; rfl
 refine WO.Ug rfl (oNot rfl) rfl <| WO.U (oPkF rfl rfl) rfl <| Ua rfl rfl <| Wn <| WC.cF1 rfl <| Rg 11 rfl <| Um rfl rfl <| WO.U (oLenM rfl rfl) rfl <| WO.U (oGtr rfl rfl) rfl <| WO.D (fun h22 => ?_) (fun h22 => ?_)
 rotate_left
 ·refine Um rfl rfl <| WO.K rfl rfl <| WO.K rfl rfl <| WO.K rfl rfl <| WO.K rfl rfl <| WO.K rfl rfl <| WO.U (oPkF rfl rfl) rfl <| Ua rfl rfl <| Nw [(0, _), (1, _), (19, _)] ⟨rfl, rfl, rfl, trivial⟩ <| WC.cF1 rfl <| WC.skip <| after_normal <| WC.weak [(0, _), (1, _)] ⟨rfl, rfl, trivial⟩ ?_
  exact J5 h12 h16 (by omega) _
 refine Um rfl rfl <| WO.Ug rfl (oMv rfl) rfl <| WO.Ug rfl (oCall rfl (mwidth_run k a) (by first | exact dc | exact dc1 | (simp [-data_sl]; done) | simp)) rfl <| WO.Ug rfl (oMv rfl) rfl <| WO.Ug rfl (oLenM rfl rfl) rfl <| WO.Ug rfl (oNeq rfl rfl) rfl <| WO.D (fun h28 => ?_) (fun h28 => ?_)
 rotate_left
 ·refine WO.U (oPkT rfl rfl) rfl <| Ua rfl rfl <| Nw [(0, _), (1, _), (19, _)] ⟨rfl, rfl, rfl, trivial⟩ <| WC.cF1 rfl <| WC.skip <| after_normal <| WC.weak [(0, _), (1, _)] ⟨rfl, rfl, trivial⟩ ?_
  exact J5 h12 h16 (by omega) _
 refine WO.U (oPkT rfl rfl) rfl <| Ua rfl rfl <| Nw [(0, _), (1, _), (19, _)] ⟨rfl, rfl, rfl, trivial⟩ <| WC.cT1 rfl <| Rg 2 rfl <| Ua rfl rfl <| Ua rfl rfl <| Wn <| WC.ret <| after_ret <| post (n := 0) (.inr rfl) rfl ?_ (by first | exact dc | exact dc1 | (simp [-data_sl]; done) | simp)
 rw [lvApp_no2 h12 h16 (by omega) (by omega)]; rfl
end Go.Proofs.YtcmieifjephdcaaGreat
set_option linter.unusedVariables false
set_option linter.unusedSimpArgs false
set_option maxRecDepth 100000
set_option maxHeartbeats 8000000
namespace Go.Proofs.YtcmieifjephdcaaGreat
open Go.Ab Go.RowKit
theorem mreduced_own (rows0 : List X1) (cols w : Nat) (hne : 0 < rows0.length) (ln : rows0.length < 1000000) (hw : Wid w (vX rows0)) (hcw : cols ≤ w) (hc10 : cols ≤ 10) (lw : w < 1000000) (hb : BdL 2 (vX rows0)) : ∃ sz len ob rest, Run Tryz.prog T E0 (.callO 52 [.sl 1 (rows0.map fX), .v (.int .i64 (cols : Int))] (.tup (.ref 0 sz 0 len :: rest)) ob) ∧ sz = 1 ∧ ∃ (rows : List X1) (d : X), len = rows.length ∧ ob = { cells := (rows.map fX).flatten, sz := 1, elem := 62, st := 0 } ∧ rest = [.sl (kd (gjn (vX rows0) cols).2.length) ((gjn (vX rows0) cols).2.map d64), lvX d] ∧ vX rows = (gjn (vX rows0) cols).1 := by
 refine mkcallOt Tryz.func52 rfl rfl (Nat.le_of_ble_eq_true rfl) ((mreduced_wc rows0 cols w hne ln hw hcw hc10 lw hb).mono ?_)
 rintro x e h n ⟨hx, q, rows, d, h1, h2, h3, h4, h5⟩
 refine ⟨hx, 1, rows.length, _, 4, q, 1, 3, _, [lvX d], ⟨rfl, rows, d, rfl, rfl, by rw [outR_kd], h1⟩, h3, h4, rfl, rfl, ?_, fun hu => ⟨?_, h5 hu⟩, by decide, rows_of (n := 1) (fun _ => rfl), data_rows_d64, by simp⟩
 ·intro c hc
  obtain ⟨row, hr, hc⟩ := List.mem_flatten.1 hc
  exact data_of dfX row hr c hc
 ·intro hq
  have h6 := h5 hu
  rw [← hq, h4] at h6
  exact absurd (congrArg Ob.elem (Option.some.inj h6)) (by show ¬ (62 : Nat) = 3; decide)
theorem msquare_run (k : Nat) (a : List M1) : Run Tryz.prog T E0 (.call 57 [.sl k (a.map fM)] (.v (.bool (sqb a)))) := by
 refine mkcall Tryz.func57 rfl rfl (Nat.le_of_ble_eq_true rfl) <| Rg 1 rfl <| Ua rfl rfl <| Wn <| Rg 11 rfl <| Um rfl rfl <| WO.U (oLenM rfl rfl) rfl <| WO.U (oEql rfl rfl) rfl <| WO.D (fun h5 => ?_) (fun h5 => ?_)
 ·refine Um rfl rfl <| WO.K rfl rfl <| WO.K rfl rfl <| WO.K rfl rfl <| WO.K rfl rfl <| WO.K rfl rfl <| WO.U (oPkT rfl rfl) rfl <| Ua rfl rfl <| Wn <| WC.ret <| post (n := 0) (.inr rfl) rfl ?_ (by first | exact dc | exact dc1 | (simp [-data_sl]; done) | simp)
  exact congrArg (fun z => LV.v (.bool z)) (show true = sqb a by unfold sqb; rw [decide_eq_true (by omega)]; rfl)
 refine Um rfl rfl <| WO.Ug rfl (oMv rfl) rfl <| WO.Ug rfl (oCall rfl (mwidth_run k a) (by first | exact dc | exact dc1 | (simp [-data_sl]; done) | simp)) rfl <| WO.Ug rfl (oMv rfl) rfl <| WO.Ug rfl (oLenM rfl rfl) rfl <| WO.Ug rfl (oEql rfl rfl) rfl <| WO.U (oPkF rfl rfl) rfl <| Ua rfl rfl <| Wn <| WC.ret <| post (n := 0) (.inr rfl) rfl ?_ (by first | exact dc | exact dc1 | (simp [-data_sl]; done) | simp)
 refine congrArg (fun z => LV.v (.bool z)) (?_ : _ = sqb a)
 unfold sqb; rw [decide_eq_false (show ¬ a.length = 0 by omega), Bool.false_or]; exact decide_eq_decide.2 (by omega)
theorem mone_run (m : Nat) (lm : m < 100000) : Run Tryz.prog T E0 (.call 59 [.v (.int .i64 (m : Int))] (.sl 1 (((List.range m).map fun i => (((1 : Nat), uX m i) : X1)).map fX))) := by
 refine mkcall Tryz.func59 rfl rfl (Nat.le_of_ble_eq_true rfl) <| Rg 1 rfl <| Ua rfl rfl <| Wn <| Rg 3 rfl <| Um rfl rfl <| WO.S (oMk (a := m) (b := m) rfl rfl rfl rfl (by omega) (by omega) (by decide) (by omega) (by show 24 * m ≤ _; omega) (by omega)) rfl <| Ua rfl rfl <| Wn <| WC.assoc <| Rg 2 rfl <| Um rfl rfl <| Um rfl rfl <| Wn <| WC.block <| WC.loopV (α := Nat × (List LV)) (fun ⟨i, cs⟩ => [(0, .v (.int .i64 (m : Int))), (3, .ref 2 1 0 m), (7, .v (.int .i64 (m : Int))), (8, .v (.int .i64 (i : Int)))]) (fun ⟨i, cs⟩ => [(2, { cells := (cs.map one1).flatten, sz := 1, elem := 62, st := 0 })]) (fun ⟨i, cs⟩ n => i ≤ m ∧ cs.length = m ∧ (∀ j, j < i → cs.getD j default = .sl 1 ((uX m j).map xc)) ∧ 2 < n) (fun ⟨i, cs⟩ => m - i) (0, List.replicate m (.sl 0 [])) ⟨rfl, rfl, rfl, rfl, trivial⟩ ⟨g0.trans (by rw [List.map_replicate]; rfl), trivial⟩ ⟨Nat.zero_le _, by simp, by intro j hj; omega, by omega⟩ ?_
 rintro ⟨i, cs⟩ n hF
 change WC _ _ _ _ _ [(0, .v (.int .i64 (m : Int))), (3, .ref 2 1 0 m), (7, .v (.int .i64 (m : Int))), (8, .v (.int .i64 (i : Int)))] ([(2, { cells := (cs.map one1).flatten, sz := 1, elem := 62, st := 0 })]) n _
 obtain ⟨hi, hcl, hcs, hn⟩ := hF
 refine Rg 1 rfl <| WO.U (oLss rfl rfl) rfl <| WO.D (fun h9 => ?_) (fun h9 => ?_)
 rotate_left
 ·refine Wn <| WC.cF rfl <| WC.exits <| loopR_exit <| after_exit rfl <| Rg 2 rfl <| Um rfl rfl <| Ua rfl rfl <| Wn <| WC.ret ?_
  have hcs' : cs = (List.range m).map fun i => .sl 1 ((uX m i).map xc) := by
   refine glist_eq (by simp [hcl]) fun j hj => ?_
   rw [hcs j (by omega), range_getD (by omega)]
  refine postRef (n := 0) _ (.inr rfl) rfl (by simp) g0 (by show (0 : Nat) ≠ 2; decide) rfl (by decide) ?_ (rows_of (n := 1) (fun _ => rfl)) (data_of dfX)
  rw [hcs', List.map_map, List.map_map]; rfl
 refine Wn <| WC.cT rfl <| WC.skips <| WC.block <| Rg 2 rfl <| Um rfl rfl <| Ua rfl rfl <| Wn <| Rg 6 rfl <| Um rfl rfl <| Um rfl rfl <| Um rfl rfl <| WO.S (oMk (a := m) (b := m) rfl rfl rfl rfl (by omega) (by omega) (by decide) (by omega) (by show 64 * m ≤ _; omega) (by omega)) rfl <| WO.U (oIxR rfl rfl rfl rfl rfl (by omega) rfl) rfl <| WO.S0 (oStO (f := one1) (us := cs) (.ref (n + 1 + 2 + 3) 4 0 m) rfl rfl rfl (g1 (by omega) g0) (fun _ => rfl) rfl rfl (by omega) rfl) <| Wn <| WC.draw1z (z := 8) rfl (by kernel_rfl) <| Dm rfl rfl <| Dm rfl rfl <| WD.U (oIxR rfl rfl rfl rfl rfl (by omega) rfl) rfl <| WD.U (OP.cast (b := .ref (n + 1 + 2 + 3) 4 0 m) (oLdO (f := one1) (us := cs.set i (.ref (n + 1 + 2 + 3) 4 0 m)) (j := i) rfl rfl g0 (fun _ => rfl) rfl (by decide) (by rw [List.length_set]; omega) rfl) (by rw [gset_getD (by omega), if_pos rfl])) rfl <| Dm rfl rfl <| WD.U (oCall rfl (whole_run 1 (by unfold I64; omega)) (by first | exact dc | exact dc1 | (simp [-data_sl]; done) | simp)) rfl <| WD.U (oIxR rfl rfl rfl rfl rfl (by omega) rfl) rfl ?_
 refine WD.S0 (oStO (f := xc) (us := List.replicate m x0) (xint 1) rfl rfl rfl (g1 (by omega) (g0.trans (by rw [List.map_replicate]; rfl))) (fun _ => rfl) rfl rfl (by rw [List.length_replicate]; omega) rfl) <| WD.nil (drawOk_of (by kernel_rfl)) rfl <| after_normal <| WC.weak [(0, _), (3, _), (7, _), (8, _)] ⟨rfl, rfl, rfl, rfl, trivial⟩ ?_
 have hux : (uX m i).map xc ≠ [] := by intro h; have := congrArg List.length h; rw [List.length_map, uX_len] at this; simp at this; omega
 refine WC.weakM (outH (n + 1 + 2 + 3) 4 77 ((uX m i).map xc) [(2, { cells := ((cs.set i (.ref (n + 1 + 2 + 3) 4 0 m)).map one1).flatten, sz := 1, elem := 62, st := 0 })]) (subsM_mk (fun _ => g0) (g1 (by omega) g0)) <| WC.reg1F (z := 2) rfl <| WO.U (cI (((i + 1 : Nat) : Int)) (oAdd64 rfl rfl (by omega)) (by omega)) rfl <| Um rfl rfl <| Wn <| Fz.cell (j := i) (q := n + 1 + 2 + 3) (us := (uX m i).map xc) [(0, _), (3, _), (7, _), (8, _)] ⟨rfl, rfl, rfl, rfl, trivial⟩ (by rw [List.length_set]; omega) (by rw [gset_getD (by omega), if_pos rfl, outV_ne hux, List.length_map, uX_len]) (by omega) (by decide) (rows_of (n := 4) (fun _ => rfl)) (data_of dxc) ?_
 rw [outR_kd]
 refine loopR_normal <| ⟨⟨i + 1, (cs.set i (.ref (n + 1 + 2 + 3) 4 0 m)).set i (.sl (kd (uX m i).length) ((uX m i).map xc))⟩, ⟨rfl, rfl, rfl, rfl, trivial⟩, ⟨g0, trivial⟩, ⟨by omega, by rw [List.length_set, List.length_set]; exact hcl, ?_, by omega⟩, by show m - (i + 1) < m - i; omega⟩
 intro j hj
 rw [gset_getD (by rw [List.length_set]; omega)]
 by_cases e : i = j
 ·subst e; rw [if_pos rfl, uX_len, kd, if_neg (by omega)]
 ·rw [if_neg e, gset_getD (by omega), if_neg e]; exact hcs j (by omega)
end Go.Proofs.YtcmieifjephdcaaGreat
set_option linter.unusedVariables false
set_option linter.unusedSimpArgs false
set_option maxRecDepth 100000
set_option maxHeartbeats 8000000
namespace Go.Proofs.YtcmieifjephdcaaGreat
open Go.Ab Go.RowKit
theorem minverse_run (k : Nat) (a : List M1) (hI : IM a) (hF : Few8 a) (hne : 0 < a.length) : Run Tryz.prog T E0 (.call 22 [.sl k (a.map fM)] (lvInv a)) := by
 have l1 := hF.ln
 have l2 : ∀ r, r ∈ a → r.2.length < 1099511627776 := fun r hr => by have := hF.lr r hr; omega
 refine mkcall Tryz.func22 rfl rfl (Nat.le_of_ble_eq_true rfl) <| WC.weak [(0, _)] ⟨rfl, trivial⟩ <| Rg 2 rfl <| Ua rfl rfl <| Ua rfl rfl <| Nw [(0, _)] ⟨rfl, trivial⟩ <| WC.block <| Rg 4 rfl <| Um rfl rfl <| WO.U (oCall rfl (mvalid_run k a hI (by omega) (fun r hr => by have := l2 r hr; omega)) (by first | exact dc | exact dc1 | (simp [-data_sl]; done) | simp)) rfl <| WO.B (fun h15 => ?_) (fun h15 => ?_)
 rotate_left
 ·refine WO.U (oNot rfl) rfl <| Ua rfl rfl <| Nw [(0, _), (13, _)] ⟨rfl, rfl, trivial⟩ <| WC.cT1 rfl <| Rg 2 rfl <| Ua rfl rfl <| Ua rfl rfl <| Nw [(2, _), (3, _)] ⟨rfl, rfl, trivial⟩ <| WC.ret <| after_ret <| post (n := 0) (.inr rfl) rfl ?_ (by first | exact dc | exact dc1 | (simp [-data_sl]; done) | simp)
  rw [lvInv_no1 h15]; rfl
 refine WO.U (oNot rfl) rfl <| Ua rfl rfl <| Nw [(0, _), (13, _)] ⟨rfl, rfl, trivial⟩ <| WC.cF1 rfl <| Rg 4 rfl <| Um rfl rfl <| WO.U (oCall rfl (msquare_run k a) (by first | exact dc | exact dc1 | (simp [-data_sl]; done) | simp)) rfl <| WO.B (fun h19 => ?_) (fun h19 => ?_)
 rotate_left
 ·refine WO.U (oNot rfl) rfl <| Ua rfl rfl <| Nw [(0, _), (17, _)] ⟨rfl, rfl, trivial⟩ <| WC.cT1 rfl <| Rg 2 rfl <| Ua rfl rfl <| Ua rfl rfl <| Nw [(2, _), (3, _)] ⟨rfl, rfl, trivial⟩ <| WC.ret <| after_ret <| post (n := 0) (.inr rfl) rfl ?_ (by first | exact dc | exact dc1 | (simp [-data_sl]; done) | simp)
  rw [lvInv_no2 h15 h19]; rfl
 refine WO.U (oNot rfl) rfl <| Ua rfl rfl <| Nw [(0, _), (17, _)] ⟨rfl, rfl, trivial⟩ <| WC.cF1 rfl <| WC.skip <| after_normal <| WC.weak [(0, _)] ⟨rfl, trivial⟩ ?_
 obtain ⟨f1, f2⟩ := VM.facts h15
 have hvn : ∀ r, r ∈ a → ∀ x, x ∈ r.2 → VN x := fun r hr => (f2 r hr).2.2
 have hw8 := wd_le h15 hF
 have hsq := sqb_wd h19
 have hmr := mrats_run k a (by omega) hI (fun r hr x hx => by have := (hvn r hr x hx).1; omega) l2
 obtain ⟨al, hal⟩ : ∃ al, al = a.map nxr := ⟨_, rfl⟩
 have hl8 : al.length = a.length := by rw [hal]; simp
 have hw : ∀ r, r ∈ al → r.2.length = al.length := fun r hr => by
  rw [hal] at hr; obtain ⟨s, hs, rfl⟩ := List.mem_map.1 hr
  show (s.2.map nx).length = _; rw [List.length_map, (f2 s hs).1, hsq, hl8]
 have hk : ∀ r, r ∈ al → r.1 = kd r.2.length := fun r hr => by
  rw [hal] at hr; obtain ⟨s, hs, rfl⟩ := List.mem_map.1 hr; rfl
 have hvm : vX al = vM a := by rw [hal]; exact vX_nx a
 have hba : BdL 2 (vX al) := by rw [hvm]; exact vM_bd h15
 rw [← hal] at hmr
 have hvmr := congrArg List.length hvm
 have hiS : invS a = gjn (wU (vX al)) al.length := by unfold invS; rw [hvm, hl8]
 rw [kd, if_neg (by omega)] at hmr
 refine Rg 3 rfl <| Um rfl rfl <| WO.U (cI ((al.length : Int)) (oLenM rfl rfl) (by simp [hl8])) rfl <| Ua rfl rfl <| Nw [(0, _), (4, _)] ⟨rfl, rfl, trivial⟩ <| Rg 1 rfl <| Ua rfl rfl <| Nw [(0, _), (4, _), (5, _)] ⟨rfl, rfl, rfl, trivial⟩ <| Rg 3 rfl <| Um rfl rfl <| WO.U (oCall rfl (mone_run al.length (by omega)) (by first | exact dc | exact dc1 | (simp [-data_sl]; done) | simp)) rfl <| Ua rfl rfl <| Nw [(0, _), (4, _), (5, _), (6, _)] ⟨rfl, rfl, rfl, rfl, trivial⟩ <| WC.assoc <| Rg 4 rfl <| Um rfl rfl <| WO.U (oCall rfl (hmr) (by first | exact dc | exact dc1 | (simp [-data_sl]; done) | simp)) rfl <| WO.U (oLenM rfl rfl) rfl <| Um rfl rfl <| Nw [(4, _), (5, _), (6, _), (26, _), (27, _), (28, _)] ⟨rfl, rfl, rfl, rfl, rfl, rfl, trivial⟩ ?_
 refine WC.block <| WC.loopV (α := Nat × Nat × (List X1)) (fun ⟨i, q, ds⟩ => [(4, .v (.int .i64 (al.length : Int))), (5, outV q 1 (ds.map fX)), (6, .sl 1 (((List.range al.length).map fun i => (((1 : Nat), uX al.length i) : X1)).map fX)), (26, .sl 1 (al.map fX)), (27, .v (.int .i64 (al.length : Int))), (28, .v (.int .i64 (i : Int)))]) (fun ⟨i, q, ds⟩ => outH q 1 62 (ds.map fX) []) (fun ⟨i, q, ds⟩ n => i ≤ al.length ∧ ds = (List.range i).map (wUX al) ∧ ds.length = i ∧ q < n) (fun ⟨i, q, ds⟩ => al.length - i) (0, 0, []) ⟨rfl, rfl, rfl, rfl, rfl, rfl, trivial⟩ trivial ⟨Nat.zero_le _, rfl, rfl, by omega⟩ ?_
 rintro ⟨i, q, ds⟩ n hF
 change WC _ _ _ _ _ [(4, .v (.int .i64 (al.length : Int))), (5, outV q 1 (ds.map fX)), (6, .sl 1 (((List.range al.length).map fun i => (((1 : Nat), uX al.length i) : X1)).map fX)), (26, .sl 1 (al.map fX)), (27, .v (.int .i64 (al.length : Int))), (28, .v (.int .i64 (i : Int)))] (outH q 1 62 (ds.map fX) []) n _
 obtain ⟨hi, hds, hdl, hq⟩ := hF
 refine Rg 1 rfl <| WO.U (oLss rfl rfl) rfl <| WO.D (fun h29 => ?_) (fun h29 => ?_)
 ·refine Nw [(4, _), (5, _), (6, _), (26, _), (27, _), (28, _), (29, _)] ⟨rfl, rfl, rfl, rfl, rfl, rfl, rfl, trivial⟩ <| WC.cT rfl <| WC.skips <| WC.block <| Rg 5 rfl <| Um rfl rfl <| WO.U (oIxM rfl rfl rfl rfl rfl (by omega) rfl) rfl <| WO.U (oLd rfl rfl rfl) rfl <| Ua rfl rfl <| Ua rfl rfl <| Nw [(4, _), (5, _), (6, _), (7, _), (8, _), (26, _), (27, _), (28, _)] ⟨rfl, rfl, rfl, rfl, rfl, rfl, rfl, rfl, trivial⟩ ?_
  have hm := getD_mem (us := al) (i := i) (by omega)
  have hrw := hw _ hm
  have hrk := hk _ hm
  have hc0 : ((al.getD i default).2.map xc) = [] → Run Tryz.prog T E0 (.call 60 [.sl (al.getD i default).1 ((al.getD i default).2.map xc)] (.sl 0 [])) := fun h => by
   rw [hrk, xc_nil h]; exact clone1_nil
  have hc1 : ((al.getD i default).2.map xc) ≠ [] → Run Tryz.prog T E0 (.callO 60 [.sl (al.getD i default).1 ((al.getD i default).2.map xc)] (.ref 0 4 0 ((al.getD i default).2.map xc).length) { cells := ((al.getD i default).2.map xc).flatten, sz := 4, elem := 77, st := 0 }) := fun h => by
   have h2 : 0 < (al.getD i default).2.length := by
    rcases Nat.eq_zero_or_pos (al.getD i default).2.length with h3 | h3
    ·exact absurd (by rw [List.length_eq_zero_iff.1 h3]; rfl) h
    ·exact h3
   obtain ⟨_, _, _, h4, rfl, rfl, rfl⟩ := clone1_own (al.getD i default).1 (al.getD i default).2 (by rw [hrk, kd, if_neg (by omega)]; decide) h2 (by omega)
   rw [List.length_map]; exact h4
  have hux : (uX al.length i).length = al.length := uX_len _ _
  have hul : ((List.range al.length).map fun i => (((1 : Nat), uX al.length i) : X1)).length = al.length := by simp
  refine WC.draw1F (z := 11) rfl (by kernel_rfl) <| Dm rfl rfl <| Dm rfl rfl <| WD.callV (us := (al.getD i default).2.map xc) (sz := 4) (el := 77) rfl hc0 hc1 (by first | exact dc | exact dc1 | (simp [-data_sl]; done) | simp) rfl <| Dm rfl rfl <| Dm rfl rfl <| WD.U (oIxM (j := i) rfl rfl rfl rfl (by omega) (by omega) rfl) rfl <| WD.U (OP.cast (b := .sl 1 ((uX al.length i).map xc)) (oLd rfl rfl rfl) (by rw [range_getD (by omega)])) rfl <| WD.ap (te := ti77) (k0 := 0) (us := (al.getD i default).2.map xc) (rows := (uX al.length i).map xc) (.inl rfl) rfl rfl rfl rfl rfl (by decide) (rows_of (n := 4) (fun _ => rfl)) (rows_of (n := 4) (fun _ => rfl)) (by rw [List.length_map, hux]; omega) (by rw [List.length_map, List.length_map, hrw, hux]; show (2 * (al.length + al.length) + 256) * 64 ≤ _; omega) (by rw [List.length_map, List.length_map, hrw, hux]; show al.length + al.length < _; omega) (outH_get (by omega) rfl) rfl <| WD.U (oBs' (cs := [_]) (rows := [[_]]) rfl rfl (by decide) rfl rfl rfl) rfl <| WD.weakH _ (outH_swap (by omega)) <| WD.ap (te := ti62) (k0 := 0) (us := ds.map fX) (rows := [[_]]) (.inl rfl) rfl rfl rfl (by rw [outK_zero]; rfl) rfl (by decide) (by intro r hr; rw [List.mem_singleton] at hr; subst hr; rfl) (rows_of (n := 1) (fun _ => rfl)) (by simp) (by rw [List.length_map]; show (2 * (ds.length + 1) + 256) * 24 ≤ _; omega) (by rw [List.length_map]; show ds.length + 1 < _; omega) (g1 (by omega) rfl) rfl <| WD.U (oAs rfl) rfl <| WD.nil (drawOk_ren (rn n) (by simp only [List.reverse_cons, List.reverse_nil, List.nil_append, List.cons_append, List.map_cons, List.map_nil, ren, Nat.add_assoc, rn_add, rn_lt hq]; kernel_rfl)) rfl <| Fz.rows (d := 5) ds (wUX al i) (ys := ((al.getD i default).2 ++ (uX al.length i)).map xc) [(4, _), (6, _), (26, _), (27, _), (28, _)] ⟨rfl, rfl, rfl, rfl, rfl, trivial⟩ rfl (by simp) rfl (by omega) (by simp) (by decide) (by simp) (rows_of (n := 4) (fun _ => rfl)) (data_of dxc) <| after_normal <| WC.weak [(4, _), (5, _), (6, _), (26, _), (27, _), (28, _)] ⟨rfl, rfl, rfl, rfl, rfl, rfl, trivial⟩ <| WC.reg1z (z := 2) rfl <| WO.U (cI (((i + 1 : Nat) : Int)) (oAdd64 rfl rfl (by omega)) (by omega)) rfl <| Um rfl rfl <| Wn <| loopR_normal ?_
  refine ⟨⟨i + 1, _, ds ++ [wUX al i]⟩, ⟨rfl, rfl, rfl, rfl, rfl, rfl, trivial⟩, subsM_out, ⟨by omega, by rw [List.range_succ, List.map_append, hds]; rfl, by simp; omega, by omega⟩, by show al.length - (i + 1) < al.length - i; omega⟩
 refine Nw [(4, _), (5, _), (6, _), (26, _), (27, _), (28, _), (29, _)] ⟨rfl, rfl, rfl, rfl, rfl, rfl, rfl, trivial⟩ <| WC.cF rfl <| WC.exits <| loopR_exit <| after_exit rfl <| WC.weak [(4, _), (5, _)] ⟨rfl, rfl, trivial⟩ ?_
 obtain ⟨d0, dt, rfl⟩ : ∃ d0 dt, ds = d0 :: dt := by
  cases ds with
  | nil => simp at hdl; omega
  | cons d dt => exact ⟨d, dt, rfl⟩
 obtain rfl : i = al.length := by omega
 have hvw : vX (d0 :: dt) = wU (vX al) := by rw [hds]; exact vX_wU al
 have hwid : Wid (al.length + al.length) (wU (vX al)) := by
  have h := wU_wid (A := vX al) (w := al.length) (fun r hr => by obtain ⟨s, hs, rfl⟩ := List.mem_map.1 hr; rw [List.length_map]; exact hw s hs)
  rwa [vX_len] at h
 have hbd : BdL 2 (wU (vX al)) := wU_bd (by decide) hba
 obtain ⟨sz, len, ob, rest, hr, rfl, rows, d, rfl, rfl, rfl, hrows⟩ := mreduced_own (d0 :: dt) al.length (al.length + al.length) (by simp) (by omega) (by rw [hvw]; exact hwid) (by omega) (by omega) (by omega) (by rw [hvw]; exact hbd)
 rw [hvw] at hr hrows
 obtain ⟨_, gw, gl, gc⟩ := GInv.all hbd hwid al.length
 have hrl : rows.length = al.length := by
  have := congrArg List.length hrows
  rw [gjn_len, wU_len, vX_len, vX_len] at this; exact this
 rw [wU_len, vX_len] at gl
 rw [← hiS] at hr hrows gw gl
 have hwr := wid_vX gw hrows
 clear hiS hvmr
 refine Rg 11 rfl <| Um rfl rfl <| Um rfl rfl <| WO.S (oCallOF [.sl 1 ((d0 :: dt).map fX), .v (.int .i64 (al.length : Int))] [(q, { cells := ((d0 :: dt).map fX).flatten, sz := 1, elem := 62, st := 1 })] rfl hr (.own (ob := { cells := ((d0 :: dt).map fX).flatten, sz := 1, elem := 62, st := 0 }) ((d0 :: dt).map fX) (by simp) g0 (by show (0 : Nat) ≠ 2; decide) rfl (by decide) (by simp [keys]) rfl (rows_of (n := 1) (fun _ => rfl)) (data_of dfX) (.data (.v _) .nil)) (by intro p hp; rw [List.mem_singleton] at hp; subst hp; exact ⟨_, g0, by show (0 : Nat) ≠ 2; decide, rfl⟩)) rfl <| Um rfl rfl <| WO.U (oEx rfl rfl) rfl <| WO.U (oEx rfl rfl) rfl <| WO.U (oEx rfl rfl) rfl <| WO.S (oAl rfl) rfl <| Ua rfl rfl <| Ua rfl rfl <| WO.S0 (oSt (cs' := [_, _, _, _]) rfl rfl rfl g0 rfl rfl rfl rfl) <| Nw [(4, _), (9, _), (10, _)] ⟨rfl, rfl, rfl, trivial⟩ <| WC.assoc <| Rg 4 rfl <| Um rfl rfl <| WO.U (oLenM rfl rfl) rfl <| Um rfl rfl <| WO.U (oLss rfl rfl) rfl <| WO.D (fun h54 => ?_) (fun h54 => ?_)
 ·refine Nw [(4, _), (9, _), (54, _)] ⟨rfl, rfl, rfl, trivial⟩ <| WC.cT rfl <| WC.assoc <| Rg 2 rfl <| Ua rfl rfl <| Ua rfl rfl <| Nw [(2, _), (3, _)] ⟨rfl, rfl, trivial⟩ <| WC.rets <| post (n := 0) (.inr rfl) rfl ?_ (by first | exact dc | exact dc1 | (simp [-data_sl]; done) | simp)
  rw [lvInv_no3 h15 h19 (by omega)]; rfl
 refine Nw [(4, _), (9, _), (54, _)] ⟨rfl, rfl, rfl, trivial⟩ <| WC.cF rfl <| WC.skips <| WC.assoc <| Rg 3 rfl <| Um rfl rfl <| WO.U (oLenR rfl rfl) rfl <| Um rfl rfl <| Nw [(4, _), (9, _), (56, _), (57, _)] ⟨rfl, rfl, rfl, rfl, trivial⟩ <| WC.block <| WC.loopV (α := Nat × Nat × (List X1)) (fun ⟨i, q2, cs⟩ => [(4, .v (.int .i64 (al.length : Int))), (9, .ref q2 1 0 rows.length), (56, .v (.int .i64 (rows.length : Int))), (57, .v (.int .i64 (i : Int)))]) (fun ⟨i, q2, cs⟩ => [(q2, { cells := (cs.map fX).flatten, sz := 1, elem := 62, st := 0 })]) (fun ⟨i, q2, cs⟩ n => i ≤ rows.length ∧ cs = (rows.take i).map (cutX al.length) ++ rows.drop i) (fun ⟨i, q2, cs⟩ => rows.length - i) (0, _, rows) ⟨rfl, rfl, rfl, rfl, trivial⟩ ⟨(by repeat (first | exact g0 | refine g1 (by omega) ?_)), trivial⟩ ⟨Nat.zero_le _, rfl⟩ ?_
 rintro ⟨i, q2, cs⟩ n hF
 change WC _ _ _ _ _ [(4, .v (.int .i64 (al.length : Int))), (9, .ref q2 1 0 rows.length), (56, .v (.int .i64 (rows.length : Int))), (57, .v (.int .i64 (i : Int)))] ([(q2, { cells := (cs.map fX).flatten, sz := 1, elem := 62, st := 0 })]) n _
 obtain ⟨hi, hcs⟩ := hF
 have hcl : cs.length = rows.length := by rw [hcs, half_len hi]
 refine Rg 1 rfl <| WO.U (oLss rfl rfl) rfl <| WO.D (fun h58 => ?_) (fun h58 => ?_)
 rotate_left
 ·refine Nw [(4, _), (9, _), (56, _), (57, _), (58, _)] ⟨rfl, rfl, rfl, rfl, rfl, trivial⟩ <| WC.cF rfl <| WC.exits <| loopR_exit <| after_exit rfl <| WC.weak [(9, _)] ⟨rfl, trivial⟩ ?_
  have hcs' : cs = rows.map (cutX al.length) := by
   rw [hcs, show i = rows.length by omega, List.take_length, List.drop_length, List.append_nil]
  have hcr : ∀ r, r ∈ cs → r.2.length < 1099511627776 := by
   intro r hr
   rw [hcs'] at hr
   obtain ⟨s, hs, rfl⟩ := List.mem_map.1 hr
   have := hwr s hs
   show (s.2.drop al.length).length < _
   rw [List.length_drop]; omega
  have hout : lvOM (cs.mapM (fun r => r.2.mapM fun x => outN x.1)) = lvOM (invO a) := by
   rw [outX_eq, hcs', vX_cut, hrows, hl8]; rfl
  refine Rg 6 rfl <| Um rfl rfl <| WO.S (OP.cast (b := lvOM (invO a)) (oCallF [.sl 1 (cs.map fX)] [(q2, { cells := (cs.map fX).flatten, sz := 1, elem := 62, st := 1 })] rfl (mouts_run 1 cs (by omega) hcr) (.own (ob := { cells := (cs.map fX).flatten, sz := 1, elem := 62, st := 0 }) (cs.map fX) (by rw [List.length_map, hcl]) g0 (by show (0 : Nat) ≠ 2; decide) rfl (by decide) (by simp [keys]) rfl (rows_of (n := 1) (fun _ => rfl)) (data_of dfX) .nil) (by intro p hp; rw [List.mem_singleton] at hp; subst hp; exact ⟨_, g0, by show (0 : Nat) ≠ 2; decide, rfl⟩)) hout) rfl <| WO.U (oEx rfl rfl) rfl <| WO.U (oEx rfl rfl) rfl <| Ua rfl rfl <| Ua rfl rfl <| Nw [(2, _), (3, _)] ⟨rfl, rfl, trivial⟩ <| WC.ret <| post (n := 0) (.inr rfl) rfl ?_ (by first | exact dc | exact dc1 | (simp [-data_sl]; done) | simp)
  rw [lvInv_ok h15 h19 (by omega)]; rfl
 refine Nw [(4, _), (9, _), (56, _), (57, _), (58, _)] ⟨rfl, rfl, rfl, rfl, rfl, trivial⟩ <| WC.cT rfl <| WC.skips <| WC.block <| Rg 2 rfl <| Um rfl rfl <| Ua rfl rfl <| Nw [(4, _), (9, _), (12, _), (56, _), (57, _)] ⟨rfl, rfl, rfl, rfl, rfl, trivial⟩ <| WC.reg1z (z := 10) rfl <| Um rfl rfl <| Um rfl rfl <| Um rfl rfl <| Um rfl rfl <| WO.U (oIxR rfl rfl rfl rfl rfl (by omega) rfl) rfl <| WO.U (OP.cast (b := .sl (rows.getD i default).1 ((rows.getD i default).2.map xc)) (oLdO (f := fX) (us := cs) (j := i) rfl rfl g0 (fun _ => rfl) rfl (by decide) (by omega) rfl) (by rw [hcs, half_getD (by omega)])) rfl <| Um rfl rfl <| WO.U (OP.cast (b := .sl (rows.getD i default).1 (((rows.getD i default).2.drop al.length).map xc)) (oSlLo (i := al.length) rfl rfl rfl (rows_of (f := xc) (n := 4) (fun _ => rfl)) rfl rfl (by rw [List.length_map, hwr _ (getD_mem (by omega))]; omega)) (by rw [List.map_drop])) rfl <| WO.U (oIxR rfl rfl rfl rfl rfl (by omega) rfl) rfl <| WO.S0 (oStO (f := fX) (us := cs) (cutX al.length (rows.getD i default)) rfl rfl rfl g0 (fun _ => rfl) rfl rfl (by omega) rfl) <| Wn <| after_normal <| WC.weak [(4, _), (9, _), (56, _), (57, _)] ⟨rfl, rfl, rfl, rfl, trivial⟩ ?_
 refine WC.reg1z (z := 2) rfl <| WO.U (cI (((i + 1 : Nat) : Int)) (oAdd64 rfl rfl (by omega)) (by omega)) rfl <| Um rfl rfl <| Wn <| loopR_normal <| ⟨⟨i + 1, _, cs.set i (cutX al.length (rows.getD i default))⟩, ⟨rfl, rfl, rfl, rfl, trivial⟩, ⟨g0, trivial⟩, ⟨by omega, ?_⟩, by show rows.length - (i + 1) < rows.length - i; omega⟩
 rw [hcs, half_set (by omega)]
theorem minverse_nil (k : Nat) : Run Tryz.prog T E0 (.call 22 [.sl k (([] : List M1).map fM)] (lvInv [])) := by
 refine mkcall Tryz.func22 rfl rfl (Nat.le_of_ble_eq_true rfl) <| WC.weak [(0, _)] ⟨rfl, trivial⟩ <| Rg 2 rfl <| Ua rfl rfl <| Ua rfl rfl <| Nw [(0, _)] ⟨rfl, trivial⟩ <| WC.block <| Rg 4 rfl <| Um rfl rfl <| WO.U (OP.cast (b := .v (.bool true)) (oCall rfl (mvalid_run k [] (by intro r hr; cases hr) (by decide) (by intro r hr; cases hr)) (by first | exact dc | exact dc1 | (simp [-data_sl]; done) | simp)) rfl) rfl <| WO.U (oNot rfl) rfl <| Ua rfl rfl <| Nw [(0, _), (13, _)] ⟨rfl, rfl, trivial⟩ <| WC.cF1 rfl <| Rg 4 rfl <| Um rfl rfl <| WO.U (OP.cast (b := .v (.bool true)) (oCall rfl (msquare_run k []) (by first | exact dc | exact dc1 | (simp [-data_sl]; done) | simp)) rfl) rfl <| WO.U (oNot rfl) rfl <| Ua rfl rfl <| Nw [(0, _), (17, _)] ⟨rfl, rfl, trivial⟩ <| WC.cF1 rfl ?_
 refine WC.skip <| after_normal <| WC.weak [(0, _)] ⟨rfl, trivial⟩ <| Rg 3 rfl <| Um rfl rfl <| WO.U (cI 0 (oLen rfl rfl) rfl) rfl <| Ua rfl rfl <| Nw [(0, _), (4, _)] ⟨rfl, rfl, trivial⟩ <| Rg 1 rfl <| WO.U (OP.cast (b := .sl 0 []) (oAs rfl) rfl) rfl <| Nw [(0, _), (4, _), (5, _)] ⟨rfl, rfl, rfl, trivial⟩ <| Rg 3 rfl <| Um rfl rfl <| WO.U (oCall rfl (mone_run 0 (by decide)) (by first | exact dc | exact dc1 | (simp [-data_sl]; done) | simp)) rfl <| Ua rfl rfl <| Nw [(0, _), (4, _), (5, _), (6, _)] ⟨rfl, rfl, rfl, rfl, trivial⟩ <| WC.assoc <| Rg 4 rfl <| Um rfl rfl <| WO.U (OP.cast (b := .sl 0 []) (oCall rfl (mrats_run k [] (by decide) (by intro r hr; cases hr) (by intro r hr; cases hr) (by intro r hr; cases hr)) (by first | exact dc | exact dc1 | (simp [-data_sl]; done) | simp)) rfl) rfl <| WO.U (cI 0 (oLen rfl rfl) rfl) rfl ?_
 refine Um rfl rfl <| Nw [(4, _), (5, _), (6, _), (26, _), (27, _), (28, _)] ⟨rfl, rfl, rfl, rfl, rfl, rfl, trivial⟩ <| WC.block <| WC.unroll <| Rg 1 rfl <| WO.U (oLss rfl rfl) rfl <| WO.D (fun h29 => ?_) (fun h29 => ?_)
 ·omega
 refine Nw [(4, _), (5, _), (6, _), (26, _), (27, _), (28, _), (29, _)] ⟨rfl, rfl, rfl, rfl, rfl, rfl, rfl, trivial⟩ <| WC.cF rfl <| WC.exits <| unr_exit <| after_exit rfl <| WC.weak [(4, _), (5, _)] ⟨rfl, rfl, trivial⟩ <| Rg 11 rfl <| Um rfl rfl <| Um rfl rfl <| WO.U (oCall rfl (mreduced_nil) (by first | exact dc | exact dc1 | (simp [-data_sl]; done) | simp)) rfl <| Um rfl rfl <| WO.U (oEx rfl rfl) rfl <| WO.U (oEx rfl rfl) rfl <| WO.U (oEx rfl rfl) rfl <| WO.S (oAl rfl) rfl <| Ua rfl rfl <| Ua rfl rfl <| WO.S0 (oSt (cs' := [_, _, _, _]) rfl rfl rfl g0 rfl rfl rfl rfl) <| Nw [(4, _), (9, _), (10, _)] ⟨rfl, rfl, rfl, trivial⟩ <| WC.assoc <| Rg 4 rfl <| Um rfl rfl ?_
 refine WO.U (cI 0 (oLen rfl rfl) rfl) rfl <| Um rfl rfl <| WO.U (oLss rfl rfl) rfl <| WO.D (fun h54 => ?_) (fun h54 => ?_)
 ·omega
 refine Nw [(4, _), (9, _), (54, _)] ⟨rfl, rfl, rfl, trivial⟩ <| WC.cF rfl <| WC.skips <| WC.assoc <| Rg 3 rfl <| Um rfl rfl <| WO.U (cI 0 (oLen rfl rfl) rfl) rfl <| Um rfl rfl <| Nw [(4, _), (9, _), (56, _), (57, _)] ⟨rfl, rfl, rfl, rfl, trivial⟩ <| WC.block <| WC.unroll <| Rg 1 rfl <| WO.U (oLss rfl rfl) rfl <| WO.D (fun h58 => ?_) (fun h58 => ?_)
 ·omega
 refine Nw [(4, _), (9, _), (56, _), (57, _), (58, _)] ⟨rfl, rfl, rfl, rfl, rfl, trivial⟩ <| WC.cF rfl <| WC.exits <| unr_exit <| after_exit rfl <| WC.weak [(9, _)] ⟨rfl, trivial⟩ <| Rg 6 rfl <| Um rfl rfl <| WO.U (oCall rfl (mouts_run 0 [] (by decide) (by intro r hr; cases hr)) (by first | exact dc | exact dc1 | (simp [-data_sl]; done) | simp)) rfl <| WO.U (oEx rfl rfl) rfl <| WO.U (oEx rfl rfl) rfl <| Ua rfl rfl <| Ua rfl rfl <| Nw [(2, _), (3, _)] ⟨rfl, rfl, trivial⟩ <| WC.ret <| post (n := 0) (.inr rfl) rfl ?_ (by first | exact dc | exact dc1 | (simp [-data_sl]; done) | simp)
 rfl
end Go.Proofs.YtcmieifjephdcaaGreat
set_option linter.unusedVariables false
set_option linter.unusedSimpArgs false
set_option maxRecDepth 100000
set_option maxHeartbeats 8000000
namespace Go.Proofs.YtcmieifjephdcaaGreat
open Go.Ab Go.RowKit
theorem mdetf_run (k : Nat) (a : List M1) (hI : IM a) (hF : Few8 a) (hne : 0 < a.length) : Run Tryz.prog T E0 (.call 21 [.sl k (a.map fM)] (lvDet a)) := by
 have l1 := hF.ln
 have l2 : ∀ r, r ∈ a → r.2.length < 1099511627776 := fun r hr => by have := hF.lr r hr; omega
 refine mkcall Tryz.func21 rfl rfl (Nat.le_of_ble_eq_true rfl) <| WC.weak [(0, _)] ⟨rfl, trivial⟩ <| Rg 2 rfl <| WO.S (oAl rfl) rfl <| Ua rfl rfl <| Nw [(0, _), (2, _)] ⟨rfl, rfl, trivial⟩ <| WC.block <| Rg 4 rfl <| Um rfl rfl <| WO.U (oCall rfl (mvalid_run k a hI (by omega) (fun r hr => by have := l2 r hr; omega)) (by first | exact dc | exact dc1 | (simp [-data_sl]; done) | simp)) rfl <| WO.B (fun h9 => ?_) (fun h9 => ?_)
 rotate_left
 ·refine WO.U (oNot rfl) rfl <| Ua rfl rfl <| Nw [(0, _), (2, _), (7, _)] ⟨rfl, rfl, rfl, trivial⟩ <| WC.cT1 rfl <| Rg 3 rfl <| WO.U (oBd (cs := [_, _]) rfl rfl rfl rfl rfl) rfl <| WO.S0 (oSt (cs' := [_, _]) rfl rfl rfl (by repeat (first | exact g0 | refine g1 (by decide) ?_)) rfl rfl rfl rfl) ?_
  refine Ua rfl rfl <| Nw [(2, _), (3, _)] ⟨rfl, rfl, trivial⟩ <| WC.ret <| after_ret <| post (n := 0) (.inr rfl) rfl ?_ (by first | exact dc | exact dc1 | (simp [-data_sl]; done) | simp)
  rw [lvDet_no1 h9]; rfl
 refine WO.U (oNot rfl) rfl <| Ua rfl rfl <| Nw [(0, _), (2, _), (7, _)] ⟨rfl, rfl, rfl, trivial⟩ <| WC.cF1 rfl <| Rg 4 rfl <| Um rfl rfl <| WO.U (oCall rfl (msquare_run k a) (by first | exact dc | exact dc1 | (simp [-data_sl]; done) | simp)) rfl <| WO.B (fun h14 => ?_) (fun h14 => ?_)
 rotate_left
 ·refine WO.U (oNot rfl) rfl <| Ua rfl rfl <| Nw [(0, _), (2, _), (12, _)] ⟨rfl, rfl, rfl, trivial⟩ <| WC.cT1 rfl <| Rg 3 rfl <| WO.U (oBd (cs := [_, _]) rfl rfl rfl rfl rfl) rfl <| WO.S0 (oSt (cs' := [_, _]) rfl rfl rfl (by repeat (first | exact g0 | refine g1 (by decide) ?_)) rfl rfl rfl rfl) ?_
  refine Ua rfl rfl <| Nw [(2, _), (3, _)] ⟨rfl, rfl, trivial⟩ <| WC.ret <| after_ret <| post (n := 0) (.inr rfl) rfl ?_ (by first | exact dc | exact dc1 | (simp [-data_sl]; done) | simp)
  rw [lvDet_no2 h9 h14]; rfl
 refine WO.U (oNot rfl) rfl <| Ua rfl rfl <| Nw [(0, _), (2, _), (12, _)] ⟨rfl, rfl, rfl, trivial⟩ <| WC.cF1 rfl <| WC.skip <| after_normal <| WC.weak [(0, _), (2, _)] ⟨rfl, rfl, trivial⟩ ?_
 obtain ⟨f1, f2⟩ := VM.facts h9
 have hvn : ∀ r, r ∈ a → ∀ x, x ∈ r.2 → VN x := fun r hr => (f2 r hr).2.2
 have hw8 := wd_le h9 hF
 have hsq := sqb_wd h14
 have hl8 : (a.map nxr).length = a.length := by simp
 obtain ⟨r, hr, rows, d, rfl, hrows, hd⟩ := mreduced_run (a.map nxr) (wd a) (wd a) (by rw [hl8]; exact hne) (by rw [hl8]; omega) (by rw [vX_nx a]; exact vM_wid h9) (by omega) (by omega) (by omega) (by rw [vX_nx a]; exact vM_bd h9)
 rw [vX_nx a] at hrows hr hd
 have hrk : (gjn (vM a) (wd a)).2.length = (gjn (vM a) a.length).2.length := by rw [hsq]
 refine Rg 13 rfl <| Um rfl rfl <| WO.U (OP.cast (b := .sl 1 ((a.map nxr).map fX)) (oCall rfl (mrats_run k a (by omega) hI (fun r hr x hx => by have := (hvn r hr x hx).1; omega) l2) (by first | exact dc | exact dc1 | (simp [-data_sl]; done) | simp)) (by rw [hl8, kd, if_neg (by omega)])) rfl <| Um rfl rfl <| WO.U (oCall rfl (mwidth_run k a) (by first | exact dc | exact dc1 | (simp [-data_sl]; done) | simp)) rfl <| WO.U (oCall rfl (hr) (by first | exact dc | exact dc1 | (simp [-data_sl]; done) | simp)) rfl <| Um rfl rfl <| WO.U (oEx rfl rfl) rfl <| WO.U (oEx rfl rfl) rfl <| WO.U (oEx rfl rfl) rfl <| WO.S (oAl rfl) rfl <| Ua rfl rfl <| Ua rfl rfl <| WO.S0 (oSt (cs' := [_, _, _, _]) rfl rfl rfl (by repeat (first | exact g0 | refine g1 (by decide) ?_)) rfl rfl rfl rfl) ?_
 refine Nw [(0, _), (2, _), (5, _), (6, _)] ⟨rfl, rfl, rfl, rfl, trivial⟩ <| WC.assoc <| Rg 5 rfl <| Um rfl rfl <| WO.U (oLenM rfl rfl) rfl <| Um rfl rfl <| WO.U (cI ((a.length : Int)) (oLenM rfl rfl) (by simp)) rfl <| WO.U (oLss rfl rfl) rfl <| WO.D (fun h30 => ?_) (fun h30 => ?_)
 rotate_left
 ·refine Nw [(2, _), (6, _), (30, _)] ⟨rfl, rfl, rfl, trivial⟩ <| WC.cF rfl <| WC.skips ?_
  have hdet : detV a = d.1 := by unfold detV; rw [if_neg (by omega), hd, hsq]
  refine Rg 6 rfl <| WO.U (oLdP (l := lvX d) rfl rfl (by repeat (first | exact g0 | refine g1 (by decide) ?_)) rfl rfl) rfl ?_
  refine WO.U (OP.cast (b := .tup [lvM (detn a), .v (.int .i64 (dete a))]) (oCall rfl (nout_run d) (by first | exact dc | exact dc1 | (simp [-data_sl]; done) | simp)) (by rw [← hdet]; exact (lvDet_ok h9 h14).symm)) rfl <| WO.U (oEx rfl rfl) rfl <| WO.U (oEx rfl rfl) rfl <| WO.S0 (oSt (cs' := [_, _]) rfl rfl rfl (by repeat (first | exact g0 | refine g1 (by decide) ?_)) rfl rfl rfl rfl) ?_
  refine Ua rfl rfl <| Nw [(2, _), (3, _)] ⟨rfl, rfl, trivial⟩ <| WC.ret <| post (n := 0) (.inr rfl) rfl ?_ (by first | exact dc | exact dc1 | (simp [-data_sl]; done) | simp)
  rfl
 refine Nw [(2, _), (6, _), (30, _)] ⟨rfl, rfl, rfl, trivial⟩ <| WC.cT rfl ?_
 have hdet : detV a = 0 := by unfold detV; rw [if_pos (by omega)]
 refine Rg 2 rfl <| WO.U (oBd (cs := [_, _, _, _]) rfl rfl rfl rfl rfl) rfl <| WO.S0 (oSt (cs' := [_, _, _, _]) rfl rfl rfl (by repeat (first | exact g0 | refine g1 (by decide) ?_)) rfl rfl rfl rfl) ?_
 refine Nw [(2, _), (6, _)] ⟨rfl, rfl, trivial⟩ <| Rg 6 rfl <| WO.U (oLdP (l := lvX x0) rfl rfl (by repeat (first | exact g0 | refine g1 (by decide) ?_)) rfl rfl) rfl ?_
 refine WO.U (OP.cast (b := .tup [lvM (detn a), .v (.int .i64 (dete a))]) (oCall rfl (nout_run x0) (by first | exact dc | exact dc1 | (simp [-data_sl]; done) | simp)) (by rw [show (x0.1 : Rat) = 0 from rfl, ← hdet]; exact (lvDet_ok h9 h14).symm)) rfl <| WO.U (oEx rfl rfl) rfl <| WO.U (oEx rfl rfl) rfl <| WO.S0 (oSt (cs' := [_, _]) rfl rfl rfl (by repeat (first | exact g0 | refine g1 (by decide) ?_)) rfl rfl rfl rfl) ?_
 refine Ua rfl rfl <| Nw [(2, _), (3, _)] ⟨rfl, rfl, trivial⟩ <| WC.ret <| post (n := 0) (.inr rfl) rfl ?_ (by first | exact dc | exact dc1 | (simp [-data_sl]; done) | simp)
 rfl
theorem mdetf_nil (k : Nat) : Run Tryz.prog T E0 (.call 21 [.sl k (([] : List M1).map fM)] (lvDet [])) := by
 refine mkcall Tryz.func21 rfl rfl (Nat.le_of_ble_eq_true rfl) <| WC.weak [(0, _)] ⟨rfl, trivial⟩ <| Rg 2 rfl <| WO.S (oAl rfl) rfl <| Ua rfl rfl <| Nw [(0, _), (2, _)] ⟨rfl, rfl, trivial⟩ <| WC.block <| Rg 4 rfl <| Um rfl rfl <| WO.U (OP.cast (b := .v (.bool true)) (oCall rfl (mvalid_run k [] (by intro r hr; cases hr) (by decide) (by intro r hr; cases hr)) (by first | exact dc | exact dc1 | (simp [-data_sl]; done) | simp)) rfl) rfl <| WO.U (oNot rfl) rfl <| Ua rfl rfl <| Nw [(0, _), (2, _), (7, _)] ⟨rfl, rfl, rfl, trivial⟩ <| WC.cF1 rfl <| Rg 4 rfl <| Um rfl rfl <| WO.U (OP.cast (b := .v (.bool true)) (oCall rfl (msquare_run k []) (by first | exact dc | exact dc1 | (simp [-data_sl]; done) | simp)) rfl) rfl <| WO.U (oNot rfl) rfl <| Ua rfl rfl <| Nw [(0, _), (2, _), (12, _)] ⟨rfl, rfl, rfl, trivial⟩ <| WC.cF1 rfl ?_
 refine WC.skip <| after_normal <| WC.weak [(0, _), (2, _)] ⟨rfl, rfl, trivial⟩ <| Rg 13 rfl <| Um rfl rfl <| WO.U (OP.cast (b := .sl 0 []) (oCall rfl (mrats_run k [] (by decide) (by intro r hr; cases hr) (by intro r hr; cases hr) (by intro r hr; cases hr)) (by first | exact dc | exact dc1 | (simp [-data_sl]; done) | simp)) rfl) rfl <| Um rfl rfl <| WO.U (oCall rfl (mwidth_run k []) (by first | exact dc | exact dc1 | (simp [-data_sl]; done) | simp)) rfl <| WO.U (oCall rfl (mreduced_nil) (by first | exact dc | exact dc1 | (simp [-data_sl]; done) | simp)) rfl <| Um rfl rfl <| WO.U (oEx rfl rfl) rfl <| WO.U (oEx rfl rfl) rfl <| WO.U (oEx rfl rfl) rfl <| WO.S (oAl rfl) rfl <| Ua rfl rfl <| Ua rfl rfl <| WO.S0 (oSt (cs' := [_, _, _, _]) rfl rfl rfl (by repeat (first | exact g0 | refine g1 (by decide) ?_)) rfl rfl rfl rfl) ?_
 refine Nw [(0, _), (2, _), (5, _), (6, _)] ⟨rfl, rfl, rfl, rfl, trivial⟩ <| WC.assoc <| Rg 5 rfl <| Um rfl rfl <| WO.U (cI 0 (oLen rfl rfl) rfl) rfl <| Um rfl rfl <| WO.U (cI 0 (oLen rfl rfl) rfl) rfl <| WO.U (oLss rfl rfl) rfl <| WO.D (fun h30 => ?_) (fun h30 => ?_)
 ·omega
 refine Nw [(2, _), (6, _), (30, _)] ⟨rfl, rfl, rfl, trivial⟩ <| WC.cF rfl <| WC.skips <| Rg 6 rfl <| WO.U (oLdP (l := lvX (xint 1)) rfl rfl (by repeat (first | exact g0 | refine g1 (by decide) ?_)) rfl rfl) rfl ?_
 refine WO.U (OP.cast (b := .tup [lvM (1, 1), .v (.int .i64 0)]) (oCall rfl (nout_run (xint 1)) (by first | exact dc | exact dc1 | (simp [-data_sl]; done) | simp)) (by rw [show outN (xint 1).1 = some (1, 1) by decide +kernel]; rfl)) rfl <| WO.U (oEx rfl rfl) rfl <| WO.U (oEx rfl rfl) rfl <| WO.S0 (oSt (cs' := [_, _]) rfl rfl rfl (by repeat (first | exact g0 | refine g1 (by decide) ?_)) rfl rfl rfl rfl) ?_
 refine Ua rfl rfl <| Nw [(2, _), (3, _)] ⟨rfl, rfl, trivial⟩ <| WC.ret <| post (n := 0) (.inr rfl) rfl ?_ (by first | exact dc | exact dc1 | (simp [-data_sl]; done) | simp)
 exact (show LV.tup [lvM (1, 1), .v (.int .i64 0)] = lvDet [] by rw [lvDet_ok rfl rfl, show outN (detV []) = some (1, 1) by decide +kernel]; rfl)
end Go.Proofs.YtcmieifjephdcaaGreat
set_option linter.unusedVariables false
set_option linter.unusedSimpArgs false
set_option maxRecDepth 100000
set_option maxHeartbeats 8000000
namespace Go.Proofs.YtcmieifjephdcaaGreat
open Go.Ab Go.RowKit
theorem nmeq (a b : NM) : (!(a.1 == b.1 && (a.2 == b.2 && true))) = !decide (a = b) := by
 obtain ⟨a1, a2⟩ := a
 obtain ⟨b1, b2⟩ := b
 congr 1
 rw [Bool.eq_iff_iff]
 simp
theorem nsame2_run (k1 k2 : Nat) (ns ms : List NM) (ln : ns.length < 1099511627776) : Run Tryz.prog T E0 (.call 13 [.sl k1 (ns.map mc), .sl k2 (ms.map mc)] (.v (.bool (decide (ns = ms))))) := by
 refine mkcall Tryz.func13 rfl rfl (Nat.le_of_ble_eq_true rfl) <| WC.weak [(0, _), (1, _)] ⟨rfl, rfl, trivial⟩ <| Rg 1 rfl <| Ua rfl rfl <| Nw [(0, _), (1, _)] ⟨rfl, rfl, trivial⟩ <| WC.assoc <| Rg 5 rfl <| Um rfl rfl <| WO.U (oLenM rfl rfl) rfl <| Um rfl rfl <| WO.U (oLenM rfl rfl) rfl <| WO.U (oNeq rfl rfl) rfl <| WO.D (fun h10 => ?_) (fun h10 => ?_)
 ·refine Nw [(0, _), (1, _), (10, _)] ⟨rfl, rfl, rfl, trivial⟩ <| WC.cT rfl <| WC.assoc <| Rg 1 rfl <| Ua rfl rfl <| Nw [(4, _)] ⟨rfl, trivial⟩ <| WC.rets <| post (n := 0) (.inr rfl) rfl ?_ (by first | exact dc | exact dc1 | (simp [-data_sl]; done) | simp)
  exact congrArg (fun z => LV.v (.bool z)) (show false = decide (ns = ms) from (decide_eq_false (fun h => by rw [h] at h10; exact h10 rfl)).symm)
 refine Nw [(0, _), (1, _), (10, _)] ⟨rfl, rfl, rfl, trivial⟩ <| WC.cF rfl <| WC.skips <| WC.assoc ?_
 have hl : ns.length = ms.length := by omega
 refine Rg 3 rfl <| Um rfl rfl <| WO.U (oLenM rfl rfl) rfl <| Um rfl rfl <| Nw [(0, _), (1, _), (12, _), (13, _)] ⟨rfl, rfl, rfl, rfl, trivial⟩ <| WC.block <| WC.loopV (α := Nat) (fun i => [(0, .sl k1 (ns.map mc)), (1, .sl k2 (ms.map mc)), (12, .v (.int .i64 (ns.length : Int))), (13, .v (.int .i64 (i : Int)))]) (fun i => []) (fun i n => i ≤ ns.length ∧ ∀ j, j < i → ns.getD j default = ms.getD j default) (fun i => ns.length - i) (0) ⟨rfl, rfl, rfl, rfl, trivial⟩ trivial ⟨Nat.zero_le _, fun j hj => absurd hj (by omega)⟩ ?_
 rintro i n hF
 change WC _ _ _ _ _ [(0, .sl k1 (ns.map mc)), (1, .sl k2 (ms.map mc)), (12, .v (.int .i64 (ns.length : Int))), (13, .v (.int .i64 (i : Int)))] ([]) n _
 obtain ⟨hi, hj⟩ := hF
 refine Rg 1 rfl <| WO.U (oLss rfl rfl) rfl <| WO.D (fun h14 => ?_) (fun h14 => ?_)
 rotate_left
 ·refine Nw [(0, _), (1, _), (12, _), (13, _), (14, _)] ⟨rfl, rfl, rfl, rfl, rfl, trivial⟩ <| WC.cF rfl <| WC.exits <| loopR_exit <| after_exit rfl <| WC.weak [] trivial <| Rg 1 rfl <| Ua rfl rfl <| Nw [(4, _)] ⟨rfl, trivial⟩ <| WC.ret <| post (n := 0) (.inr rfl) rfl ?_ (by first | exact dc | exact dc1 | (simp [-data_sl]; done) | simp)
  exact congrArg (fun z => LV.v (.bool z)) (show true = decide (ns = ms) from (decide_eq_true (glist_eq hl fun j hj2 => hj j (by omega))).symm)
 refine Nw [(0, _), (1, _), (12, _), (13, _), (14, _)] ⟨rfl, rfl, rfl, rfl, rfl, trivial⟩ <| WC.cT rfl <| WC.skips <| WC.block <| Rg 2 rfl <| Um rfl rfl <| Ua rfl rfl <| Nw [(0, _), (1, _), (5, _), (12, _), (13, _)] ⟨rfl, rfl, rfl, rfl, rfl, trivial⟩ <| WC.draw (z := 9) rfl (by kernel_rfl) <| Dm rfl rfl <| Dm rfl rfl <| WD.U (oIxM rfl rfl rfl rfl rfl (by omega) rfl) rfl <| WD.U (oLd (l := .agg [_, _]) rfl rfl rfl) rfl <| Dm rfl rfl <| Dm rfl rfl <| WD.U (oIxM rfl rfl rfl rfl rfl (by omega) rfl) rfl <| WD.U (oLd (l := .agg [_, _]) rfl rfl rfl) rfl <| WD.U (OP.cast (b := .v (.bool (!decide ((ns.getD i default) = (ms.getD i default))))) (oNeS rfl rfl rfl rfl (cellsEq_mc _ _)) (congrArg (fun z => LV.v (.bool z)) (nmeq _ _))) rfl <| WD.B (fun h24 => ?_) (fun h24 => ?_)
 ·refine WD.nil (drawOk_of (by kernel_rfl)) rfl <| WC.weak [(0, _), (1, _), (12, _), (13, _), (24, _)] ⟨rfl, rfl, rfl, rfl, rfl, trivial⟩ <| WC.cT1 rfl <| Rg 1 rfl <| Ua rfl rfl <| Nw [(4, _)] ⟨rfl, trivial⟩ <| WC.ret <| after_ret <| loopR_ret <| after_ret <| post (n := 0) (.inr rfl) rfl ?_ (by first | exact dc | exact dc1 | (simp [-data_sl]; done) | simp)
  exact congrArg (fun z => LV.v (.bool z)) (show false = decide (ns = ms) from (decide_eq_false (fun h => by rw [h] at h24; simp at h24)).symm)
 refine WD.nil (drawOk_of (by kernel_rfl)) rfl <| WC.weak [(0, _), (1, _), (12, _), (13, _), (24, _)] ⟨rfl, rfl, rfl, rfl, rfl, trivial⟩ <| WC.cF1 rfl <| WC.skip <| after_normal <| WC.weak [(0, _), (1, _), (12, _), (13, _)] ⟨rfl, rfl, rfl, rfl, trivial⟩ <| WC.reg1z (z := 2) rfl <| WO.U (cI (((i + 1 : Nat) : Int)) (oAdd64 rfl rfl (by omega)) (by omega)) rfl <| Um rfl rfl <| Wn <| loopR_normal <| ⟨i + 1, ⟨rfl, rfl, rfl, rfl, trivial⟩, trivial, ⟨by omega, fun j hj2 => ?_⟩, by show ns.length - (i + 1) < ns.length - i; omega⟩
 by_cases e : j = i
 ·rw [e]; simpa using h24
 ·exact hj j (by omega)
theorem msame2_run (k1 k2 : Nat) (a b : List M1) (hab : a.map (·.2) = b.map (·.2)) (ln : a.length < 1099511627776) (lr : ∀ r, r ∈ a → r.2.length < 1099511627776) : Run Tryz.prog T E0 (.call 18 [.sl k1 (a.map fM), .sl k2 (b.map fM)] (.v (.bool true))) := by
 have hl : a.length = b.length := by have := congrArg List.length hab; simpa using this
 have hij : ∀ i, i < a.length → (b.getD i default).2 = (a.getD i default).2 := fun i hi => by
  have := congrArg (fun l => l.getD i default) hab
  simp only [] at this
  rw [mapD (f := fun r : M1 => r.2) hi, mapD (f := fun r : M1 => r.2) (by omega)] at this
  exact this.symm
 refine mkcall Tryz.func18 rfl rfl (Nat.le_of_ble_eq_true rfl) <| WC.weak [(0, _), (1, _)] ⟨rfl, rfl, trivial⟩ <| Rg 1 rfl <| Ua rfl rfl <| Nw [(0, _), (1, _)] ⟨rfl, rfl, trivial⟩ <| WC.assoc <| Rg 5 rfl <| Um rfl rfl <| WO.U (oLenM rfl rfl) rfl <| Um rfl rfl <| WO.U (oLenM rfl rfl) rfl <| WO.U (oNeq rfl rfl) rfl <| WO.D (fun h10 => ?_) (fun h10 => ?_)
 ·omega
 refine Nw [(0, _), (1, _), (10, _)] ⟨rfl, rfl, rfl, trivial⟩ <| WC.cF rfl <| WC.skips <| WC.assoc <| Rg 3 rfl <| Um rfl rfl <| WO.U (oLenM rfl rfl) rfl <| Um rfl rfl <| Nw [(0, _), (1, _), (12, _), (13, _)] ⟨rfl, rfl, rfl, rfl, trivial⟩ <| WC.block <| WC.loopV (α := Nat) (fun i => [(0, .sl k1 (a.map fM)), (1, .sl k2 (b.map fM)), (12, .v (.int .i64 (a.length : Int))), (13, .v (.int .i64 (i : Int)))]) (fun i => []) (fun i n => i ≤ a.length) (fun i => a.length - i) (0) ⟨rfl, rfl, rfl, rfl, trivial⟩ trivial (Nat.zero_le _) ?_
 rintro i n hF
 change WC _ _ _ _ _ [(0, .sl k1 (a.map fM)), (1, .sl k2 (b.map fM)), (12, .v (.int .i64 (a.length : Int))), (13, .v (.int .i64 (i : Int)))] ([]) n _
 have hi : i ≤ a.length := hF
 refine Rg 1 rfl <| WO.U (oLss rfl rfl) rfl <| WO.D (fun h14 => ?_) (fun h14 => ?_)
 rotate_left
 ·refine Nw [(0, _), (1, _), (12, _), (13, _), (14, _)] ⟨rfl, rfl, rfl, rfl, rfl, trivial⟩ <| WC.cF rfl <| WC.exits <| loopR_exit <| after_exit rfl <| WC.weak [] trivial <| Rg 1 rfl <| Ua rfl rfl <| Nw [(4, _)] ⟨rfl, trivial⟩ <| WC.ret ?_
  exact post (n := 0) (.inr rfl) rfl rfl (by simp)
 refine Nw [(0, _), (1, _), (12, _), (13, _), (14, _)] ⟨rfl, rfl, rfl, rfl, rfl, trivial⟩ <| WC.cT rfl <| WC.skips <| WC.block <| Rg 2 rfl <| Um rfl rfl <| Ua rfl rfl <| Nw [(0, _), (1, _), (5, _), (12, _), (13, _)] ⟨rfl, rfl, rfl, rfl, rfl, trivial⟩ <| WC.draw (z := 10) rfl (by kernel_rfl) <| Dm rfl rfl <| Dm rfl rfl <| WD.U (oIxM rfl rfl rfl rfl rfl (by omega) rfl) rfl <| WD.U (oLd rfl rfl rfl) rfl <| Dm rfl rfl <| Dm rfl rfl <| WD.U (oIxM rfl rfl rfl rfl rfl (by omega) rfl) rfl <| WD.U (OP.cast (b := .sl (b.getD i default).1 ((a.getD i default).2.map mc)) (oLd rfl rfl rfl) (by rw [hij i (by omega)])) rfl <| WD.U (oCall rfl (nsame_run (a.getD i default).1 (b.getD i default).1 (a.getD i default).2 (lr _ (getD_mem (by omega)))) (by first | exact dc | exact dc1 | (simp [-data_sl]; done) | simp)) rfl <| WD.U (oNot rfl) rfl <| WD.nil (drawOk_of (by kernel_rfl)) rfl <| WC.weak [(0, _), (1, _), (12, _), (13, _), (25, _)] ⟨rfl, rfl, rfl, rfl, rfl, trivial⟩ <| WC.cF1 rfl ?_
 refine WC.skip <| after_normal <| WC.weak [(0, _), (1, _), (12, _), (13, _)] ⟨rfl, rfl, rfl, rfl, trivial⟩ <| WC.reg1z (z := 2) rfl <| WO.U (cI (((i + 1 : Nat) : Int)) (oAdd64 rfl rfl (by omega)) (by omega)) rfl <| Um rfl rfl <| Wn <| loopR_normal <| ⟨i + 1, ⟨rfl, rfl, rfl, rfl, trivial⟩, trivial, by show i + 1 ≤ _; omega, by show a.length - (i + 1) < a.length - i; omega⟩
theorem zero_run (k : Nat) (us : List NM) (ln : us.length < 1099511627776) : Run Tryz.prog T E0 (.call 35 [.sl k (us.map mc)] (.v (.bool (zb us)))) := by
 refine mkcall Tryz.func35 rfl rfl (Nat.le_of_ble_eq_true rfl) <| WC.weak [(0, _)] ⟨rfl, trivial⟩ <| Rg 1 rfl <| Ua rfl rfl <| Nw [(0, _)] ⟨rfl, trivial⟩ <| WC.assoc <| Rg 3 rfl <| Um rfl rfl <| WO.U (oLenM rfl rfl) rfl <| Um rfl rfl <| Nw [(5, _), (6, _), (7, _)] ⟨rfl, rfl, rfl, trivial⟩ <| WC.block <| WC.loopV (α := Nat) (fun i => [(5, .sl k (us.map mc)), (6, .v (.int .i64 (us.length : Int))), (7, .v (.int .i64 (i : Int)))]) (fun i => []) (fun i n => i ≤ us.length ∧ (us.take i).all (fun y => decide (y.1 = 0)) = true) (fun i => us.length - i) (0) ⟨rfl, rfl, rfl, trivial⟩ trivial ⟨Nat.zero_le _, by simp⟩ ?_
 rintro i n hF
 change WC _ _ _ _ _ [(5, .sl k (us.map mc)), (6, .v (.int .i64 (us.length : Int))), (7, .v (.int .i64 (i : Int)))] ([]) n _
 obtain ⟨hi, ha⟩ := hF
 refine Rg 1 rfl <| WO.U (oLss rfl rfl) rfl <| WO.D (fun h8 => ?_) (fun h8 => ?_)
 rotate_left
 ·refine Nw [(5, _), (6, _), (7, _), (8, _)] ⟨rfl, rfl, rfl, rfl, trivial⟩ <| WC.cF rfl <| WC.exits <| loopR_exit <| after_exit rfl <| WC.weak [] trivial <| Rg 1 rfl <| Ua rfl rfl <| Nw [(2, _)] ⟨rfl, trivial⟩ <| WC.ret <| post (n := 0) (.inr rfl) rfl ?_ (by first | exact dc | exact dc1 | (simp [-data_sl]; done) | simp)
  exact congrArg (fun z => LV.v (.bool z)) (show true = zb us from (show (us.all fun y => decide (y.1 = 0)) = true from all_yes ha (by omega)).symm)
 refine Nw [(5, _), (6, _), (7, _), (8, _)] ⟨rfl, rfl, rfl, rfl, trivial⟩ <| WC.cT rfl <| WC.skips <| WC.block <| Rg 4 rfl <| WO.U (oIxM rfl rfl rfl rfl rfl (by omega) rfl) rfl <| WO.U (oLd (l := .agg [_, _]) rfl rfl rfl) rfl <| WO.S (oAl rfl) rfl <| WO.S0 (oSt (cs' := [_, _]) rfl rfl rfl (by repeat (first | exact g0 | refine g1 (by omega) ?_)) rfl rfl rfl rfl) ?_
 refine Nw [(4, _), (5, _), (6, _), (7, _)] ⟨rfl, rfl, rfl, rfl, trivial⟩ <| Rg 3 rfl <| WO.U (oFaP rfl rfl rfl rfl rfl) rfl <| WO.U (oLdP rfl rfl (by repeat (first | exact g0 | refine g1 (by omega) ?_)) rfl rfl) rfl ?_
 refine WO.U (oNeq rfl rfl) rfl <| WO.D (fun h13 => ?_) (fun h13 => ?_)
 rotate_left
 ·refine Nw [(5, _), (6, _), (7, _), (13, _)] ⟨rfl, rfl, rfl, rfl, trivial⟩ <| WC.cF1 rfl <| WC.skip <| after_normal <| WC.weak [(5, _), (6, _), (7, _)] ⟨rfl, rfl, rfl, trivial⟩ <| WC.reg1z (z := 2) rfl <| WO.U (cI (((i + 1 : Nat) : Int)) (oAdd64 rfl rfl (by omega)) (by omega)) rfl <| Um rfl rfl <| Wn <| loopR_normal <| ⟨i + 1, ⟨rfl, rfl, rfl, trivial⟩, trivial, ⟨by omega, take_all ha (by omega) (decide_eq_true (by omega))⟩, by show us.length - (i + 1) < us.length - i; omega⟩
 refine Nw [(5, _), (6, _), (7, _), (13, _)] ⟨rfl, rfl, rfl, rfl, trivial⟩ <| WC.cT1 rfl <| Rg 1 rfl <| Ua rfl rfl <| Nw [(2, _)] ⟨rfl, trivial⟩ <| WC.ret <| after_ret <| loopR_ret <| after_ret <| post (n := 0) (.inr rfl) rfl ?_ (by first | exact dc | exact dc1 | (simp [-data_sl]; done) | simp)
 exact congrArg (fun z => LV.v (.bool z)) (show false = zb us from (show (us.all fun y => decide (y.1 = 0)) = false from all_no (i := i) (by omega) (decide_eq_false (by omega))).symm)
theorem nmul_run (d k m : NM) (hd : VN d) (hk : VN k) (ho : outN (nq d * nq k) = some m) : Run Tryz.prog T E0 (.call 72 [lvM d, lvM k] (.tup [lvM m, .v (.int .i64 0)])) := by
 refine mkcall Tryz.func72 rfl rfl (Nat.le_of_ble_eq_true rfl) <| WC.weak [(0, _), (1, _)] ⟨rfl, rfl, trivial⟩ <| Rg 4 rfl <| WO.S (oBx rfl rfl) rfl <| WO.S (oBx rfl rfl) rfl <| WO.S (oAl rfl) rfl <| Ua rfl rfl <| Nw [(2, _), (3, _), (4, _)] ⟨rfl, rfl, rfl, trivial⟩ <| WC.assoc <| Rg 5 rfl <| WO.U (oLdP (l := lvM d) rfl rfl (by repeat (first | exact g0 | refine g1 (by decide) ?_)) rfl rfl) rfl ?_
 refine WO.U (oLdP (l := lvM k) rfl rfl (by repeat (first | exact g0 | refine g1 (by decide) ?_)) rfl rfl) rfl ?_
 refine WO.U (OP.cast (b := .sl 2 ([d, k].map mc)) (oBs' (cs := [_, _, _, _]) (rows := [[_, _], [_, _]]) rfl rfl (by decide) rfl rfl rfl) rfl) rfl <| WO.U (OP.cast (b := .v (.bool true)) (oCall rfl (qall_run 2 [d, k] (by intro z hz; simp only [List.mem_cons, List.not_mem_nil, or_false] at hz; rcases hz with rfl | rfl; exact hd.i64; exact hk.i64) (by simp)) (by first | exact dc | exact dc1 | (simp [-data_sl]; done) | simp)) (by rw [show [d, k].all vn = true by simp [vn, hd, hk]])) rfl <| WO.U (oNot rfl) rfl <| Nw [(2, _), (3, _), (4, _), (10, _)] ⟨rfl, rfl, rfl, rfl, trivial⟩ <| WC.cF rfl <| WC.skips <| WC.draw (z := 10) rfl (by kernel_rfl) <| WD.U (oLdP (l := lvM d) rfl rfl (by repeat (first | exact g0 | refine g1 (by decide) ?_)) rfl rfl) rfl ?_
 refine WD.U (OP.cast (b := lvQ (nq d)) (oCall rfl (nto_run d hd.i64.1 hd.i64.2 hd) (by first | exact dc | exact dc1 | (simp [-data_sl]; done) | simp)) rfl) rfl <| WD.U (oLdP (l := lvM k) rfl rfl (by repeat (first | exact g0 | refine g1 (by decide) ?_)) rfl rfl) rfl ?_
 refine WD.U (OP.cast (b := lvQ (nq k)) (oCall rfl (nto_run k hk.i64.1 hk.i64.2 hk) (by first | exact dc | exact dc1 | (simp [-data_sl]; done) | simp)) rfl) rfl <| WD.U (oCall rfl (nrmul_run (nq d) (nq k) (hd.bd.mono (by decide)) (hk.bd.mono (by decide))) (by first | exact dc | exact dc1 | (simp [-data_sl]; done) | simp)) rfl <| WD.U (OP.cast (b := .tup [lvM m, .v (.int .i64 0)]) (oCall rfl (nnum_run (nq d * nq k)) (by first | exact dc | exact dc1 | (simp [-data_sl]; done) | simp)) (by rw [ho]; rfl)) rfl <| WD.U (oEx rfl rfl) rfl <| WD.U (oEx rfl rfl) rfl <| WD.S0 (oSt (cs' := [_, _]) rfl rfl rfl (by repeat (first | exact g0 | refine g1 (by decide) ?_)) rfl rfl rfl rfl) ?_
 refine WD.U (oAs rfl) rfl <| WD.nil (drawOk_of (by kernel_rfl)) rfl <| WC.weak [(4, _), (5, _)] ⟨rfl, rfl, trivial⟩ <| WC.ret <| post (n := 0) (.inr rfl) rfl ?_ (by first | exact dc | exact dc1 | (simp [-data_sl]; done) | simp)
 rfl
theorem image_run (k k2 k3 : Nat) (a : List M1) (y x : List NM) (hI : IM a) (hIy : IV y) (hIx : IV x) (la : a.length ≤ 70) (ly : VV y = true) (hl : a.length = x.length) (hr : ∀ r, r ∈ a → r.2.length = y.length) (hva : ∀ r, r ∈ a → ∀ n, n ∈ r.2 → VN n) (hvx : ∀ n, n ∈ x → VN n) (hd : ∀ i, i < a.length → dotR ((a.getD i default).2.map nq) (y.map nq) = nq (x.getD i default)) : Run Tryz.prog T E0 (.call 34 [.sl k (a.map fM), .sl k2 (y.map mc), .sl k3 (x.map mc)] (.v (.bool true))) := by
 obtain ⟨ly6, hvy⟩ := VV.facts ly
 refine mkcall Tryz.func34 rfl rfl (Nat.le_of_ble_eq_true rfl) <| WC.weak [(0, _), (1, _), (2, _)] ⟨rfl, rfl, rfl, trivial⟩ <| Rg 1 rfl <| Ua rfl rfl <| Nw [(0, _), (1, _), (2, _)] ⟨rfl, rfl, rfl, trivial⟩ <| WC.assoc <| Rg 10 rfl <| Um rfl rfl <| WO.U (OP.cast (b := .v (.bool true)) (oCall rfl (qvector_run k2 y hIy (by omega)) (by first | exact dc | exact dc1 | (simp [-data_sl]; done) | simp)) (by rw [ly])) rfl <| WO.U (oNot rfl) rfl <| Um rfl rfl <| WO.Ug rfl (oMv rfl) rfl <| WO.Ug rfl (oLenM rfl rfl) rfl <| WO.Ug rfl (oMv rfl) rfl <| WO.Ug rfl (oLenM rfl rfl) rfl <| WO.Ug rfl (oNeq rfl rfl) rfl <| WO.D (fun h17 => ?_) (fun h17 => ?_)
 ·omega
 refine WO.U (oPkF rfl rfl) rfl <| Nw [(0, _), (1, _), (2, _), (18, _)] ⟨rfl, rfl, rfl, rfl, trivial⟩ <| WC.cF rfl <| WC.skips <| WC.assoc <| Rg 3 rfl <| Um rfl rfl <| WO.U (oLenM rfl rfl) rfl <| Um rfl rfl <| Nw [(1, _), (2, _), (19, _), (20, _), (21, _)] ⟨rfl, rfl, rfl, rfl, rfl, trivial⟩ <| WC.block <| WC.loopV (α := Nat) (fun i => [(1, .sl k2 (y.map mc)), (2, .sl k3 (x.map mc)), (19, .sl k (a.map fM)), (20, .v (.int .i64 (a.length : Int))), (21, .v (.int .i64 (i : Int)))]) (fun i => []) (fun i n => i ≤ a.length) (fun i => a.length - i) (0) ⟨rfl, rfl, rfl, rfl, rfl, trivial⟩ trivial (Nat.zero_le _) ?_
 rintro i n hF
 change WC _ _ _ _ _ [(1, .sl k2 (y.map mc)), (2, .sl k3 (x.map mc)), (19, .sl k (a.map fM)), (20, .v (.int .i64 (a.length : Int))), (21, .v (.int .i64 (i : Int)))] ([]) n _
 have hi : i ≤ a.length := hF
 refine Rg 1 rfl <| WO.U (oLss rfl rfl) rfl <| WO.D (fun h22 => ?_) (fun h22 => ?_)
 rotate_left
 ·refine Nw [(1, _), (2, _), (19, _), (20, _), (21, _), (22, _)] ⟨rfl, rfl, rfl, rfl, rfl, rfl, trivial⟩ <| WC.cF rfl <| WC.exits <| loopR_exit <| after_exit rfl <| WC.weak [] trivial <| Rg 1 rfl <| Ua rfl rfl <| Nw [(6, _)] ⟨rfl, trivial⟩ <| WC.ret ?_
  exact post (n := 0) (.inr rfl) rfl rfl (by simp)
 refine Nw [(1, _), (2, _), (19, _), (20, _), (21, _), (22, _)] ⟨rfl, rfl, rfl, rfl, rfl, rfl, trivial⟩ <| WC.cT rfl <| WC.skips <| WC.block <| Rg 5 rfl <| Um rfl rfl <| WO.U (oIxM rfl rfl rfl rfl rfl (by omega) rfl) rfl <| WO.U (oLd rfl rfl rfl) rfl <| Ua rfl rfl <| Ua rfl rfl <| Nw [(1, _), (2, _), (7, _), (8, _), (19, _), (20, _), (21, _)] ⟨rfl, rfl, rfl, rfl, rfl, rfl, rfl, trivial⟩ <| WC.assoc ?_
 have hm := getD_mem (us := a) (i := i) (by omega)
 have hrm := hr _ hm
 have hmx := getD_mem (us := x) (i := i) (by omega)
 refine Rg 5 rfl <| Um rfl rfl <| WO.U (oLenM rfl rfl) rfl <| Um rfl rfl <| WO.U (oLenM rfl rfl) rfl <| WO.U (oNeq rfl rfl) rfl <| WO.D (fun h30 => ?_) (fun h30 => ?_)
 ·omega
 refine Nw [(1, _), (2, _), (7, _), (8, _), (19, _), (20, _), (21, _), (30, _)] ⟨rfl, rfl, rfl, rfl, rfl, rfl, rfl, rfl, trivial⟩ <| WC.cF rfl <| WC.skips <| WC.draw (z := 12) rfl (by kernel_rfl) <| Dm rfl rfl <| WD.U (oCall rfl (qrats_run (a.getD i default).1 (a.getD i default).2 (by omega) (hI _ hm) (hva _ hm)) (by first | exact dc | exact dc1 | (simp [-data_sl]; done) | simp)) rfl <| Dm rfl rfl <| WD.U (oCall rfl (qrats_run k2 y (by omega) hIy hvy) (by first | exact dc | exact dc1 | (simp [-data_sl]; done) | simp)) rfl <| WD.U (OP.cast (b := lvQ (nq (x.getD i default))) (oCall rfl (qdot_run _ _ ((a.getD i default).2.map nq) (y.map nq) 2 2 (by rw [List.length_map, List.length_map, hrm]; omega) (by rw [List.length_map, hrm]; omega) (fun z hz => by obtain ⟨w, hw, rfl⟩ := List.mem_map.1 hz; exact (hva _ hm w hw).bd) (fun z hz => by obtain ⟨w, hw, rfl⟩ := List.mem_map.1 hz; exact (hvy w hw).bd) (by decide) (by rw [List.length_map, hrm]; omega)) (by first | exact dc | exact dc1 | (simp [-data_sl]; done) | simp)) (by rw [hd i (by omega)])) rfl <| Dm rfl rfl <| Dm rfl rfl <| WD.U (oIxM (j := i) rfl rfl rfl rfl (by omega) (by omega) rfl) rfl <| WD.U (oLd (l := .agg [_, _]) rfl rfl rfl) rfl <| WD.U (OP.cast (b := lvQ (nq (x.getD i default))) (oCall rfl (nto_run (x.getD i default) (hIx _ hmx).1 (hIx _ hmx).2 (hvx _ hmx)) (by first | exact dc | exact dc1 | (simp [-data_sl]; done) | simp)) rfl) rfl <| WD.U (OP.cast (b := .v (.int .i64 0)) (oCall rfl (nrcmp_run (nq (x.getD i default)) (nq (x.getD i default)) ((hvx _ hmx).bd.mono (by decide)) ((hvx _ hmx).bd.mono (by decide))) (by first | exact dc | exact dc1 | (simp [-data_sl]; done) | simp)) (by rw [show nq (x.getD i default) - nq (x.getD i default) = 0 by grind]; rfl)) rfl <| WD.U (oNeq rfl rfl) rfl <| WD.D (fun h42 => ?_) (fun h42 => ?_)
 ·exact absurd rfl h42
 refine WD.nil (drawOk_of (by kernel_rfl)) rfl <| WC.weak [(1, _), (2, _), (19, _), (20, _), (21, _), (42, _)] ⟨rfl, rfl, rfl, rfl, rfl, rfl, trivial⟩ <| WC.cF1 rfl <| WC.skip <| after_normal <| WC.weak [(1, _), (2, _), (19, _), (20, _), (21, _)] ⟨rfl, rfl, rfl, rfl, rfl, trivial⟩ <| WC.reg1z (z := 2) rfl <| WO.U (cI (((i + 1 : Nat) : Int)) (oAdd64 rfl rfl (by omega)) (by omega)) rfl <| Um rfl rfl <| Wn <| loopR_normal <| ⟨i + 1, ⟨rfl, rfl, rfl, rfl, rfl, trivial⟩, trivial, by show i + 1 ≤ _; omega, by show a.length - (i + 1) < a.length - i; omega⟩
theorem few3_run (k k2 k3 : Nat) (a b c : List M1) : Run Tryz.prog T E0 (.call 9 [.sl 2 [[.sl k (a.map fM)], [.sl k2 (b.map fM)], [.sl k3 (c.map fM)]]] (.v (.bool (fewb a && (fewb b && fewb c))))) := by
 refine mkcall Tryz.func9 rfl rfl (Nat.le_of_ble_eq_true rfl) <| WC.weak [(0, _)] ⟨rfl, trivial⟩ <| Rg 1 rfl <| Ua rfl rfl <| Nw [(0, _)] ⟨rfl, trivial⟩ <| WC.assoc <| Rg 3 rfl <| Um rfl rfl <| WO.U (cI 3 (oLen rfl rfl) rfl) rfl <| Um rfl rfl <| Nw [(5, _), (6, _), (7, _)] ⟨rfl, rfl, rfl, trivial⟩ <| WC.block <| WC.unroll <| Rg 1 rfl <| WO.U (oLss rfl rfl) rfl <| WO.D (fun h8 => ?_) (fun h8 => ?_)
 rotate_left
 ·omega
 refine Nw [(5, _), (6, _), (7, _), (8, _)] ⟨rfl, rfl, rfl, rfl, trivial⟩ <| WC.cT rfl <| WC.skips <| WC.block <| Rg 3 rfl <| WO.U (oIx (j := 0) rfl rfl rfl rfl rfl rfl rfl) rfl <| WO.U (oLd rfl rfl rfl) rfl <| Ua rfl rfl <| Nw [(4, _), (5, _), (6, _), (7, _)] ⟨rfl, rfl, rfl, rfl, trivial⟩ <| Rg 3 rfl <| Um rfl rfl <| WO.U (oCall rfl (few_run k a) (by first | exact dc | exact dc1 | (simp [-data_sl]; done) | simp)) rfl <| WO.B (fun h12 => ?_) (fun h12 => ?_)
 rotate_left
 ·refine WO.U (oNot rfl) rfl <| Nw [(5, _), (6, _), (7, _), (13, _)] ⟨rfl, rfl, rfl, rfl, trivial⟩ <| WC.cT1 rfl <| Rg 1 rfl <| Ua rfl rfl <| Nw [(2, _)] ⟨rfl, trivial⟩ <| WC.ret <| after_ret <| unr_ret <| after_ret <| post (n := 0) (.inr rfl) rfl ?_ (by first | exact dc | exact dc1 | (simp [-data_sl]; done) | simp)
  exact congrArg (fun z => LV.v (.bool z)) (show false = (fewb a && (fewb b && fewb c)) by first | (rw [h12, Bool.false_and]; done) | (rw [h12, Bool.false_and, Bool.and_false]; done) | (rw [h12, Bool.and_false, Bool.and_false]; done))
 refine WO.U (oNot rfl) rfl <| Nw [(5, _), (6, _), (7, _), (13, _)] ⟨rfl, rfl, rfl, rfl, trivial⟩ <| WC.cF1 rfl <| WC.skip <| after_normal <| WC.weak [(5, _), (6, _), (7, _)] ⟨rfl, rfl, rfl, trivial⟩ ?_
 have hfa := h12
 refine WC.reg1z (z := 2) rfl <| WO.U (cI 1 (oAdd64 rfl rfl (by omega)) (by omega)) rfl <| Um rfl rfl <| Wn <| unr_normal <| WC.unroll <| Rg 1 rfl <| WO.U (oLss rfl rfl) rfl <| WO.D (fun h8 => ?_) (fun h8 => ?_)
 rotate_left
 ·omega
 refine Nw [(5, _), (6, _), (7, _), (8, _)] ⟨rfl, rfl, rfl, rfl, trivial⟩ <| WC.cT rfl <| WC.skips <| WC.block <| Rg 3 rfl <| WO.U (oIx (j := 1) rfl rfl rfl rfl rfl rfl rfl) rfl <| WO.U (oLd rfl rfl rfl) rfl <| Ua rfl rfl <| Nw [(4, _), (5, _), (6, _), (7, _)] ⟨rfl, rfl, rfl, rfl, trivial⟩ <| Rg 3 rfl <| Um rfl rfl <| WO.U (oCall rfl (few_run k2 b) (by first | exact dc | exact dc1 | (simp [-data_sl]; done) | simp)) rfl <| WO.B (fun h12 => ?_) (fun h12 => ?_)
 rotate_left
 ·refine WO.U (oNot rfl) rfl <| Nw [(5, _), (6, _), (7, _), (13, _)] ⟨rfl, rfl, rfl, rfl, trivial⟩ <| WC.cT1 rfl <| Rg 1 rfl <| Ua rfl rfl <| Nw [(2, _)] ⟨rfl, trivial⟩ <| WC.ret <| after_ret <| unr_ret <| after_ret <| post (n := 0) (.inr rfl) rfl ?_ (by first | exact dc | exact dc1 | (simp [-data_sl]; done) | simp)
  exact congrArg (fun z => LV.v (.bool z)) (show false = (fewb a && (fewb b && fewb c)) by first | (rw [h12, Bool.false_and]; done) | (rw [h12, Bool.false_and, Bool.and_false]; done) | (rw [h12, Bool.and_false, Bool.and_false]; done))
 refine WO.U (oNot rfl) rfl <| Nw [(5, _), (6, _), (7, _), (13, _)] ⟨rfl, rfl, rfl, rfl, trivial⟩ <| WC.cF1 rfl <| WC.skip <| after_normal <| WC.weak [(5, _), (6, _), (7, _)] ⟨rfl, rfl, rfl, trivial⟩ ?_
 have hfb := h12
 refine WC.reg1z (z := 2) rfl <| WO.U (cI 2 (oAdd64 rfl rfl (by omega)) (by omega)) rfl <| Um rfl rfl <| Wn <| unr_normal <| WC.unroll <| Rg 1 rfl <| WO.U (oLss rfl rfl) rfl <| WO.D (fun h8 => ?_) (fun h8 => ?_)
 rotate_left
 ·omega
 refine Nw [(5, _), (6, _), (7, _), (8, _)] ⟨rfl, rfl, rfl, rfl, trivial⟩ <| WC.cT rfl <| WC.skips <| WC.block <| Rg 3 rfl <| WO.U (oIx (j := 2) rfl rfl rfl rfl rfl rfl rfl) rfl <| WO.U (oLd rfl rfl rfl) rfl <| Ua rfl rfl <| Nw [(4, _), (5, _), (6, _), (7, _)] ⟨rfl, rfl, rfl, rfl, trivial⟩ <| Rg 3 rfl <| Um rfl rfl <| WO.U (oCall rfl (few_run k3 c) (by first | exact dc | exact dc1 | (simp [-data_sl]; done) | simp)) rfl <| WO.B (fun h12 => ?_) (fun h12 => ?_)
 rotate_left
 ·refine WO.U (oNot rfl) rfl <| Nw [(5, _), (6, _), (7, _), (13, _)] ⟨rfl, rfl, rfl, rfl, trivial⟩ <| WC.cT1 rfl <| Rg 1 rfl <| Ua rfl rfl <| Nw [(2, _)] ⟨rfl, trivial⟩ <| WC.ret <| after_ret <| unr_ret <| after_ret <| post (n := 0) (.inr rfl) rfl ?_ (by first | exact dc | exact dc1 | (simp [-data_sl]; done) | simp)
  exact congrArg (fun z => LV.v (.bool z)) (show false = (fewb a && (fewb b && fewb c)) by first | (rw [h12, Bool.false_and]; done) | (rw [h12, Bool.false_and, Bool.and_false]; done) | (rw [h12, Bool.and_false, Bool.and_false]; done))
 refine WO.U (oNot rfl) rfl <| Nw [(5, _), (6, _), (7, _), (13, _)] ⟨rfl, rfl, rfl, rfl, trivial⟩ <| WC.cF1 rfl <| WC.skip <| after_normal <| WC.weak [(5, _), (6, _), (7, _)] ⟨rfl, rfl, rfl, trivial⟩ <| WC.reg1z (z := 2) rfl <| WO.U (cI 3 (oAdd64 rfl rfl (by omega)) (by omega)) rfl <| Um rfl rfl <| Wn <| unr_normal <| WC.unroll <| Rg 1 rfl <| WO.U (oLss rfl rfl) rfl <| WO.D (fun h8 => ?_) (fun h8 => ?_)
 ·omega
 refine Nw [(5, _), (6, _), (7, _), (8, _)] ⟨rfl, rfl, rfl, rfl, trivial⟩ <| WC.cF rfl <| WC.exits <| unr_exit <| after_exit rfl <| WC.weak [] trivial <| Rg 1 rfl <| Ua rfl rfl <| Nw [(2, _)] ⟨rfl, trivial⟩ <| WC.ret <| post (n := 0) (.inr rfl) rfl ?_ (by first | exact dc | exact dc1 | (simp [-data_sl]; done) | simp)
 exact congrArg (fun z => LV.v (.bool z)) (show true = (fewb a && (fewb b && fewb c)) by rw [hfa, hfb, h12]; rfl)
theorem mdet_any (k : Nat) (a : List M1) (hI : IM a) (hF : Few8 a) : Run Tryz.prog T E0 (.call 21 [.sl k (a.map fM)] (lvDet a)) := by
 cases a with
 | nil => exact mdetf_nil k
 | cons r a => exact mdetf_run k _ hI hF (by simp)
theorem minv_any (k : Nat) (a : List M1) (hI : IM a) (hF : Few8 a) : Run Tryz.prog T E0 (.call 22 [.sl k (a.map fM)] (lvInv a)) := by
 cases a with
 | nil => exact minverse_nil k
 | cons r a => exact minverse_run k _ hI hF (by simp)
theorem mred_any (k : Nat) (a : List M1) (hI : IM a) (hF : Few8 a) : Run Tryz.prog T E0 (.call 16 [.sl k (a.map fM)] (lvRed a)) := by
 cases a with
 | nil => exact mreduce_nil k
 | cons r a => exact mreduce_run k _ hI hF (by simp)
theorem msol_any (k k2 : Nat) (a : List M1) (b : List NM) (hI : IM a) (hIb : IV b) (hF : Few8 a) (lb : b.length ≤ 70) : Run Tryz.prog T E0 (.call 12 [.sl k (a.map fM), .sl k2 (b.map mc)] (lvSol a b)) := by
 cases a with
 | nil => exact msolve_nil k k2 b hIb lb
 | cons r a => exact msolve_run k k2 _ b hI hIb hF lb (by simp)
end Go.Proofs.YtcmieifjephdcaaGreat
set_option linter.unusedVariables false
set_option linter.unusedSimpArgs false
set_option maxRecDepth 100000
set_option maxHeartbeats 8000000
namespace Go.Proofs.YtcmieifjephdcaaGreat
open Go.Ab Go.RowKit
theorem products_run (k k2 k3 : Nat) (a b c : List M1) (hI : IM a) (hIb : IM b) (hIc : IM c) (hF : Few8 a) (hFb : Few8 b) (hFc : Few8 c) : Run Tryz.prog T E0 (.call 36 [.sl k (a.map fM), .sl k2 (b.map fM), .sl k3 (c.map fM)] (.v (.bool true))) := by
 obtain ⟨gI, gF⟩ := mul_good hF hFb
 obtain ⟨gI2, gF2⟩ := mul_good hFb hFc
 obtain ⟨gI3, gF3⟩ := mul_good gF hFc
 obtain ⟨pI, pF⟩ := inv_good hF
 obtain ⟨qI, qF⟩ := inv_good pF
 refine mkcall Tryz.func36 rfl rfl (Nat.le_of_ble_eq_true rfl) ?_
 have J18 : ∀  (n : Nat) , WC Tryz.prog T E0 Tryz.f36.ntmps (codeR (codeR (codeR (codeR (codeR (codeR (codeR (codeR (codeR (codeOf Tryz.f36)))))))))) [(0, .sl k (a.map fM)), (23, .sl (kd (inv1 a).length) ((inv1 a).map fM)), (24, .v (.int .i64 (inve a)))] [] n (Post T Tryz.f36.results.toList (.v (.bool true))) := by
  intro  n
  refine WC.assoc <| Rg 2 rfl <| Um rfl rfl <| WO.U (oNeq rfl rfl) rfl <| WO.D (fun h154 => ?_) (fun h154 => ?_)
  ·refine Nw [(0, _), (23, _), (154, _)] ⟨rfl, rfl, rfl, trivial⟩ <| WC.cT rfl <| WC.assoc <| Rg 1 rfl <| Ua rfl rfl <| Nw [(6, _)] ⟨rfl, trivial⟩ <| WC.rets <| post (n := 0) (.inr rfl) rfl ?_ (by first | exact dc | exact dc1 | (simp [-data_sl]; done) | simp)
   rfl
  refine Nw [(0, _), (23, _), (154, _)] ⟨rfl, rfl, rfl, trivial⟩ <| WC.cF rfl <| WC.skips ?_
  have hinv : inve a = 0 := by omega
  obtain ⟨hg1, hg2⟩ := law_g hF hinv
  refine Rg 7 rfl <| Um rfl rfl <| WO.U (oCall rfl (minv_any _ (inv1 a) pI pF) (by first | exact dc | exact dc1 | (simp [-data_sl]; done) | simp)) rfl <| Um rfl rfl <| WO.U (oEx rfl rfl) rfl <| WO.U (oEx rfl rfl) rfl <| Ua rfl rfl <| Ua rfl rfl <| Nw [(0, _), (25, _), (26, _)] ⟨rfl, rfl, rfl, trivial⟩ <| Rg 8 rfl <| Um rfl rfl <| WO.U (oEql rfl rfl) rfl <| WO.D (fun h161 => ?_) (fun h161 => ?_)
  rotate_left
  ·exact absurd hg1 h161
  refine Um rfl rfl <| WO.Ug rfl (oMv rfl) rfl <| WO.Ug rfl (oMv rfl) rfl <| WO.Ug rfl (oCall rfl (msame2_run _ k (inv1 (inv1 a)) a hg2 (by have := (qF).ln; omega) (fun r hr => by have := (qF).lr r hr; omega)) (by first | exact dc | exact dc1 | (simp [-data_sl]; done) | simp)) rfl <| WO.U (oPkT rfl rfl) rfl <| Ua rfl rfl <| Nw [(6, _)] ⟨rfl, trivial⟩ <| WC.ret <| post (n := 0) (.inr rfl) rfl ?_ (by first | exact dc | exact dc1 | (simp [-data_sl]; done) | simp)
  rfl
 have J15 : ∀ (p : Nat) (n : Nat) , WC Tryz.prog T E0 Tryz.f36.ntmps (codeR (codeR (codeR (codeR (codeR (codeR (codeR (codeOf Tryz.f36)))))))) [(0, .sl k (a.map fM)), (15, .ptr p 0), (16, .v (.int .i64 (dete a)))] [(p, { cells := mc (detn a), sz := 2, elem := 38, st := 0 })] n (Post T Tryz.f36.results.toList (.v (.bool true))) := by
  intro p n
  refine Rg 7 rfl <| Um rfl rfl <| WO.U (oCall rfl (minv_any k a hI hF) (by first | exact dc | exact dc1 | (simp [-data_sl]; done) | simp)) rfl <| Um rfl rfl <| WO.U (oEx rfl rfl) rfl <| WO.U (oEx rfl rfl) rfl <| Ua rfl rfl <| Ua rfl rfl <| Nw [(0, _), (15, _), (16, _), (23, _), (24, _)] ⟨rfl, rfl, rfl, rfl, rfl, trivial⟩ <| WC.assoc <| Rg 15 rfl <| Um rfl rfl <| WO.U (oEql rfl rfl) rfl <| WO.D (fun h139 => ?_) (fun h139 => ?_)
  rotate_left
  ·refine Um rfl rfl <| WO.K rfl rfl <| WO.K rfl rfl <| WO.K rfl rfl <| WO.U (oPkF rfl rfl) rfl <| Um rfl rfl <| WO.K rfl rfl <| WO.K rfl rfl <| WO.K rfl rfl <| WO.K rfl rfl <| WO.K rfl rfl <| WO.K rfl rfl <| WO.U (oPkF rfl rfl) rfl <| Nw [(0, _), (23, _), (24, _), (152, _)] ⟨rfl, rfl, rfl, rfl, trivial⟩ <| WC.cF rfl <| WC.skips <| WC.weak [(0, _), (23, _), (24, _)] ⟨rfl, rfl, rfl, trivial⟩ <| WC.weakM [] trivial ?_
   exact J18 _
  refine Um rfl rfl <| WO.Ug rfl (oMv rfl) rfl <| WO.Ug rfl (oLenM rfl rfl) rfl <| WO.Ug rfl (oGtr rfl rfl) rfl <| WO.D (fun h143 => ?_) (fun h143 => ?_)
  ·refine WO.U (oPkT rfl rfl) rfl <| Um rfl rfl <| WO.Ug rfl (oMv rfl) rfl <| WO.Ug rfl (oEql rfl rfl) rfl <| WO.Ug rfl (oFaP rfl rfl rfl rfl rfl) rfl <| WO.Ug rfl (oLdP (l := .v (.int .i64 (detn a).1)) rfl rfl (by repeat (first | exact g0 | refine g1 (by omega) ?_)) rfl rfl) rfl ?_
   refine WO.Ug rfl (oEql rfl rfl) rfl <| WO.Ug rfl (OP.cast (b := .v (.bool false)) (oNeB rfl rfl rfl) (by rw [show decide (inve a = 5) = decide ((detn a).1 = 0) from decide_eq_decide.2 (law_f h139)]; simp)) rfl <| WO.U (oPkT rfl rfl) rfl <| Nw [(0, _), (23, _), (24, _), (152, _)] ⟨rfl, rfl, rfl, rfl, trivial⟩ <| WC.cF rfl <| WC.skips <| WC.weak [(0, _), (23, _), (24, _)] ⟨rfl, rfl, rfl, trivial⟩ <| WC.weakM [] trivial ?_
   exact J18 _
  refine WO.U (oPkT rfl rfl) rfl <| Um rfl rfl <| WO.K rfl rfl <| WO.K rfl rfl <| WO.K rfl rfl <| WO.K rfl rfl <| WO.K rfl rfl <| WO.K rfl rfl <| WO.U (oPkF rfl rfl) rfl <| Nw [(0, _), (23, _), (24, _), (152, _)] ⟨rfl, rfl, rfl, rfl, trivial⟩ <| WC.cF rfl <| WC.skips <| WC.weak [(0, _), (23, _), (24, _)] ⟨rfl, rfl, rfl, trivial⟩ <| WC.weakM [] trivial ?_
  exact J18 _
 have J8 : ∀  (n : Nat) , WC Tryz.prog T E0 Tryz.f36.ntmps (codeR (codeR (codeR (codeR (codeOf Tryz.f36))))) [(0, .sl k (a.map fM)), (1, .sl k2 (b.map fM)), (7, .sl (kd (mul1 a b).length) ((mul1 a b).map fM)), (8, .v (.int .i64 (mule a b)))] [] n (Post T Tryz.f36.results.toList (.v (.bool true))) := by
  intro  n
  refine Rg 8 rfl <| Um rfl rfl <| WO.U (oCall rfl (mdet_any k a hI hF) (by first | exact dc | exact dc1 | (simp [-data_sl]; done) | simp)) rfl <| Um rfl rfl <| WO.U (oEx rfl rfl) rfl <| WO.U (oEx rfl rfl) rfl <| WO.S (oAl rfl) rfl <| WO.S0 (oSt (cs' := [_, _]) rfl rfl rfl (by repeat (first | exact g0 | refine g1 (by omega) ?_)) rfl rfl rfl rfl) ?_
  refine Ua rfl rfl <| Nw [(0, _), (1, _), (7, _), (8, _), (15, _), (16, _)] ⟨rfl, rfl, rfl, rfl, rfl, rfl, trivial⟩ <| Rg 8 rfl <| Um rfl rfl <| WO.U (oCall rfl (mdet_any k2 b hIb hFb) (by first | exact dc | exact dc1 | (simp [-data_sl]; done) | simp)) rfl <| Um rfl rfl <| WO.U (oEx rfl rfl) rfl <| WO.U (oEx rfl rfl) rfl <| WO.S (oAl rfl) rfl <| WO.S0 (oSt (cs' := [_, _]) rfl rfl rfl (by repeat (first | exact g0 | refine g1 (by omega) ?_)) rfl rfl rfl rfl) ?_
  refine Ua rfl rfl <| Nw [(0, _), (1, _), (7, _), (8, _), (15, _), (16, _), (17, _), (18, _)] ⟨rfl, rfl, rfl, rfl, rfl, rfl, rfl, rfl, trivial⟩ <| WC.assoc <| Rg 8 rfl <| Um rfl rfl <| WO.U (oCall rfl (mdet_any _ (mul1 a b) gI gF) (by first | exact dc | exact dc1 | (simp [-data_sl]; done) | simp)) rfl <| Um rfl rfl <| WO.U (oEx rfl rfl) rfl <| WO.U (oEx rfl rfl) rfl <| WO.S (oAl rfl) rfl <| WO.S0 (oSt (cs' := [_, _]) rfl rfl rfl (by repeat (first | exact g0 | refine g1 (by omega) ?_)) rfl rfl rfl rfl) ?_
  refine Ua rfl rfl <| Nw [(0, _), (1, _), (8, _), (15, _), (16, _), (17, _), (18, _), (19, _), (20, _)] ⟨rfl, rfl, rfl, rfl, rfl, rfl, rfl, rfl, rfl, trivial⟩ <| WC.assoc <| Rg 26 rfl <| Um rfl rfl <| WO.U (oEql rfl rfl) rfl <| WO.D (fun h95 => ?_) (fun h95 => ?_)
  rotate_left
  ·refine Um rfl rfl <| WO.K rfl rfl <| WO.K rfl rfl <| WO.U (oPkF rfl rfl) rfl <| Um rfl rfl <| WO.K rfl rfl <| WO.K rfl rfl <| WO.U (oPkF rfl rfl) rfl <| Um rfl rfl <| WO.K rfl rfl <| WO.K rfl rfl <| WO.U (oPkF rfl rfl) rfl <| Um rfl rfl <| WO.K rfl rfl <| WO.K rfl rfl <| WO.K rfl rfl <| WO.K rfl rfl <| WO.K rfl rfl <| WO.U (oPkF rfl rfl) rfl <| Um rfl rfl <| WO.K rfl rfl <| WO.K rfl rfl <| WO.K rfl rfl <| WO.U (oPkF rfl rfl) rfl ?_
   refine Nw [(0, _), (15, _), (16, _), (17, _), (19, _), (119, _)] ⟨rfl, rfl, rfl, rfl, rfl, rfl, trivial⟩ <| WC.cF rfl <| WC.skips <| WC.weak [(0, _), (15, _), (16, _)] ⟨rfl, rfl, rfl, trivial⟩ <| WC.weakM [(n + (0 + 1 + 1 + 1 + 1 + 1), { cells := mc (detn a), sz := 2, elem := 38, st := 0 })] ⟨(by repeat (first | exact g0 | refine g1 (by omega) ?_)), trivial⟩ ?_
   exact J15 (n + (0 + 1 + 1 + 1 + 1 + 1)) _
  refine Um rfl rfl <| WO.Ug rfl (oMv rfl) rfl <| WO.Ug rfl (oEql rfl rfl) rfl <| WO.D (fun h98 => ?_) (fun h98 => ?_)
  rotate_left
  ·refine WO.U (oPkT rfl rfl) rfl <| Um rfl rfl <| WO.K rfl rfl <| WO.K rfl rfl <| WO.U (oPkF rfl rfl) rfl <| Um rfl rfl <| WO.K rfl rfl <| WO.K rfl rfl <| WO.U (oPkF rfl rfl) rfl <| Um rfl rfl <| WO.K rfl rfl <| WO.K rfl rfl <| WO.K rfl rfl <| WO.K rfl rfl <| WO.K rfl rfl <| WO.U (oPkF rfl rfl) rfl <| Um rfl rfl <| WO.K rfl rfl <| WO.K rfl rfl <| WO.K rfl rfl <| WO.U (oPkF rfl rfl) rfl <| Nw [(0, _), (15, _), (16, _), (17, _), (19, _), (119, _)] ⟨rfl, rfl, rfl, rfl, rfl, rfl, trivial⟩ <| WC.cF rfl ?_
   refine WC.skips <| WC.weak [(0, _), (15, _), (16, _)] ⟨rfl, rfl, rfl, trivial⟩ <| WC.weakM [(n + (0 + 1 + 1 + 1 + 1 + 1), { cells := mc (detn a), sz := 2, elem := 38, st := 0 })] ⟨(by repeat (first | exact g0 | refine g1 (by omega) ?_)), trivial⟩ ?_
   exact J15 (n + (0 + 1 + 1 + 1 + 1 + 1)) _
  refine WO.U (oPkT rfl rfl) rfl <| Um rfl rfl <| WO.Ug rfl (oMv rfl) rfl <| WO.Ug rfl (oEql rfl rfl) rfl <| WO.D (fun h102 => ?_) (fun h102 => ?_)
  rotate_left
  ·refine WO.U (oPkT rfl rfl) rfl <| Um rfl rfl <| WO.K rfl rfl <| WO.K rfl rfl <| WO.U (oPkF rfl rfl) rfl <| Um rfl rfl <| WO.K rfl rfl <| WO.K rfl rfl <| WO.K rfl rfl <| WO.K rfl rfl <| WO.K rfl rfl <| WO.U (oPkF rfl rfl) rfl <| Um rfl rfl <| WO.K rfl rfl <| WO.K rfl rfl <| WO.K rfl rfl <| WO.U (oPkF rfl rfl) rfl <| Nw [(0, _), (15, _), (16, _), (17, _), (19, _), (119, _)] ⟨rfl, rfl, rfl, rfl, rfl, rfl, trivial⟩ <| WC.cF rfl <| WC.skips <| WC.weak [(0, _), (15, _), (16, _)] ⟨rfl, rfl, rfl, trivial⟩ <| WC.weakM [(n + (0 + 1 + 1 + 1 + 1 + 1), { cells := mc (detn a), sz := 2, elem := 38, st := 0 })] ⟨(by repeat (first | exact g0 | refine g1 (by omega) ?_)), trivial⟩ ?_
   exact J15 (n + (0 + 1 + 1 + 1 + 1 + 1)) _
  refine WO.U (oPkT rfl rfl) rfl <| Um rfl rfl <| WO.Ug rfl (oMv rfl) rfl <| WO.Ug rfl (oEql rfl rfl) rfl <| WO.D (fun h106 => ?_) (fun h106 => ?_)
  rotate_left
  ·refine WO.U (oPkT rfl rfl) rfl <| Um rfl rfl <| WO.K rfl rfl <| WO.K rfl rfl <| WO.K rfl rfl <| WO.K rfl rfl <| WO.K rfl rfl <| WO.U (oPkF rfl rfl) rfl <| Um rfl rfl <| WO.K rfl rfl <| WO.K rfl rfl <| WO.K rfl rfl <| WO.U (oPkF rfl rfl) rfl <| Nw [(0, _), (15, _), (16, _), (17, _), (19, _), (119, _)] ⟨rfl, rfl, rfl, rfl, rfl, rfl, trivial⟩ <| WC.cF rfl <| WC.skips <| WC.weak [(0, _), (15, _), (16, _)] ⟨rfl, rfl, rfl, trivial⟩ <| WC.weakM [(n + (0 + 1 + 1 + 1 + 1 + 1), { cells := mc (detn a), sz := 2, elem := 38, st := 0 })] ⟨(by repeat (first | exact g0 | refine g1 (by omega) ?_)), trivial⟩ ?_
   exact J15 (n + (0 + 1 + 1 + 1 + 1 + 1)) _
  refine WO.U (oPkT rfl rfl) rfl <| Um rfl rfl <| WO.Ug rfl (oMv rfl) rfl <| WO.Ug rfl (oLenM rfl rfl) rfl <| WO.Ug rfl (oMv rfl) rfl <| WO.Ug rfl (oLenM rfl rfl) rfl <| WO.Ug rfl (oEql rfl rfl) rfl <| WO.D (fun h113 => ?_) (fun h113 => ?_)
  rotate_left
  ·refine WO.U (oPkT rfl rfl) rfl <| Um rfl rfl <| WO.K rfl rfl <| WO.K rfl rfl <| WO.K rfl rfl <| WO.U (oPkF rfl rfl) rfl <| Nw [(0, _), (15, _), (16, _), (17, _), (19, _), (119, _)] ⟨rfl, rfl, rfl, rfl, rfl, rfl, trivial⟩ <| WC.cF rfl <| WC.skips <| WC.weak [(0, _), (15, _), (16, _)] ⟨rfl, rfl, rfl, trivial⟩ <| WC.weakM [(n + (0 + 1 + 1 + 1 + 1 + 1), { cells := mc (detn a), sz := 2, elem := 38, st := 0 })] ⟨(by repeat (first | exact g0 | refine g1 (by omega) ?_)), trivial⟩ ?_
   exact J15 (n + (0 + 1 + 1 + 1 + 1 + 1)) _
  refine WO.U (oPkT rfl rfl) rfl <| Um rfl rfl <| WO.Ug rfl (oMv rfl) rfl <| WO.Ug rfl (oLenM rfl rfl) rfl <| WO.Ug rfl (oGtr rfl rfl) rfl <| WO.D (fun h118 => ?_) (fun h118 => ?_)
  rotate_left
  ·refine WO.U (oPkT rfl rfl) rfl <| Nw [(0, _), (15, _), (16, _), (17, _), (19, _), (119, _)] ⟨rfl, rfl, rfl, rfl, rfl, rfl, trivial⟩ <| WC.cF rfl <| WC.skips <| WC.weak [(0, _), (15, _), (16, _)] ⟨rfl, rfl, rfl, trivial⟩ <| WC.weakM [(n + (0 + 1 + 1 + 1 + 1 + 1), { cells := mc (detn a), sz := 2, elem := 38, st := 0 })] ⟨(by repeat (first | exact g0 | refine g1 (by omega) ?_)), trivial⟩ ?_
   exact J15 (n + (0 + 1 + 1 + 1 + 1 + 1)) _
  refine WO.U (oPkT rfl rfl) rfl <| Nw [(0, _), (15, _), (16, _), (17, _), (19, _), (119, _)] ⟨rfl, rfl, rfl, rfl, rfl, rfl, trivial⟩ <| WC.cT rfl <| WC.assoc ?_
  have he := law_e hF hFb h95 h98 h102 h106 (by omega)
  refine Rg 9 rfl <| WO.U (oLdP (l := lvM (detn a)) rfl rfl (by repeat (first | exact g0 | refine g1 (by omega) ?_)) rfl rfl) rfl ?_
  refine WO.U (oLdP (l := lvM (detn b)) rfl rfl (by repeat (first | exact g0 | refine g1 (by omega) ?_)) rfl rfl) rfl ?_
  refine WO.U (oCall rfl (nmul_run (detn a) (detn b) (detn (mul1 a b)) he.2.1 he.2.2 he.1) (by first | exact dc | exact dc1 | (simp [-data_sl]; done) | simp)) rfl <| Um rfl rfl <| WO.U (oEx rfl rfl) rfl <| WO.U (oEx rfl rfl) rfl <| WO.S (oAl rfl) rfl <| WO.S0 (oSt (cs' := [_, _]) rfl rfl rfl (by repeat (first | exact g0 | refine g1 (by omega) ?_)) rfl rfl rfl rfl) ?_
  refine Ua rfl rfl <| Nw [(0, _), (15, _), (16, _), (19, _), (21, _), (22, _)] ⟨rfl, rfl, rfl, rfl, rfl, rfl, trivial⟩ <| WC.assoc <| Rg 7 rfl <| Um rfl rfl <| WO.U (oNeq rfl rfl) rfl <| WO.D (fun h127 => ?_) (fun h127 => ?_)
  ·exact absurd rfl h127
  refine Um rfl rfl <| WO.Ug rfl (oLdP (l := lvM (detn (mul1 a b))) rfl rfl (by repeat (first | exact g0 | refine g1 (by omega) ?_)) rfl rfl) rfl ?_
  refine WO.Ug rfl (oLdP (l := lvM (detn (mul1 a b))) rfl rfl (by repeat (first | exact g0 | refine g1 (by omega) ?_)) rfl rfl) rfl ?_
  refine WO.Ug rfl (OP.cast (b := .v (.bool false)) (oNeS rfl rfl rfl rfl (cellsEq_mc _ _)) (by simp)) rfl <| WO.U (oPkF rfl rfl) rfl <| Nw [(0, _), (15, _), (16, _), (132, _)] ⟨rfl, rfl, rfl, rfl, trivial⟩ <| WC.cF rfl <| WC.skips <| WC.weak [(0, _), (15, _), (16, _)] ⟨rfl, rfl, rfl, trivial⟩ <| WC.weakM [(n + (0 + 1 + 1 + 1 + 1 + 1), { cells := mc (detn a), sz := 2, elem := 38, st := 0 })] ⟨(by repeat (first | exact g0 | refine g1 (by omega) ?_)), trivial⟩ ?_
  exact J15 (n + (0 + 1 + 1 + 1 + 1 + 1)) _
 refine WC.weak [(0, _), (1, _), (2, _)] ⟨rfl, rfl, rfl, trivial⟩ <| Rg 1 rfl <| Ua rfl rfl <| Nw [(0, _), (1, _), (2, _)] ⟨rfl, rfl, rfl, trivial⟩ <| Rg 8 rfl <| Um rfl rfl <| Um rfl rfl <| WO.U (oCall rfl (mMul_run k k2 a b hI hIb hF hFb) (by first | exact dc | exact dc1 | (simp [-data_sl]; done) | simp)) rfl <| Um rfl rfl <| WO.U (oEx rfl rfl) rfl <| WO.U (oEx rfl rfl) rfl <| Ua rfl rfl <| Ua rfl rfl <| Nw [(0, _), (1, _), (2, _), (7, _), (8, _)] ⟨rfl, rfl, rfl, rfl, rfl, trivial⟩ <| Rg 8 rfl <| Um rfl rfl <| Um rfl rfl <| WO.U (oCall rfl (mMul_run k2 k3 b c hIb hIc hFb hFc) (by first | exact dc | exact dc1 | (simp [-data_sl]; done) | simp)) rfl <| Um rfl rfl <| WO.U (oEx rfl rfl) rfl <| WO.U (oEx rfl rfl) rfl <| Ua rfl rfl ?_
 refine Ua rfl rfl <| Nw [(0, _), (1, _), (2, _), (7, _), (8, _), (9, _), (10, _)] ⟨rfl, rfl, rfl, rfl, rfl, rfl, rfl, trivial⟩ <| WC.assoc <| Rg 16 rfl <| Um rfl rfl <| WO.U (oEql rfl rfl) rfl <| WO.D (fun h40 => ?_) (fun h40 => ?_)
 rotate_left
 ·refine Um rfl rfl <| WO.K rfl rfl <| WO.K rfl rfl <| WO.U (oPkF rfl rfl) rfl <| Um rfl rfl <| WO.K rfl rfl <| WO.K rfl rfl <| WO.K rfl rfl <| WO.U (oPkF rfl rfl) rfl <| Um rfl rfl <| WO.K rfl rfl <| WO.K rfl rfl <| WO.K rfl rfl <| WO.U (oPkF rfl rfl) rfl <| Nw [(0, _), (1, _), (2, _), (7, _), (8, _), (9, _), (54, _)] ⟨rfl, rfl, rfl, rfl, rfl, rfl, rfl, trivial⟩ <| WC.cF rfl <| WC.skips <| WC.weak [(0, _), (1, _), (7, _), (8, _)] ⟨rfl, rfl, rfl, rfl, trivial⟩ <| WC.weakM [] trivial ?_
  exact J8 _
 refine Um rfl rfl <| WO.Ug rfl (oMv rfl) rfl <| WO.Ug rfl (oEql rfl rfl) rfl <| WO.D (fun h43 => ?_) (fun h43 => ?_)
 rotate_left
 ·refine WO.U (oPkT rfl rfl) rfl <| Um rfl rfl <| WO.K rfl rfl <| WO.K rfl rfl <| WO.K rfl rfl <| WO.U (oPkF rfl rfl) rfl <| Um rfl rfl <| WO.K rfl rfl <| WO.K rfl rfl <| WO.K rfl rfl <| WO.U (oPkF rfl rfl) rfl <| Nw [(0, _), (1, _), (2, _), (7, _), (8, _), (9, _), (54, _)] ⟨rfl, rfl, rfl, rfl, rfl, rfl, rfl, trivial⟩ <| WC.cF rfl <| WC.skips <| WC.weak [(0, _), (1, _), (7, _), (8, _)] ⟨rfl, rfl, rfl, rfl, trivial⟩ <| WC.weakM [] trivial ?_
  exact J8 _
 refine WO.U (oPkT rfl rfl) rfl <| Um rfl rfl <| WO.Ug rfl (oMv rfl) rfl <| WO.Ug rfl (oLenM rfl rfl) rfl <| WO.Ug rfl (oGtr rfl rfl) rfl <| WO.D (fun h48 => ?_) (fun h48 => ?_)
 rotate_left
 ·refine WO.U (oPkT rfl rfl) rfl <| Um rfl rfl <| WO.K rfl rfl <| WO.K rfl rfl <| WO.K rfl rfl <| WO.U (oPkF rfl rfl) rfl <| Nw [(0, _), (1, _), (2, _), (7, _), (8, _), (9, _), (54, _)] ⟨rfl, rfl, rfl, rfl, rfl, rfl, rfl, trivial⟩ <| WC.cF rfl <| WC.skips <| WC.weak [(0, _), (1, _), (7, _), (8, _)] ⟨rfl, rfl, rfl, rfl, trivial⟩ <| WC.weakM [] trivial ?_
  exact J8 _
 refine WO.U (oPkT rfl rfl) rfl <| Um rfl rfl <| WO.Ug rfl (oMv rfl) rfl <| WO.Ug rfl (oLenM rfl rfl) rfl <| WO.Ug rfl (oGtr rfl rfl) rfl <| WO.D (fun h53 => ?_) (fun h53 => ?_)
 rotate_left
 ·refine WO.U (oPkT rfl rfl) rfl <| Nw [(0, _), (1, _), (2, _), (7, _), (8, _), (9, _), (54, _)] ⟨rfl, rfl, rfl, rfl, rfl, rfl, rfl, trivial⟩ <| WC.cF rfl <| WC.skips <| WC.weak [(0, _), (1, _), (7, _), (8, _)] ⟨rfl, rfl, rfl, rfl, trivial⟩ <| WC.weakM [] trivial ?_
  exact J8 _
 refine WO.U (oPkT rfl rfl) rfl <| Nw [(0, _), (1, _), (2, _), (7, _), (8, _), (9, _), (54, _)] ⟨rfl, rfl, rfl, rfl, rfl, rfl, rfl, trivial⟩ <| WC.cT rfl <| WC.assoc <| Rg 8 rfl <| Um rfl rfl <| Um rfl rfl <| WO.U (oCall rfl (mMul_run _ k3 (mul1 a b) c gI hIc gF hFc) (by first | exact dc | exact dc1 | (simp [-data_sl]; done) | simp)) rfl <| Um rfl rfl <| WO.U (oEx rfl rfl) rfl <| WO.U (oEx rfl rfl) rfl <| Ua rfl rfl <| Ua rfl rfl <| Nw [(0, _), (1, _), (7, _), (8, _), (9, _), (11, _), (12, _)] ⟨rfl, rfl, rfl, rfl, rfl, rfl, rfl, trivial⟩ <| WC.assoc <| Rg 8 rfl <| Um rfl rfl <| Um rfl rfl <| WO.U (oCall rfl (mMul_run k _ a (mul1 b c) hI gI2 hF gF2) (by first | exact dc | exact dc1 | (simp [-data_sl]; done) | simp)) rfl <| Um rfl rfl <| WO.U (oEx rfl rfl) rfl <| WO.U (oEx rfl rfl) rfl ?_
 refine Ua rfl rfl <| Ua rfl rfl <| Nw [(0, _), (1, _), (7, _), (8, _), (11, _), (12, _), (13, _), (14, _)] ⟨rfl, rfl, rfl, rfl, rfl, rfl, rfl, rfl, trivial⟩ <| WC.assoc <| Rg 12 rfl <| Um rfl rfl <| WO.U (oEql rfl rfl) rfl <| WO.D (fun h68 => ?_) (fun h68 => ?_)
 rotate_left
 ·refine Um rfl rfl <| WO.K rfl rfl <| WO.K rfl rfl <| WO.U (oPkF rfl rfl) rfl <| Um rfl rfl <| WO.K rfl rfl <| WO.K rfl rfl <| WO.K rfl rfl <| WO.K rfl rfl <| WO.U (oPkF rfl rfl) rfl <| Nw [(0, _), (1, _), (7, _), (8, _), (78, _)] ⟨rfl, rfl, rfl, rfl, rfl, trivial⟩ <| WC.cF rfl <| WC.skips <| WC.weak [(0, _), (1, _), (7, _), (8, _)] ⟨rfl, rfl, rfl, rfl, trivial⟩ <| WC.weakM [] trivial ?_
  exact J8 _
 refine Um rfl rfl <| WO.Ug rfl (oMv rfl) rfl <| WO.Ug rfl (oEql rfl rfl) rfl <| WO.D (fun h71 => ?_) (fun h71 => ?_)
 rotate_left
 ·refine WO.U (oPkT rfl rfl) rfl <| Um rfl rfl <| WO.K rfl rfl <| WO.K rfl rfl <| WO.K rfl rfl <| WO.K rfl rfl <| WO.U (oPkF rfl rfl) rfl <| Nw [(0, _), (1, _), (7, _), (8, _), (78, _)] ⟨rfl, rfl, rfl, rfl, rfl, trivial⟩ <| WC.cF rfl <| WC.skips <| WC.weak [(0, _), (1, _), (7, _), (8, _)] ⟨rfl, rfl, rfl, rfl, trivial⟩ <| WC.weakM [] trivial ?_
  exact J8 _
 refine WO.U (oPkT rfl rfl) rfl <| Um rfl rfl <| WO.Ug rfl (oMv rfl) rfl <| WO.Ug rfl (oMv rfl) rfl ?_
 have hd := law_d hF hFb hFc h40 h43 (by omega) (by omega) h68 h71
 refine WO.Ug rfl (oCall rfl (msame2_run _ _ (mul1 (mul1 a b) c) (mul1 a (mul1 b c)) (by rw [hd]) (by have := (gF3).ln; omega) (fun r hr => by have := (gF3).lr r hr; omega)) (by first | exact dc | exact dc1 | (simp [-data_sl]; done) | simp)) rfl <| WO.Ug rfl (oNot rfl) rfl <| WO.U (oPkT rfl rfl) rfl <| Nw [(0, _), (1, _), (7, _), (8, _), (78, _)] ⟨rfl, rfl, rfl, rfl, rfl, trivial⟩ <| WC.cF rfl <| WC.skips <| WC.weak [(0, _), (1, _), (7, _), (8, _)] ⟨rfl, rfl, rfl, rfl, trivial⟩ <| WC.weakM [] trivial ?_
 exact J8 _
theorem law_laws (k k2 k3 k4 : Nat) (a b c : List M1) (x : List NM) (hI : IM a) (hIb : IM b) (hIc : IM c) (hIx : IV x) : Run Tryz.prog T E0 (.call 8 [.sl k (a.map fM), .sl k2 (b.map fM), .sl k3 (c.map fM), .sl k4 (x.map mc)] (.v (.bool true))) := by
 refine mkcall Tryz.func8 rfl rfl (Nat.le_of_ble_eq_true rfl) ?_
 have J20 : ∀ (hF : Few8 a) (hFb : Few8 b) (hFc : Few8 c) (n : Nat) , WC Tryz.prog T E0 Tryz.f8.ntmps (codeR (codeR (codeR (codeR (codeR (codeR (codeR (codeOf Tryz.f8)))))))) [(0, .sl k (a.map fM)), (1, .sl k2 (b.map fM)), (2, .sl k3 (c.map fM))] [] n (Post T Tryz.f8.results.toList (.v (.bool true))) := by
  intro hF hFb hFc n
  refine Rg 8 rfl <| Um rfl rfl <| Um rfl rfl <| Um rfl rfl <| WO.U (oCall rfl (products_run k k2 k3 a b c hI hIb hIc hF hFb hFc) (by first | exact dc | exact dc1 | (simp [-data_sl]; done) | simp)) rfl <| Um rfl rfl <| WO.Ug rfl (oCall rfl (awake_run) (by first | exact dc | exact dc1 | (simp [-data_sl]; done) | simp)) rfl <| WO.U (oPkT rfl rfl) rfl <| Ua rfl rfl <| Nw [(8, _)] ⟨rfl, trivial⟩ <| WC.ret <| post (n := 0) (.inr rfl) rfl ?_ (by first | exact dc | exact dc1 | (simp [-data_sl]; done) | simp)
  rfl
 have J14 : ∀ (hF : Few8 a) (hFb : Few8 b) (hFc : Few8 c) (lx : x.length ≤ 70) (n : Nat) , WC Tryz.prog T E0 Tryz.f8.ntmps (codeR (codeR (codeR (codeR (codeR (codeOf Tryz.f8)))))) [(0, .sl k (a.map fM)), (1, .sl k2 (b.map fM)), (2, .sl k3 (c.map fM)), (3, .sl k4 (x.map mc)), (9, .sl (kd (app1 a x).length) ((app1 a x).map mc)), (10, .v (.int .i64 (appe a x)))] [] n (Post T Tryz.f8.results.toList (.v (.bool true))) := by
  intro hF hFb hFc lx n
  refine Rg 7 rfl ?_
  obtain ⟨rI, rF⟩ := red_good hF
  obtain ⟨rI2, rF2⟩ := red_good rF
  obtain ⟨ax1, ax2⟩ := app_good a x hF
  obtain ⟨rx1, rx2⟩ := app_good (rl a) x rF
  refine Um rfl rfl <| WO.U (oCall rfl (mred_any k a hI hF) (by first | exact dc | exact dc1 | (simp [-data_sl]; done) | simp)) rfl <| Um rfl rfl <| WO.U (oEx rfl rfl) rfl <| WO.U (oEx rfl rfl) rfl <| Ua rfl rfl <| Ua rfl rfl <| Nw [(0, _), (1, _), (2, _), (3, _), (9, _), (10, _), (22, _), (23, _)] ⟨rfl, rfl, rfl, rfl, rfl, rfl, rfl, rfl, trivial⟩ <| WC.assoc <| Rg 2 rfl <| Um rfl rfl <| WO.U (oEql rfl rfl) rfl <| WO.D (fun h133 => ?_) (fun h133 => ?_)
  rotate_left
  ·refine Nw [(0, _), (1, _), (2, _), (3, _), (9, _), (10, _), (22, _), (133, _)] ⟨rfl, rfl, rfl, rfl, rfl, rfl, rfl, rfl, trivial⟩ <| WC.cF rfl <| WC.skips <| WC.weak [(0, _), (1, _), (2, _)] ⟨rfl, rfl, rfl, trivial⟩ ?_
   exact J20 hF hFb hFc _
  refine Nw [(0, _), (1, _), (2, _), (3, _), (9, _), (10, _), (22, _), (133, _)] ⟨rfl, rfl, rfl, rfl, rfl, rfl, rfl, rfl, trivial⟩ <| WC.cT rfl <| WC.assoc ?_
  obtain ⟨hc1, hc2⟩ := law_c hF h133
  refine Rg 7 rfl <| Um rfl rfl <| WO.U (oCall rfl (mred_any _ (rl a) rI rF) (by first | exact dc | exact dc1 | (simp [-data_sl]; done) | simp)) rfl <| Um rfl rfl <| WO.U (oEx rfl rfl) rfl <| WO.U (oEx rfl rfl) rfl <| Ua rfl rfl <| Ua rfl rfl <| Nw [(0, _), (1, _), (2, _), (3, _), (9, _), (10, _), (22, _), (24, _), (25, _)] ⟨rfl, rfl, rfl, rfl, rfl, rfl, rfl, rfl, rfl, trivial⟩ <| WC.assoc <| Rg 8 rfl <| Um rfl rfl <| Um rfl rfl <| WO.U (oCall rfl (mApply_run _ k4 (rl a) x rI hIx rF lx) (by first | exact dc | exact dc1 | (simp [-data_sl]; done) | simp)) rfl <| Um rfl rfl <| WO.U (oEx rfl rfl) rfl <| WO.U (oEx rfl rfl) rfl <| Ua rfl rfl <| Ua rfl rfl <| Nw [(0, _), (1, _), (2, _), (9, _), (10, _), (22, _), (24, _), (25, _), (26, _), (27, _)] ⟨rfl, rfl, rfl, rfl, rfl, rfl, rfl, rfl, rfl, rfl, trivial⟩ <| WC.assoc <| Rg 23 rfl ?_
  refine Um rfl rfl <| WO.U (oNeq rfl rfl) rfl <| WO.D (fun h146 => ?_) (fun h146 => ?_)
  ·exact absurd hc1 h146
  refine Um rfl rfl <| WO.Ug rfl (oMv rfl) rfl <| WO.Ug rfl (oMv rfl) rfl <| WO.Ug rfl (oCall rfl (msame2_run _ _ (rl a) (rl (rl a)) (by rw [hc2]) (by have := (rF).ln; omega) (fun r hr => by have := (rF).lr r hr; omega)) (by first | exact dc | exact dc1 | (simp [-data_sl]; done) | simp)) rfl <| WO.Ug rfl (oNot rfl) rfl <| WO.U (oPkF rfl rfl) rfl <| Um rfl rfl <| WO.Ug rfl (oMv rfl) rfl <| WO.Ug rfl (oEql rfl rfl) rfl <| WO.D (fun h155 => ?_) (fun h155 => ?_)
  rotate_left
  ·refine WO.Ug rfl (oMv rfl) rfl <| WO.K rfl rfl <| WO.K rfl rfl <| WO.Ug rfl (oPkF rfl rfl) rfl <| WO.Ug rfl (oMv rfl) rfl <| WO.K rfl rfl <| WO.K rfl rfl <| WO.K rfl rfl <| WO.K rfl rfl <| WO.K rfl rfl <| WO.Ug rfl (oPkF rfl rfl) rfl <| WO.U (oPkF rfl rfl) rfl <| Nw [(0, _), (1, _), (2, _), (167, _)] ⟨rfl, rfl, rfl, rfl, trivial⟩ <| WC.cF rfl <| WC.skips <| WC.weak [(0, _), (1, _), (2, _)] ⟨rfl, rfl, rfl, trivial⟩ ?_
   exact J20 hF hFb hFc _
  refine WO.Ug rfl (oMv rfl) rfl <| WO.Ug rfl (oMv rfl) rfl <| WO.Ug rfl (oEql rfl rfl) rfl <| WO.D (fun h158 => ?_) (fun h158 => ?_)
  ·refine WO.Ug rfl (oPkT rfl rfl) rfl <| WO.Ug rfl (oMv rfl) rfl <| WO.Ug rfl (oMv rfl) rfl <| WO.Ug rfl (oCall rfl (zero_run _ (app1 a x) (by omega)) (by first | exact dc | exact dc1 | (simp [-data_sl]; done) | simp)) rfl <| WO.Ug rfl (oMv rfl) rfl <| WO.Ug rfl (oCall rfl (zero_run _ (app1 (rl a) x) (by omega)) (by first | exact dc | exact dc1 | (simp [-data_sl]; done) | simp)) rfl <| WO.Ug rfl (OP.cast (b := .v (.bool false)) (oNeB rfl rfl rfl) (by rw [law_c2 hF h133 h155 h158]; simp)) rfl <| WO.Ug rfl (oPkT rfl rfl) rfl <| WO.U (oPkF rfl rfl) rfl <| Nw [(0, _), (1, _), (2, _), (167, _)] ⟨rfl, rfl, rfl, rfl, trivial⟩ <| WC.cF rfl <| WC.skips <| WC.weak [(0, _), (1, _), (2, _)] ⟨rfl, rfl, rfl, trivial⟩ ?_
   exact J20 hF hFb hFc _
  refine WO.Ug rfl (oPkT rfl rfl) rfl <| WO.Ug rfl (oMv rfl) rfl <| WO.K rfl rfl <| WO.K rfl rfl <| WO.K rfl rfl <| WO.K rfl rfl <| WO.K rfl rfl <| WO.Ug rfl (oPkF rfl rfl) rfl <| WO.U (oPkF rfl rfl) rfl <| Nw [(0, _), (1, _), (2, _), (167, _)] ⟨rfl, rfl, rfl, rfl, trivial⟩ <| WC.cF rfl <| WC.skips <| WC.weak [(0, _), (1, _), (2, _)] ⟨rfl, rfl, rfl, trivial⟩ ?_
  exact J20 hF hFb hFc _
 have J9 : ∀ (hF : Few8 a) (hFb : Few8 b) (hFc : Few8 c) (lx : x.length ≤ 70) (hV : VM a = true) (hX : VV x = true) (n : Nat) , WC Tryz.prog T E0 Tryz.f8.ntmps (codeR (codeR (codeR (codeR (codeOf Tryz.f8))))) [(0, .sl k (a.map fM)), (1, .sl k2 (b.map fM)), (2, .sl k3 (c.map fM)), (3, .sl k4 (x.map mc)), (9, .sl (kd (app1 a x).length) ((app1 a x).map mc)), (10, .v (.int .i64 (appe a x)))] [] n (Post T Tryz.f8.results.toList (.v (.bool true))) := by
  intro hF hFb hFc lx hV hX n
  refine WC.assoc <| Rg 10 rfl ?_
  obtain ⟨ss1, ss2⟩ := sol_good a x hF
  refine Um rfl rfl <| Um rfl rfl <| WO.U (oCall rfl (msol_any k k4 a x hI hIx hF lx) (by first | exact dc | exact dc1 | (simp [-data_sl]; done) | simp)) rfl <| Um rfl rfl <| WO.U (oEx rfl rfl) rfl <| WO.U (oEx rfl rfl) rfl <| WO.U (oEx rfl rfl) rfl <| Ua rfl rfl <| Ua rfl rfl <| Ua rfl rfl <| Nw [(0, _), (1, _), (2, _), (3, _), (9, _), (10, _), (16, _), (18, _)] ⟨rfl, rfl, rfl, rfl, rfl, rfl, rfl, rfl, trivial⟩ <| WC.assoc <| Rg 6 rfl <| Um rfl rfl <| WO.U (oEql rfl rfl) rfl <| WO.D (fun h110 => ?_) (fun h110 => ?_)
  rotate_left
  ·refine Um rfl rfl <| WO.K rfl rfl <| WO.K rfl rfl <| WO.U (oPkF rfl rfl) rfl <| Nw [(0, _), (1, _), (2, _), (3, _), (9, _), (10, _), (114, _)] ⟨rfl, rfl, rfl, rfl, rfl, rfl, rfl, trivial⟩ <| WC.cF rfl <| WC.skips <| WC.weak [(0, _), (1, _), (2, _), (3, _), (9, _), (10, _)] ⟨rfl, rfl, rfl, rfl, rfl, rfl, trivial⟩ ?_
   exact J14 hF hFb hFc lx _
  refine Um rfl rfl <| WO.Ug rfl (oMv rfl) rfl <| WO.Ug rfl (oGtr rfl rfl) rfl <| WO.D (fun h113 => ?_) (fun h113 => ?_)
  rotate_left
  ·refine WO.U (oPkT rfl rfl) rfl <| Nw [(0, _), (1, _), (2, _), (3, _), (9, _), (10, _), (114, _)] ⟨rfl, rfl, rfl, rfl, rfl, rfl, rfl, trivial⟩ <| WC.cF rfl <| WC.skips <| WC.weak [(0, _), (1, _), (2, _), (3, _), (9, _), (10, _)] ⟨rfl, rfl, rfl, rfl, rfl, rfl, trivial⟩ ?_
   exact J14 hF hFb hFc lx _
  refine WO.U (oPkT rfl rfl) rfl <| Nw [(0, _), (1, _), (2, _), (3, _), (9, _), (10, _), (114, _)] ⟨rfl, rfl, rfl, rfl, rfl, rfl, rfl, trivial⟩ <| WC.cT rfl <| WC.assoc <| Rg 10 rfl <| Um rfl rfl <| Um rfl rfl <| WO.U (oCall rfl (msol_any k k4 a x hI hIx hF lx) (by first | exact dc | exact dc1 | (simp [-data_sl]; done) | simp)) rfl <| Um rfl rfl <| WO.U (oEx rfl rfl) rfl <| WO.U (oEx rfl rfl) rfl <| WO.U (oEx rfl rfl) rfl <| Ua rfl rfl <| Ua rfl rfl <| Ua rfl rfl <| Nw [(0, _), (1, _), (2, _), (3, _), (9, _), (10, _), (20, _)] ⟨rfl, rfl, rfl, rfl, rfl, rfl, rfl, trivial⟩ <| WC.assoc ?_
  obtain ⟨hb1, hb2, hb3, hb4⟩ := law_b hF h110 (by omega)
  refine Rg 5 rfl <| Um rfl rfl <| Um rfl rfl <| Um rfl rfl <| WO.U (oCall rfl (image_run k _ k4 a (sll a x) x hI ss2 hIx hF.ln hb1 hb2 hb3 (fun r hr => ((VM.facts hV).2 r hr).2.2) (VV.facts hX).2 hb4) (by first | exact dc | exact dc1 | (simp [-data_sl]; done) | simp)) rfl <| WO.U (oNot rfl) rfl <| Nw [(0, _), (1, _), (2, _), (3, _), (9, _), (10, _), (126, _)] ⟨rfl, rfl, rfl, rfl, rfl, rfl, rfl, trivial⟩ <| WC.cF rfl <| WC.skips <| WC.weak [(0, _), (1, _), (2, _), (3, _), (9, _), (10, _)] ⟨rfl, rfl, rfl, rfl, rfl, rfl, trivial⟩ ?_
  exact J14 hF hFb hFc lx _
 have J3 : ∀ (hF : Few8 a) (hFb : Few8 b) (hFc : Few8 c) (lx : x.length ≤ 70) (hV : VM a = true) (hX : VV x = true) (n : Nat) , WC Tryz.prog T E0 Tryz.f8.ntmps (codeR (codeR (codeOf Tryz.f8))) [(0, .sl k (a.map fM)), (1, .sl k2 (b.map fM)), (2, .sl k3 (c.map fM)), (3, .sl k4 (x.map mc))] [] n (Post T Tryz.f8.results.toList (.v (.bool true))) := by
  intro hF hFb hFc lx hV hX n
  refine Rg 8 rfl ?_
  obtain ⟨ax1, ax2⟩ := app_good a x hF
  obtain ⟨sx1, sx2⟩ := sol_good a (app1 a x) hF
  refine Um rfl rfl <| Um rfl rfl <| WO.U (oCall rfl (mApply_run k k4 a x hI hIx hF lx) (by first | exact dc | exact dc1 | (simp [-data_sl]; done) | simp)) rfl <| Um rfl rfl <| WO.U (oEx rfl rfl) rfl <| WO.U (oEx rfl rfl) rfl <| Ua rfl rfl <| Ua rfl rfl <| Nw [(0, _), (1, _), (2, _), (3, _), (9, _), (10, _)] ⟨rfl, rfl, rfl, rfl, rfl, rfl, trivial⟩ <| WC.assoc <| Rg 10 rfl <| Um rfl rfl <| Um rfl rfl <| WO.U (oCall rfl (msol_any k _ a (app1 a x) hI ax2 hF ax1) (by first | exact dc | exact dc1 | (simp [-data_sl]; done) | simp)) rfl <| Um rfl rfl <| WO.U (oEx rfl rfl) rfl <| WO.U (oEx rfl rfl) rfl <| WO.U (oEx rfl rfl) rfl <| Ua rfl rfl <| Ua rfl rfl <| Ua rfl rfl <| Nw [(0, _), (1, _), (2, _), (3, _), (9, _), (10, _), (11, _), (12, _), (13, _)] ⟨rfl, rfl, rfl, rfl, rfl, rfl, rfl, rfl, rfl, trivial⟩ ?_
  refine WC.assoc <| Rg 6 rfl <| Um rfl rfl <| WO.U (oEql rfl rfl) rfl <| WO.D (fun h64 => ?_) (fun h64 => ?_)
  rotate_left
  ·refine Um rfl rfl <| WO.K rfl rfl <| WO.K rfl rfl <| WO.U (oPkF rfl rfl) rfl <| Nw [(0, _), (1, _), (2, _), (3, _), (9, _), (10, _), (11, _), (12, _), (68, _)] ⟨rfl, rfl, rfl, rfl, rfl, rfl, rfl, rfl, rfl, trivial⟩ <| WC.cF rfl <| WC.skips <| WC.weak [(0, _), (1, _), (2, _), (3, _), (9, _), (10, _)] ⟨rfl, rfl, rfl, rfl, rfl, rfl, trivial⟩ ?_
   exact J9 hF hFb hFc lx hV hX _
  refine Um rfl rfl <| WO.Ug rfl (oMv rfl) rfl <| WO.Ug rfl (oEql rfl rfl) rfl <| WO.D (fun h67 => ?_) (fun h67 => ?_)
  rotate_left
  ·refine WO.U (oPkT rfl rfl) rfl <| Nw [(0, _), (1, _), (2, _), (3, _), (9, _), (10, _), (11, _), (12, _), (68, _)] ⟨rfl, rfl, rfl, rfl, rfl, rfl, rfl, rfl, rfl, trivial⟩ <| WC.cF rfl <| WC.skips <| WC.weak [(0, _), (1, _), (2, _), (3, _), (9, _), (10, _)] ⟨rfl, rfl, rfl, rfl, rfl, rfl, trivial⟩ ?_
   exact J9 hF hFb hFc lx hV hX _
  refine WO.U (oPkT rfl rfl) rfl <| Nw [(0, _), (1, _), (2, _), (3, _), (9, _), (10, _), (11, _), (12, _), (68, _)] ⟨rfl, rfl, rfl, rfl, rfl, rfl, rfl, rfl, rfl, trivial⟩ <| WC.cT rfl <| WC.assoc ?_
  obtain ⟨ha1, ha2, ha3⟩ := law_a h64 h67
  obtain ⟨ay1, ay2⟩ := app_good a (sll a (app1 a x)) hF
  refine Rg 8 rfl <| Um rfl rfl <| Um rfl rfl <| WO.U (oCall rfl (mApply_run k _ a (sll a (app1 a x)) hI sx2 hF sx1) (by first | exact dc | exact dc1 | (simp [-data_sl]; done) | simp)) rfl <| Um rfl rfl <| WO.U (oEx rfl rfl) rfl <| WO.U (oEx rfl rfl) rfl <| Ua rfl rfl <| Ua rfl rfl <| Nw [(0, _), (1, _), (2, _), (3, _), (9, _), (10, _), (11, _), (12, _), (14, _), (15, _)] ⟨rfl, rfl, rfl, rfl, rfl, rfl, rfl, rfl, rfl, rfl, trivial⟩ <| WC.assoc <| Rg 27 rfl <| Um rfl rfl <| WO.U (oEql rfl rfl) rfl <| WO.D (fun h76 => ?_) (fun h76 => ?_)
  ·exact absurd h76 ha1
  refine Um rfl rfl <| WO.Ug rfl (oMv rfl) rfl <| WO.Ug rfl (oEql rfl rfl) rfl <| WO.D (fun h79 => ?_) (fun h79 => ?_)
  ·refine WO.Ug rfl (oMv rfl) rfl <| WO.Ug rfl (oMv rfl) rfl <| WO.Ug rfl (oMv rfl) rfl <| WO.Ug rfl (OP.cast (b := .v (.bool true)) (oCall rfl (nsame2_run _ _ (app1 a (sll a (app1 a x))) (app1 a x) (by omega)) (by first | exact dc | exact dc1 | (simp [-data_sl]; done) | simp)) (by rw [ha2 h79]; simp)) rfl <| WO.Ug rfl (oNot rfl) rfl <| WO.Ug rfl (oPkT rfl rfl) rfl <| WO.U (oPkF rfl rfl) rfl <| Um rfl rfl <| WO.Ug rfl (oMv rfl) rfl <| WO.Ug rfl (oEql rfl rfl) rfl <| WO.D (fun h89 => ?_) (fun h89 => ?_)
   rotate_left
   ·refine WO.Ug rfl (oMv rfl) rfl <| WO.K rfl rfl <| WO.K rfl rfl <| WO.K rfl rfl <| WO.K rfl rfl <| WO.Ug rfl (oPkF rfl rfl) rfl <| WO.Ug rfl (oMv rfl) rfl <| WO.K rfl rfl <| WO.K rfl rfl <| WO.K rfl rfl <| WO.Ug rfl (oPkF rfl rfl) rfl <| WO.U (oPkF rfl rfl) rfl <| Nw [(0, _), (1, _), (2, _), (3, _), (9, _), (10, _), (101, _)] ⟨rfl, rfl, rfl, rfl, rfl, rfl, rfl, trivial⟩ <| WC.cF rfl <| WC.skips <| WC.weak [(0, _), (1, _), (2, _), (3, _), (9, _), (10, _)] ⟨rfl, rfl, rfl, rfl, rfl, rfl, trivial⟩ ?_
    exact J9 hF hFb hFc lx hV hX _
   refine WO.Ug rfl (oMv rfl) rfl <| WO.Ug rfl (oMv rfl) rfl <| WO.Ug rfl (oMv rfl) rfl <| WO.Ug rfl (oCall rfl (nsame2_run _ _ x (sll a (app1 a x)) (by omega)) (by first | exact dc | exact dc1 | (simp [-data_sl]; done) | simp)) rfl <| WO.B (fun h93 => ?_) (fun h93 => ?_)
   ·refine WO.Ug rfl (oNot rfl) rfl <| WO.Ug rfl (oPkT rfl rfl) rfl <| WO.Ug rfl (oMv rfl) rfl <| WO.K rfl rfl <| WO.K rfl rfl <| WO.K rfl rfl <| WO.Ug rfl (oPkF rfl rfl) rfl <| WO.U (oPkF rfl rfl) rfl <| Nw [(0, _), (1, _), (2, _), (3, _), (9, _), (10, _), (101, _)] ⟨rfl, rfl, rfl, rfl, rfl, rfl, rfl, trivial⟩ <| WC.cF rfl <| WC.skips <| WC.weak [(0, _), (1, _), (2, _), (3, _), (9, _), (10, _)] ⟨rfl, rfl, rfl, rfl, rfl, rfl, trivial⟩ ?_
    exact J9 hF hFb hFc lx hV hX _
   refine WO.Ug rfl (oNot rfl) rfl <| WO.Ug rfl (oPkT rfl rfl) rfl <| WO.Ug rfl (oMv rfl) rfl <| WO.Ug rfl (oMv rfl) rfl <| WO.Ug rfl (oLenM rfl rfl) rfl <| WO.Ug rfl (oGtr rfl rfl) rfl <| WO.D (fun h99 => ?_) (fun h99 => ?_)
   ·exact absurd (ha3 h89 (by omega)) (of_decide_eq_false h93)
   refine WO.Ug rfl (oPkT rfl rfl) rfl <| WO.U (oPkF rfl rfl) rfl <| Nw [(0, _), (1, _), (2, _), (3, _), (9, _), (10, _), (101, _)] ⟨rfl, rfl, rfl, rfl, rfl, rfl, rfl, trivial⟩ <| WC.cF rfl <| WC.skips <| WC.weak [(0, _), (1, _), (2, _), (3, _), (9, _), (10, _)] ⟨rfl, rfl, rfl, rfl, rfl, rfl, trivial⟩ ?_
   exact J9 hF hFb hFc lx hV hX _
  refine WO.Ug rfl (oMv rfl) rfl <| WO.K rfl rfl <| WO.K rfl rfl <| WO.K rfl rfl <| WO.K rfl rfl <| WO.Ug rfl (oPkF rfl rfl) rfl <| WO.U (oPkF rfl rfl) rfl <| Um rfl rfl <| WO.Ug rfl (oMv rfl) rfl <| WO.Ug rfl (oEql rfl rfl) rfl <| WO.D (fun h89 => ?_) (fun h89 => ?_)
  rotate_left
  ·refine WO.Ug rfl (oMv rfl) rfl <| WO.K rfl rfl <| WO.K rfl rfl <| WO.K rfl rfl <| WO.K rfl rfl <| WO.Ug rfl (oPkF rfl rfl) rfl <| WO.Ug rfl (oMv rfl) rfl <| WO.K rfl rfl <| WO.K rfl rfl <| WO.K rfl rfl <| WO.Ug rfl (oPkF rfl rfl) rfl <| WO.U (oPkF rfl rfl) rfl <| Nw [(0, _), (1, _), (2, _), (3, _), (9, _), (10, _), (101, _)] ⟨rfl, rfl, rfl, rfl, rfl, rfl, rfl, trivial⟩ <| WC.cF rfl <| WC.skips <| WC.weak [(0, _), (1, _), (2, _), (3, _), (9, _), (10, _)] ⟨rfl, rfl, rfl, rfl, rfl, rfl, trivial⟩ ?_
   exact J9 hF hFb hFc lx hV hX _
  refine WO.Ug rfl (oMv rfl) rfl <| WO.Ug rfl (oMv rfl) rfl <| WO.Ug rfl (oMv rfl) rfl <| WO.Ug rfl (oCall rfl (nsame2_run _ _ x (sll a (app1 a x)) (by omega)) (by first | exact dc | exact dc1 | (simp [-data_sl]; done) | simp)) rfl <| WO.B (fun h93 => ?_) (fun h93 => ?_)
  ·refine WO.Ug rfl (oNot rfl) rfl <| WO.Ug rfl (oPkT rfl rfl) rfl <| WO.Ug rfl (oMv rfl) rfl <| WO.K rfl rfl <| WO.K rfl rfl <| WO.K rfl rfl <| WO.Ug rfl (oPkF rfl rfl) rfl <| WO.U (oPkF rfl rfl) rfl <| Nw [(0, _), (1, _), (2, _), (3, _), (9, _), (10, _), (101, _)] ⟨rfl, rfl, rfl, rfl, rfl, rfl, rfl, trivial⟩ <| WC.cF rfl <| WC.skips <| WC.weak [(0, _), (1, _), (2, _), (3, _), (9, _), (10, _)] ⟨rfl, rfl, rfl, rfl, rfl, rfl, trivial⟩ ?_
   exact J9 hF hFb hFc lx hV hX _
  refine WO.Ug rfl (oNot rfl) rfl <| WO.Ug rfl (oPkT rfl rfl) rfl <| WO.Ug rfl (oMv rfl) rfl <| WO.Ug rfl (oMv rfl) rfl <| WO.Ug rfl (oLenM rfl rfl) rfl <| WO.Ug rfl (oGtr rfl rfl) rfl <| WO.D (fun h99 => ?_) (fun h99 => ?_)
  ·exact absurd (ha3 h89 (by omega)) (of_decide_eq_false h93)
  refine WO.Ug rfl (oPkT rfl rfl) rfl <| WO.U (oPkF rfl rfl) rfl <| Nw [(0, _), (1, _), (2, _), (3, _), (9, _), (10, _), (101, _)] ⟨rfl, rfl, rfl, rfl, rfl, rfl, rfl, trivial⟩ <| WC.cF rfl <| WC.skips <| WC.weak [(0, _), (1, _), (2, _), (3, _), (9, _), (10, _)] ⟨rfl, rfl, rfl, rfl, rfl, rfl, trivial⟩ ?_
  exact J9 hF hFb hFc lx hV hX _
 refine WC.weak [(0, _), (1, _), (2, _), (3, _)] ⟨rfl, rfl, rfl, rfl, trivial⟩ <| Rg 1 rfl <| Ua rfl rfl <| Nw [(0, _), (1, _), (2, _), (3, _)] ⟨rfl, rfl, rfl, rfl, trivial⟩ <| WC.assoc <| Rg 21 rfl <| Um rfl rfl <| Um rfl rfl <| Um rfl rfl <| WO.U (oBs' (cs := [_, _, _]) (rows := [[_], [_], [_]]) rfl rfl (by decide) rfl rfl rfl) rfl <| WO.U (oCall rfl (few3_run k k2 k3 a b c) (by first | exact dc | exact dc1 | (simp [-data_sl]; done) | simp)) rfl <| WO.B (fun h32 => ?_) (fun h32 => ?_)
 rotate_left
 ·refine WO.U (oNot rfl) rfl <| Um rfl rfl <| WO.K rfl rfl <| WO.K rfl rfl <| WO.K rfl rfl <| WO.U (oPkT rfl rfl) rfl <| Um rfl rfl <| WO.K rfl rfl <| WO.K rfl rfl <| WO.K rfl rfl <| WO.U (oPkT rfl rfl) rfl <| Um rfl rfl <| WO.K rfl rfl <| WO.K rfl rfl <| WO.K rfl rfl <| WO.U (oPkT rfl rfl) rfl <| Nw [(0, _), (1, _), (2, _), (3, _), (48, _)] ⟨rfl, rfl, rfl, rfl, rfl, trivial⟩ <| WC.cT rfl <| WC.assoc <| Rg 2 rfl <| WO.U (oCall rfl (awake_run) (by first | exact dc | exact dc1 | (simp [-data_sl]; done) | simp)) rfl <| Ua rfl rfl <| WO.nil ?_
  refine WC.weak [(8, _)] ⟨rfl, trivial⟩ <| WC.rets <| post (n := 0) (.inr rfl) rfl ?_ (by first | exact dc | exact dc1 | (simp [-data_sl]; done) | simp)
  rfl
 refine WO.U (oNot rfl) rfl <| Um rfl rfl ?_
 obtain ⟨hfa, hfbc⟩ := (Bool.and_eq_true _ _).mp h32
 obtain ⟨hfb, hfc⟩ := (Bool.and_eq_true _ _).mp hfbc
 have hF := few8 hfa
 have hFb := few8 hfb
 have hFc := few8 hfc
 refine WO.Ug rfl (oMv rfl) rfl <| WO.Ug rfl (oLenM rfl rfl) rfl <| WO.Ug rfl (oGtr rfl rfl) rfl <| WO.D (fun h37 => ?_) (fun h37 => ?_)
 ·refine WO.U (oPkF rfl rfl) rfl <| Um rfl rfl <| WO.K rfl rfl <| WO.K rfl rfl <| WO.K rfl rfl <| WO.U (oPkT rfl rfl) rfl <| Um rfl rfl <| WO.K rfl rfl <| WO.K rfl rfl <| WO.K rfl rfl <| WO.U (oPkT rfl rfl) rfl <| Nw [(0, _), (1, _), (2, _), (3, _), (48, _)] ⟨rfl, rfl, rfl, rfl, rfl, trivial⟩ <| WC.cT rfl <| WC.assoc <| Rg 2 rfl <| WO.U (oCall rfl (awake_run) (by first | exact dc | exact dc1 | (simp [-data_sl]; done) | simp)) rfl <| Ua rfl rfl <| Nw [(8, _)] ⟨rfl, trivial⟩ <| WC.rets <| post (n := 0) (.inr rfl) rfl ?_ (by first | exact dc | exact dc1 | (simp [-data_sl]; done) | simp)
  rfl
 refine WO.U (oPkF rfl rfl) rfl <| Um rfl rfl <| WO.Ug rfl (oMv rfl) rfl <| WO.Ug rfl (oCall rfl (qvalid_run k a hI (by have := hF.ln; omega) (fun r hr => by have := hF.lr r hr; omega)) (by first | exact dc | exact dc1 | (simp [-data_sl]; done) | simp)) rfl <| WO.B (fun h41 => ?_) (fun h41 => ?_)
 rotate_left
 ·refine WO.Ug rfl (oNot rfl) rfl <| WO.U (oPkF rfl rfl) rfl <| Um rfl rfl <| WO.K rfl rfl <| WO.K rfl rfl <| WO.K rfl rfl <| WO.U (oPkT rfl rfl) rfl <| Nw [(0, _), (1, _), (2, _), (3, _), (48, _)] ⟨rfl, rfl, rfl, rfl, rfl, trivial⟩ <| WC.cT rfl <| WC.assoc <| Rg 2 rfl <| WO.U (oCall rfl (awake_run) (by first | exact dc | exact dc1 | (simp [-data_sl]; done) | simp)) rfl <| Ua rfl rfl <| Nw [(8, _)] ⟨rfl, trivial⟩ <| WC.rets <| post (n := 0) (.inr rfl) rfl ?_ (by first | exact dc | exact dc1 | (simp [-data_sl]; done) | simp)
  rfl
 refine WO.Ug rfl (oNot rfl) rfl <| WO.U (oPkF rfl rfl) rfl <| Um rfl rfl <| WO.Ug rfl (oMv rfl) rfl <| WO.Ug rfl (oCall rfl (qvector_run k4 x hIx (by omega)) (by first | exact dc | exact dc1 | (simp [-data_sl]; done) | simp)) rfl <| WO.B (fun h46 => ?_) (fun h46 => ?_)
 ·refine WO.Ug rfl (oNot rfl) rfl <| WO.U (oPkF rfl rfl) rfl <| Nw [(0, _), (1, _), (2, _), (3, _), (48, _)] ⟨rfl, rfl, rfl, rfl, rfl, trivial⟩ <| WC.cF rfl <| WC.skips <| WC.weak [(0, _), (1, _), (2, _), (3, _)] ⟨rfl, rfl, rfl, rfl, trivial⟩ ?_
  exact J3 hF hFb hFc (by omega) h41 h46 _
 refine WO.Ug rfl (oNot rfl) rfl <| WO.U (oPkF rfl rfl) rfl <| Nw [(0, _), (1, _), (2, _), (3, _), (48, _)] ⟨rfl, rfl, rfl, rfl, rfl, trivial⟩ <| WC.cT rfl <| WC.assoc <| Rg 2 rfl <| WO.U (oCall rfl (awake_run) (by first | exact dc | exact dc1 | (simp [-data_sl]; done) | simp)) rfl <| Ua rfl rfl <| Nw [(8, _)] ⟨rfl, trivial⟩ <| WC.rets <| post (n := 0) (.inr rfl) rfl ?_ (by first | exact dc | exact dc1 | (simp [-data_sl]; done) | simp)
 rfl
end Go.Proofs.YtcmieifjephdcaaGreat
