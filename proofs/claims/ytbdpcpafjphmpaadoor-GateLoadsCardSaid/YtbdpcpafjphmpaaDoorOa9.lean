/- A record put into a gate without a map. -/
import Derived.Test.YtbdpcpafjphmpaaDoorOa8
set_option linter.unusedSimpArgs false
set_option linter.unusedVariables false
namespace Go.Proofs.YtbdpcpafjphmpaaDoor
open Go.En
section
variable {w w0 : World} {S0 : Nat → Prop} {L B : List Res} {K : Value → World → Prop} {s : Bs} {E0 E1 : Nat}
set_option maxHeartbeats 2000000 in
theorem b_Put0 {r : Rec} {bG : Nat} (hgl : ∀ {L : List Res} {w' : World}, St w0 S0 w' L → Gl w') (hS : St w0 S0 w [cel bG [.map none] 47])
    (h1 : recB r = false → ∀ w', St w0 S0 w' [cel bG [.map none] 47] → K (.int .i64 220) w')
    (h2 : recB r = true → ∀ bm w', St w0 S0 w' [cel bG [.map (some bm)] 47, obj bm (.map ⟨ents [r]⟩ 1)] → K (.int .i64 0) w') : CK Tryd.prog 10 [dp bG, .agg ⟨rc r⟩] w K := by
  refine call_k Tryd.func10 k10 Tryd.ntmps10 (Nat.le_of_ble_eq_true rfl) ?_
  (repeat (first | refine g_sq ?_ | refine g_rg ?_ | refine g_r0 ?_ | refine g_ok rfl rfl ?_ | refine g_no rfl ?_ | refine g_no0 rfl ?_ | refine g_bk ?_ | refine g_b ?_ | refine g_sk ?_ | refine g_cT rfl ?_ | refine g_cF rfl ?_ | refine g_x rfl ?_ | refine g_lb ?_))
  refine g_ef rfl (ef_bx hS rfl fun b3 w1 hS => ?_)
  replace hS : St w0 S0 w1 [cel bG [.map none] 47, cel b3 (rc r) 31] := hS
  (repeat (first | refine g_sq ?_ | refine g_rg ?_ | refine g_r0 ?_ | refine g_ok rfl rfl ?_ | refine g_no rfl ?_ | refine g_no0 rfl ?_ | refine g_bk ?_ | refine g_b ?_ | refine g_sk ?_ | refine g_cT rfl ?_ | refine g_cF rfl ?_ | refine g_x rfl ?_ | refine g_lb ?_))
  refine g_atx (ι := Unit) 1 (fun _ => [(0, dp bG), (3, dp b3), (6, .bool false)]) (fun _ w' => St w0 S0 w' [cel bG [.map none] 47, cel b3 (rc r) 31]) rfl ?_ ?_
  · refine g_dr mixed ?_
    replace hS := hS.drew
    (repeat (first | refine d_ok rfl rfl rfl ?_ | refine d_no rfl rfl ?_))
    refine d_l1 rfl rfl rfl (hS.b 0 rfl) (v := .map none) rfl ?_
    (repeat (first | refine d_ok rfl rfl rfl ?_ | refine d_no rfl rfl ?_))
    refine d_lm rfl rfl rfl (hS.b 1 rfl) (by rw [rc_len]; decide) ?_
    rw [rc_dot]
    refine d_a2 ?_ (d_a1 ?_)
    · refine d_e rfl rfl ?_
      refine ef_mlk0 kl_dot rfl rfl (rec_key r) ⟨rc_0, ?_⟩
      (repeat (first | refine d_ok rfl rfl rfl ?_ | refine d_no rfl rfl ?_))
      refine d_e rfl rfl ?_
      refine ef_al hS fun b5 w2 hS => ⟨rc_0, ?_⟩
      refine d_e0 rfl rfl ?_
      refine ef_st hS 2 rfl rfl rfl rfl (Nat.le_of_ble_eq_true rfl) rfl fun w2 hS => ⟨rc_0, ?_⟩
      (repeat (first | refine d_ok rfl rfl rfl ?_ | refine d_no rfl rfl ?_))
      refine d_fin ?_
      exact g_jx () ⟨rfl, rfl, rfl, trivial⟩ (hS.sel [0, 1] rfl rfl)
    · refine d_e rfl rfl ?_
      refine ef_al hS fun b5 w2 hS => ⟨rc_1 rfl rfl rfl rfl (hS.b 0 rfl) rfl (rc_m rfl rfl rfl rfl (hS.b 1 rfl) (by rw [rc_len]; decide) (rc_dot r) rc_0), ?_⟩
      refine d_e rfl rfl ?_
      refine ef_mlk0 kl_dot rfl rfl (rec_key r) ⟨rc_0, ?_⟩
      (repeat (first | refine d_ok rfl rfl rfl ?_ | refine d_no rfl rfl ?_))
      refine d_e0 rfl rfl ?_
      refine ef_st hS 2 rfl rfl rfl rfl (Nat.le_of_ble_eq_true rfl) rfl fun w2 hS => ⟨rc_0, ?_⟩
      (repeat (first | refine d_ok rfl rfl rfl ?_ | refine d_no rfl rfl ?_))
      refine d_fin ?_
      exact g_jx () ⟨rfl, rfl, rfl, trivial⟩ (hS.sel [0, 1] rfl rfl)
  · clear hS
    rintro _ T w1 hT hS
    refine g_wkc hT ?_
    (repeat (first | refine g_sq ?_ | refine g_rg ?_ | refine g_r0 ?_ | refine g_ok rfl rfl ?_ | refine g_no rfl ?_ | refine g_no0 rfl ?_ | refine g_bk ?_ | refine g_b ?_ | refine g_sk ?_ | refine g_cT rfl ?_ | refine g_cF rfl ?_ | refine g_x rfl ?_ | refine g_lb ?_))
    refine g_lm rfl rfl (hS.b 1 rfl) (by rw [rc_len]; decide) ?_
    rw [List.drop_zero, List.take_of_length_le (Nat.le_of_eq (rc_len r))]
    refine g_cl rfl rfl (b_recCheck (hgl hS) fun w1 h' => ?_)
    replace hS := hS.call0.2 _ _ h'
    rw [List.append_nil] at hS
    clear h'
    cases hB : recB r
    · rw [recE_no hB]
      (repeat (first | refine g_sq ?_ | refine g_rg ?_ | refine g_r0 ?_ | refine g_ok rfl rfl ?_ | refine g_no rfl ?_ | refine g_no0 rfl ?_ | refine g_bk ?_ | refine g_b ?_ | refine g_sk ?_ | refine g_cT rfl ?_ | refine g_cF rfl ?_ | refine g_x rfl ?_ | refine g_lb ?_))
      exact g_ret (q_1 rfl (h1 hB _ (hS.sel [0] rfl rfl)))
    · rw [recE_ok hB]
      (repeat (first | refine g_sq ?_ | refine g_rg ?_ | refine g_r0 ?_ | refine g_ok rfl rfl ?_ | refine g_no rfl ?_ | refine g_no0 rfl ?_ | refine g_bk ?_ | refine g_b ?_ | refine g_sk ?_ | refine g_cT rfl ?_ | refine g_cF rfl ?_ | refine g_x rfl ?_ | refine g_lb ?_))
      refine g_l1 rfl rfl (hS.b 0 rfl) (v := .map none) rfl ?_
      refine g_qt rfl (qt_mpn rfl) ?_
      (repeat (first | refine g_sq ?_ | refine g_rg ?_ | refine g_r0 ?_ | refine g_ok rfl rfl ?_ | refine g_no rfl ?_ | refine g_no0 rfl ?_ | refine g_bk ?_ | refine g_b ?_ | refine g_sk ?_ | refine g_cT rfl ?_ | refine g_cF rfl ?_ | refine g_x rfl ?_ | refine g_lb ?_))
      refine g_ef rfl (ef_mkm hS fun bm w2 hS => ?_)
      replace hS : St w0 S0 w2 [cel bG [.map none] 47, cel b3 (rc r) 31, obj bm (.map ⟨ents []⟩ 0)] := hS
      (repeat (first | refine g_sq ?_ | refine g_rg ?_ | refine g_r0 ?_ | refine g_ok rfl rfl ?_ | refine g_no rfl ?_ | refine g_no0 rfl ?_ | refine g_bk ?_ | refine g_b ?_ | refine g_sk ?_ | refine g_cT rfl ?_ | refine g_cF rfl ?_ | refine g_x rfl ?_ | refine g_lb ?_))
      refine g_ef0 rfl (ef_st hS 0 rfl rfl rfl rfl (Nat.le_of_ble_eq_true rfl) rfl fun w2 hS => ?_)
      replace hS : St w0 S0 w2 [cel bG [.map (some bm)] 47, cel b3 (rc r) 31, obj bm (.map ⟨ents []⟩ 0)] := hS
      (repeat (first | refine g_sq ?_ | refine g_rg ?_ | refine g_r0 ?_ | refine g_ok rfl rfl ?_ | refine g_no rfl ?_ | refine g_no0 rfl ?_ | refine g_bk ?_ | refine g_b ?_ | refine g_sk ?_ | refine g_cT rfl ?_ | refine g_cF rfl ?_ | refine g_x rfl ?_ | refine g_lb ?_))
      refine g_dr mixed ?_
      replace hS := hS.drew
      (repeat (first | refine d_ok rfl rfl rfl ?_ | refine d_no rfl rfl ?_))
      refine d_l1 rfl rfl rfl (hS.b 0 rfl) (v := .map (some bm)) rfl ?_
      (repeat (first | refine d_ok rfl rfl rfl ?_ | refine d_no rfl rfl ?_))
      refine d_lm rfl rfl rfl (hS.b 1 rfl) (by rw [rc_len]; decide) ?_
      rw [rc_dot]
      refine d_lm rfl rfl rfl (hS.b 1 rfl) (by rw [rc_len]; decide) ?_
      rw [List.drop_zero, List.take_of_length_le (Nat.le_of_eq (rc_len r))]
      refine d_e0 rfl rfl ?_
      refine ef_mup kl_dot hS 2 rfl rfl rfl rfl (rec_key r) ents_key (fun _ w2 hS => ⟨rc_0, ?_⟩) (fun j e hj he => by simp [ents] at hj)
      refine d_fin ?_
      replace hS : St w0 S0 w2 [cel bG [.map (some bm)] 47, cel b3 (rc r) 31, obj bm (.map ⟨ents [r]⟩ 1)] := hS
      (repeat (first | refine g_sq ?_ | refine g_rg ?_ | refine g_r0 ?_ | refine g_ok rfl rfl ?_ | refine g_no rfl ?_ | refine g_no0 rfl ?_ | refine g_bk ?_ | refine g_b ?_ | refine g_sk ?_ | refine g_cT rfl ?_ | refine g_cF rfl ?_ | refine g_x rfl ?_ | refine g_lb ?_))
      exact g_ret (q_1 rfl (h2 hB _ _ (hS.sel [0, 2] rfl rfl)))
end
end Go.Proofs.YtbdpcpafjphmpaaDoor
