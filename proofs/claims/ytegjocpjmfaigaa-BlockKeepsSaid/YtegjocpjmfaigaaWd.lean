/- Walks of the device: it crashes. -/
import Derived.Test.YtegjocpjmfaigaaWc
set_option linter.unusedSimpArgs false
set_option linter.unusedVariables false
namespace Go.Proofs.Ytegjocpjmfaigaa
open Go.En

section
variable {w w0 : World} {S0 : Nat → Prop} {K : Value → World → Prop} {b bc cap : Nat} {vw : Value} {D : Dev}
def falV (f : Fal) : Value := .agg ⟨[.int .i64 f.a, .int .i64 f.k, .int .i64 f.t]⟩
theorem spl_wv {x : Int × List UInt8} (h : x.2.length = 128) : spl (zx [(1, Value.int .i64 0), (128, Value.int .u8 0)]) 0 (wv x) = wv x := by
  have h1 := wv_len h
  simp [spl, h1, zx]
theorem take_wv {x : Int × List UInt8} (h : x.2.length = 128) : List.take 129 (List.drop 0 (wv x)) = wv x := by
  rw [List.drop_zero, List.take_of_length_le (by rw [wv_len h]; omega)]
theorem d84 {f : Fal} {cells : List (List UInt8)} {rest : List Value} (hc : ∀ c ∈ cells, c.length = 128) (hw : ∀ x ∈ D.waits, x.2.length = 128 ∧ 0 ≤ x.1 ∧ x.1 < cells.length) (hn : D.waits.length < 1152921504606846976)
    (hS : St w0 S0 w [cel b (DevC (.slice (some ⟨bc, 0, none⟩) cells.length cap) vw D) 65, cel bc (fc cells ++ rest) 122, row vw 124 129 D.waits.length (fw D.waits)])
    (h : ∀ w', St w0 S0 w' [cel b (DevC (.slice (some ⟨bc, 0, none⟩) cells.length cap) (.slice none 0 0) { D with waits := [], down := true, fall := ⟨0, 0, 0⟩ }) 65, cel bc (fc (crashC f 0 D.waits cells) ++ rest) 122, row (.slice none 0 0) 124 129 0 []] → K (.tuple ⟨[]⟩) w') :
    CK Try.prog 84 [dp b, falV f] w K := by
  refine call_k Try.func84 k84 Try.ntmps84 (Nat.le_of_ble_eq_true rfl) ?_
  (repeat (first | refine g_sq ?_ | refine g_rg ?_ | refine g_r0 ?_ | refine g_ok rfl rfl ?_ | refine g_no rfl ?_ | refine g_no0 rfl ?_ | refine g_bk ?_ | refine g_b ?_ | refine g_sk ?_ | refine g_cT rfl ?_ | refine g_cF rfl ?_ | refine g_x rfl ?_ | refine g_lb ?_))
  refine g_ef rfl (ef_bx hS rfl fun b2 w hS => ?_)
  (repeat (first | refine g_sq ?_ | refine g_rg ?_ | refine g_r0 ?_ | refine g_ok rfl rfl ?_ | refine g_no rfl ?_ | refine g_no0 rfl ?_ | refine g_bk ?_ | refine g_b ?_ | refine g_sk ?_ | refine g_cT rfl ?_ | refine g_cF rfl ?_ | refine g_x rfl ?_ | refine g_lb ?_))
  refine g_ef rfl (ef_bx hS rfl fun b3 w hS => ?_)
  (repeat (first | refine g_sq ?_ | refine g_rg ?_ | refine g_r0 ?_ | refine g_ok rfl rfl ?_ | refine g_no rfl ?_ | refine g_no0 rfl ?_ | refine g_bk ?_ | refine g_b ?_ | refine g_sk ?_ | refine g_cT rfl ?_ | refine g_cF rfl ?_ | refine g_x rfl ?_ | refine g_lb ?_))
  refine g_sc rfl ?_
  (repeat (first | refine g_sq ?_ | refine g_rg ?_ | refine g_r0 ?_ | refine g_ok rfl rfl ?_ | refine g_no rfl ?_ | refine g_no0 rfl ?_ | refine g_bk ?_ | refine g_b ?_ | refine g_sk ?_ | refine g_cT rfl ?_ | refine g_cF rfl ?_ | refine g_x rfl ?_ | refine g_lb ?_))
  refine g_l1 rfl rfl (hS.b  3 rfl) rfl ?_
  refine g_lm rfl rfl (hS.b 4 rfl) (Nat.le_of_ble_eq_true rfl) ?_
  (repeat (first | refine g_sq ?_ | refine g_rg ?_ | refine g_r0 ?_ | refine g_ok rfl rfl ?_ | refine g_no rfl ?_ | refine g_no0 rfl ?_ | refine g_bk ?_ | refine g_b ?_ | refine g_sk ?_ | refine g_cT rfl ?_ | refine g_cF rfl ?_ | refine g_x rfl ?_ | refine g_lb ?_))
  refine g_cl rfl rfl (d111 hS fun b4 b5 w hS => ?_)
  refine g_r0 ?_
  refine g_atd 1 [(2, dp b2), (0, dp b)] (fun D1 w => ∃ dB, D1 = [⟨.collected dB, #[]⟩] ∧ St w0 S0 w [cel b (DevC (.slice (some ⟨bc, 0, none⟩) cells.length cap) vw D) 65, cel bc (fc (crashC f 0 D.waits cells) ++ rest) 122, cel b2 [dp b] 24, obj dB (.deferred (some []))]) rfl ?_ ?_
  · (repeat (first | refine g_sq ?_ | refine g_rg ?_ | refine g_r0 ?_ | refine g_ok rfl rfl ?_ | refine g_no rfl ?_ | refine g_no0 rfl ?_ | refine g_bk ?_ | refine g_b ?_ | refine g_sk ?_ | refine g_cT rfl ?_ | refine g_cF rfl ?_ | refine g_x rfl ?_ | refine g_lb ?_))
    refine g_wkc (T' := [(8, .func (.func 126) ⟨[]⟩ ⟨[dp b4, dp b5]⟩), (2, dp b2), (0, dp b)]) ⟨rfl, rfl, rfl, trivial⟩ ?_
    refine g_rf (cap := [dp b4, dp b5]) (first := []) hS rfl (callFunc_of Try.func126 rfl rfl) fun l dB w hS => ?_
    have hS := (hS.sel [0, 5, 6, 2, 1, 3, 7, 8] rfl rfl).fact (p := ∀ j, j < 0 → mny f j ≠ 0) (fun j hj => absurd hj (Nat.not_lt_zero j))
    refine d126 (f := f) (b4 := b4) (b5 := b5) (X := fun k => [cel bc (fc (crashC f 0 (D.waits.take k) cells) ++ rest) 122, cel b2 [dp b] 24, obj dB (.deferred (some [])), lpR Try.prog l 27 [(8, .func (.func 126) ⟨[]⟩ ⟨[dp b4, dp b5]⟩), (2, dp b2), (0, dp b)] [9, 10] m84u0 m84v0 .ready none, emp.when (∀ j, j < k → mny f j ≠ 0)]) (fun x hx => (hw x hx).1) hn (by simp only [List.take_zero, crashC]; exact hS) ?_ ?_
    · clear hS
      intro k x w hx hS
      have hxw := hw x (List.mem_of_getElem? hx)
      have hlt := (List.getElem?_eq_some_iff.1 hx).1
      have hfact : ∀ j, j < k → mny f j ≠ 0 := (hS.ok 8 _ rfl).1
      have hm := mny_le f k
      refine yd_of hS 7 rfl rfl ?_
      (repeat (first | refine g_sq ?_ | refine g_rg ?_ | refine g_r0 ?_ | refine g_ok rfl rfl ?_ | refine g_no rfl ?_ | refine g_no0 rfl ?_ | refine g_bk ?_ | refine g_b ?_ | refine g_sk ?_ | refine g_cT rfl ?_ | refine g_cF rfl ?_ | refine g_x rfl ?_ | refine g_lb ?_))
      refine g_ef rfl (ef_al hS fun g w hS => ?_)
      refine g_ef0 rfl (ef_st hS 9 rfl rfl rfl (wv_len hxw.1) (by simp [zx]) (wv_one _) fun w hS => ?_)
      have hS := hS.ceq 9 rfl (spl_wv hxw.1)
      (repeat (first | refine g_sq ?_ | refine g_rg ?_ | refine g_r0 ?_ | refine g_ok rfl rfl ?_ | refine g_no rfl ?_ | refine g_no0 rfl ?_ | refine g_bk ?_ | refine g_b ?_ | refine g_sk ?_ | refine g_cT rfl ?_ | refine g_cF rfl ?_ | refine g_x rfl ?_ | refine g_lb ?_))
      refine ⟨rfl, _, _, hS, rfl, fun w hS => ?_⟩
      (repeat (first | refine g_sq ?_ | refine g_rg ?_ | refine g_r0 ?_ | refine g_ok rfl rfl ?_ | refine g_no rfl ?_ | refine g_no0 rfl ?_ | refine g_bk ?_ | refine g_b ?_ | refine g_sk ?_ | refine g_cT rfl ?_ | refine g_cF rfl ?_ | refine g_x rfl ?_ | refine g_lb ?_))
      refine g_cd rfl (fun h0 => ?_) (fun h0 => ?_)
      all_goals simp only [cmv, decide_eq_true_eq, decide_eq_false_iff_not] at h0
      · refine g_xt (k_xo rfl ?_)
        refine ⟨_, _, hS, rfl, fun w hS => .inr ⟨rfl, ?_⟩⟩
        have hS := hS.sel [0, 4, 5, 6, 7] rfl rfl
        refine ⟨_, 4, _, _, hS, rfl, (fun h => nomatch h), fun w hS => ?_⟩
        refine k_xt rfl (g_jd ⟨rfl, rfl, trivial⟩ ⟨dB, rfl, ?_⟩)
        rw [crash_stop hfact hx h0]
        exact hS.sel [0, 1, 2, 3] rfl rfl
      · (repeat (first | refine g_sq ?_ | refine g_rg ?_ | refine g_r0 ?_ | refine g_ok rfl rfl ?_ | refine g_no rfl ?_ | refine g_no0 rfl ?_ | refine g_bk ?_ | refine g_b ?_ | refine g_sk ?_ | refine g_cT rfl ?_ | refine g_cF rfl ?_ | refine g_x rfl ?_ | refine g_lb ?_))
        refine g_l1 rfl rfl (hS.b  5 rfl) rfl ?_
        refine g_lm rfl rfl (hS.b 9 rfl) (by rw [wv_len hxw.1]; decide) ?_
        rw [take_wv hxw.1]
        (repeat (first | refine g_sq ?_ | refine g_rg ?_ | refine g_r0 ?_ | refine g_ok rfl rfl ?_ | refine g_no rfl ?_ | refine g_no0 rfl ?_ | refine g_bk ?_ | refine g_b ?_ | refine g_sk ?_ | refine g_cT rfl ?_ | refine g_cF rfl ?_ | refine g_x rfl ?_ | refine g_lb ?_))
        have hS := hS.sel [0, 4, 1, 2, 3, 5, 6, 7] rfl rfl
        have hfm : ∀ c ∈ crashC f 0 (D.waits.take k) cells, c.length = 128 := crashC_mem f _ _ _ hc (fun y hy => hw y (List.mem_of_mem_take hy))
        have hcl : (crashC f 0 (D.waits.take k) cells).length = cells.length := crashC_len f _ _ _
        rw [← hcl] at hS
        refine g_cl rfl rfl (CK.fr (A := [_, _]) hS (fun hS h => d82 hS hfm hxw.1 (by rw [hcl]; exact hxw.2) hm h) fun w hS => ?_)
        (repeat (first | refine g_sq ?_ | refine g_rg ?_ | refine g_r0 ?_ | refine g_ok rfl rfl ?_ | refine g_no rfl ?_ | refine g_no0 rfl ?_ | refine g_bk ?_ | refine g_b ?_ | refine g_sk ?_ | refine g_cT rfl ?_ | refine g_cF rfl ?_ | refine g_x rfl ?_ | refine g_lb ?_))
        rw [← crash_step hfact hx h0, hcl] at hS
        refine ⟨_, _, hS.sel [0, 2, 3, 4, 1, 5, 6, 7] rfl rfl, rfl, fun w hS => .inl ⟨rfl, ?_⟩⟩
        refine hS.fact (p := ∀ j, j < k + 1 → mny f j ≠ 0) (fun j hj => ?_)
        by_cases e : j = k
        · subst e; exact h0
        · exact hfact j (by omega)
    · clear hS
      intro w hS
      refine ⟨_, 7, _, _, hS, rfl, (fun h => nomatch h), fun w hS => ?_⟩
      refine g_b (g_jd ⟨rfl, rfl, trivial⟩ ⟨dB, rfl, ?_⟩)
      have hS := hS.sel [0, 4, 5, 6] rfl rfl
      rw [List.take_length] at hS
      exact hS
  · clear hS
    rintro T D1 w hT ⟨dB, rfl, hS⟩
    refine g_wkc hT ?_
    refine g_dr mixed ?_
    have hS := hS.drew
    refine d_l1 rfl rfl rfl (hS.b 2 rfl) rfl ?_
    refine d_l1 rfl rfl rfl (hS.b 2 rfl) rfl ?_
    refine d_l1 rfl rfl rfl (hS.b 2 rfl) rfl ?_
    (repeat (first | refine d_ok rfl rfl rfl ?_ | refine d_no rfl rfl ?_))
    refine d_e0 rfl rfl ?_
    refine ef_st hS 0 rfl rfl rfl rfl (Nat.le_of_ble_eq_true rfl) rfl fun w hS => ⟨rc_1 rfl rfl rfl rfl (hS.b 2 rfl) rfl (rc_1 rfl rfl rfl rfl (hS.b 2 rfl) rfl rc_0), ?_⟩
    (repeat (first | refine d_ok rfl rfl rfl ?_ | refine d_no rfl rfl ?_))
    refine d_e0 rfl rfl ?_
    refine ef_st hS 0 rfl rfl rfl rfl (Nat.le_of_ble_eq_true rfl) rfl fun w hS => ⟨rc_1 rfl rfl rfl rfl (hS.b 2 rfl) rfl rc_0, ?_⟩
    (repeat (first | refine d_ok rfl rfl rfl ?_ | refine d_no rfl rfl ?_))
    refine d_e0 rfl rfl ?_
    refine ef_st hS 0 rfl rfl rfl rfl (Nat.le_of_ble_eq_true rfl) rfl fun w hS => ⟨rc_0, ?_⟩
    refine d_fin (g_s ?_)
    refine q_dn hS 3 rfl fun w hS => q_n (h _ ?_)
    have hS := hS.nilrow 124 129
    exact hS.sel [0, 1, 4] rfl rfl
end
end Go.Proofs.Ytegjocpjmfaigaa
