/- Walks of the device: writes. -/
import Derived.Test.YtegjocpjmfaigaaWg
set_option linter.unusedSimpArgs false
set_option linter.unusedVariables false
namespace Go.Proofs.Ytegjocpjmfaigaa
open Go.En

/-- bytes, and noughts up to a block's end -/
def pad (bs : List UInt8) : List UInt8 := bs ++ List.replicate (128 - bs.length) 0
theorem pad_len {bs : List UInt8} (h : bs.length ≤ 128) : (pad bs).length = 128 := by simp [pad]; omega
def Dev.wr1 (D : Dev) (i : Int) (bs : List UInt8) : Dev := { D with waits := D.waits ++ [(i, pad bs)] }
def Dev.write (D : Dev) (i : Int) (bs : List UInt8) : Dev × Int := if D.down then (D, 141) else if (0 ≤ i ∧ i < D.cells.length) ∧ bs.length ≤ 128 then (D.wr1 i bs).oper else (D, 140)

section
variable {w w0 : World} {S0 S : Nat → Prop} {K : Value → World → Prop} {b : Nat} {D : Dev} {B L : List Res}
theorem d80 {a : Option Addr} {n c : Nat} (hc : n ≤ c) (hav : ∀ {x o v}, a = some ⟨x, o, some v⟩ → False) (h : K (.slice a n n) w) : CK Try.prog 80 [.slice a n c] w K := by
  refine call_k Try.func80 k80 Try.ntmps80 (Nat.le_of_ble_eq_true rfl) ?_
  cases a with
  | none =>
    (repeat (first | refine g_sq ?_ | refine g_rg ?_ | refine g_r0 ?_ | refine g_ok rfl rfl ?_ | refine g_no rfl ?_ | refine g_no0 rfl ?_ | refine g_bk ?_ | refine g_b ?_ | refine g_sk ?_ | refine g_cT rfl ?_ | refine g_cF rfl ?_ | refine g_x rfl ?_ | refine g_lb ?_))
    refine g_rq rfl rfl ⟨Int.le_refl _, by omega, by omega, by omega⟩ ?_
    (repeat (first | refine g_sq ?_ | refine g_rg ?_ | refine g_r0 ?_ | refine g_ok rfl rfl ?_ | refine g_no rfl ?_ | refine g_no0 rfl ?_ | refine g_bk ?_ | refine g_b ?_ | refine g_sk ?_ | refine g_cT rfl ?_ | refine g_cF rfl ?_ | refine g_x rfl ?_ | refine g_lb ?_))
    exact g_ret (q_1 rfl h)
  | some a =>
    obtain ⟨ab, ao, av⟩ := a
    cases av with
    | some _ => exact (hav rfl).elim
    | none =>
      (repeat (first | refine g_sq ?_ | refine g_rg ?_ | refine g_r0 ?_ | refine g_ok rfl rfl ?_ | refine g_no rfl ?_ | refine g_no0 rfl ?_ | refine g_bk ?_ | refine g_b ?_ | refine g_sk ?_ | refine g_cT rfl ?_ | refine g_cF rfl ?_ | refine g_x rfl ?_ | refine g_lb ?_))
      refine g_rq rfl rfl ⟨Int.le_refl _, by omega, by omega, by omega⟩ ?_
      (repeat (first | refine g_sq ?_ | refine g_rg ?_ | refine g_r0 ?_ | refine g_ok rfl rfl ?_ | refine g_no rfl ?_ | refine g_no0 rfl ?_ | refine g_bk ?_ | refine g_b ?_ | refine g_sk ?_ | refine g_cT rfl ?_ | refine g_cF rfl ?_ | refine g_x rfl ?_ | refine g_lb ?_))
      exact g_ret (q_1 rfl h)
theorem spl_at (i : Int) : spl (zx [(1, Value.int .i64 0), (128, Value.int .u8 0)]) 0 [.int .i64 i] = wv (i, List.replicate 128 0) := by
  simp [spl, zx, wv, bys]
theorem spl_pad (i : Int) {bs : List UInt8} {n : Nat} (h : bs.length ≤ 128) (hn : bs.length = n) : spl (wv (i, List.replicate 128 0)) (0 + 1) (List.take (min n 128 * 1) (bys bs)) = wv (i, pad bs) := by
  have h1 : min n 128 = bs.length := by omega
  rw [h1, Nat.mul_one, List.take_of_length_le (by simp)]
  show ([Value.int .i64 i] ++ bys bs) ++ (List.drop (1 + (bys bs).length) (Value.int .i64 i :: bys (List.replicate 128 0))) = Value.int .i64 i :: bys (pad bs)
  rw [bys_length, Nat.add_comm 1, List.drop_succ_cons, bys_drop, List.drop_replicate, pad, bys_append]
  rfl
theorem rep_len : (List.replicate 128 (0 : UInt8)).length = 128 := List.length_replicate
theorem Dev.wf.wr1 {D : Dev} (h : D.wf) {i : Int} {bs : List UInt8} (hi : 0 ≤ i ∧ i < D.cells.length) (hb : bs.length ≤ 128) (hn : D.waits.length + 1 < 1152921504) : (D.wr1 i bs).wf := by
  refine ⟨h.1, h.2.1, fun x hx => ?_, by simpa [Dev.wr1] using hn⟩
  rcases List.mem_append.1 hx with hx | hx
  · exact h.2.2.1 x hx
  · simp at hx; subst hx; exact ⟨pad_len hb, hi⟩
set_option maxRecDepth 100000 in
theorem b23 {i : Int} {v : Value} {E n : Nat} {bs : List UInt8} (hS : St w S0 w [DevR S b D]) (hb : Rd v E 1 n (bys bs) w) (hd : ∀ x, vb v x → ¬ S0 x) (hn : D.waits.length + 1 < 1152921504)
    (h : ∀ w' S', St w S0 w' [DevR S' b (D.write i bs).1] → K (.int .i64 (D.write i bs).2) w') : CK Try.prog 23 [dp b, .int .i64 i, v] w K := by
  have hlen : bs.length = n := by have := hb.len; simpa using this
  have hv : ∃ a c, v = .slice a n c := by
    rcases hb with ⟨⟨a, rfl⟩, rfl, _⟩ | ⟨bb, off, cap, l, rfl, _⟩
    · exact ⟨_, _, rfl⟩
    · exact ⟨_, _, rfl⟩
  obtain ⟨av, cv, rfl⟩ := hv
  refine call_k Try.func23 k23 Try.ntmps23 (Nat.le_of_ble_eq_true rfl) ?_
  (repeat (first | refine g_sq ?_ | refine g_rg ?_ | refine g_r0 ?_ | refine g_ok rfl rfl ?_ | refine g_no rfl ?_ | refine g_no0 rfl ?_ | refine g_bk ?_ | refine g_b ?_ | refine g_sk ?_ | refine g_cT rfl ?_ | refine g_cF rfl ?_ | refine g_x rfl ?_ | refine g_lb ?_))
  refine g_cl rfl rfl (d78' hS ?_)
  generalize hdn : D.down = dn
  cases dn
  · simp only [Bool.false_eq_true, if_false]
    (repeat (first | refine g_sq ?_ | refine g_rg ?_ | refine g_r0 ?_ | refine g_ok rfl rfl ?_ | refine g_no rfl ?_ | refine g_no0 rfl ?_ | refine g_bk ?_ | refine g_b ?_ | refine g_sk ?_ | refine g_cT rfl ?_ | refine g_cF rfl ?_ | refine g_x rfl ?_ | refine g_lb ?_))
    obtain ⟨hw, bc, nc, cap, a, c, en, hB⟩ := DevR.blk hS
    refine g_cl rfl rfl (d79 hB ?_)
    rw [← en]
    (repeat (first | refine g_sq ?_ | refine g_rg ?_ | refine g_r0 ?_ | refine g_ok rfl rfl ?_ | refine g_no rfl ?_ | refine g_no0 rfl ?_ | refine g_bk ?_ | refine g_b ?_ | refine g_sk ?_ | refine g_cT rfl ?_ | refine g_cF rfl ?_ | refine g_x rfl ?_ | refine g_lb ?_))
    generalize hin : decide (0 ≤ i ∧ i < (D.cells.length : Int)) = iin
    cases iin
    · (repeat (first | refine g_sq ?_ | refine g_rg ?_ | refine g_r0 ?_ | refine g_ok rfl rfl ?_ | refine g_no rfl ?_ | refine g_no0 rfl ?_ | refine g_bk ?_ | refine g_b ?_ | refine g_sk ?_ | refine g_cT rfl ?_ | refine g_cF rfl ?_ | refine g_x rfl ?_ | refine g_lb ?_))
      have e : D.write i bs = (D, 140) := by
        simp only [decide_eq_false_iff_not] at hin
        simp [Dev.write, hdn, hin]
      rw [e] at h
      exact g_ret (q_1 rfl (h _ _ hS))
    · (repeat (first | refine g_sq ?_ | refine g_rg ?_ | refine g_r0 ?_ | refine g_ok rfl rfl ?_ | refine g_no rfl ?_ | refine g_no0 rfl ?_ | refine g_bk ?_ | refine g_b ?_ | refine g_sk ?_ | refine g_cT rfl ?_ | refine g_cF rfl ?_ | refine g_x rfl ?_ | refine g_lb ?_))
      refine g_cd rfl (fun hc => ?_) (fun hc => ?_)
      all_goals simp only [cmv, decide_eq_true_eq, decide_eq_false_iff_not] at hc hin
      · have e : D.write i bs = (D, 140) := by
          have : ¬ bs.length ≤ 128 := by omega
          simp [Dev.write, hdn, this]
        rw [e] at h
        (repeat (first | refine g_sq ?_ | refine g_rg ?_ | refine g_r0 ?_ | refine g_ok rfl rfl ?_ | refine g_no rfl ?_ | refine g_no0 rfl ?_ | refine g_bk ?_ | refine g_b ?_ | refine g_sk ?_ | refine g_cT rfl ?_ | refine g_cF rfl ?_ | refine g_x rfl ?_ | refine g_lb ?_))
        exact g_ret (q_1 rfl (h _ _ hS))
      · have hb128 : bs.length ≤ 128 := by omega
        have e : D.write i bs = (D.wr1 i bs).oper := by simp [Dev.write, hdn, hin, hb128]
        rw [e] at h
        (repeat (first | refine g_sq ?_ | refine g_rg ?_ | refine g_r0 ?_ | refine g_ok rfl rfl ?_ | refine g_no rfl ?_ | refine g_no0 rfl ?_ | refine g_bk ?_ | refine g_b ?_ | refine g_sk ?_ | refine g_cT rfl ?_ | refine g_cF rfl ?_ | refine g_x rfl ?_ | refine g_lb ?_))
        refine g_ef rfl (ef_al hS fun g w1 hS => ?_)
        refine g_ef0 rfl ?_
        have e1 := spl_at i
        refine ef_st (u := .agg ⟨wv (i, List.replicate 128 0)⟩) hS 1 rfl rfl (congrArg (fun l => some (Value.agg ⟨l⟩)) e1) (wv_len rep_len) (by simp [zx]) (wv_one _) fun w1 hS => ?_
        have hS := hS.ceq 1 rfl (spl_wv (x := (i, List.replicate 128 0)) rep_len)
        (repeat (first | refine g_sq ?_ | refine g_rg ?_ | refine g_r0 ?_ | refine g_ok rfl rfl ?_ | refine g_no rfl ?_ | refine g_no0 rfl ?_ | refine g_bk ?_ | refine g_b ?_ | refine g_sk ?_ | refine g_cT rfl ?_ | refine g_cF rfl ?_ | refine g_x rfl ?_ | refine g_lb ?_))
        refine g_rq rfl rfl ⟨Int.le_refl _, by decide, by decide⟩ ?_
        (repeat (first | refine g_sq ?_ | refine g_rg ?_ | refine g_r0 ?_ | refine g_ok rfl rfl ?_ | refine g_no rfl ?_ | refine g_no0 rfl ?_ | refine g_bk ?_ | refine g_b ?_ | refine g_sk ?_ | refine g_cT rfl ?_ | refine g_cF rfl ?_ | refine g_x rfl ?_ | refine g_lb ?_))
        refine g_ef rfl (ef_cp hS 1 rfl rfl rfl (.inl ⟨E, hS.ro (r := rdR (.slice av n cv) E 1 n (bys bs)) hb fun x hx => ⟨hb.lt x hx, hd x hx⟩⟩) (by rw [wv_len rep_len]; decide) (bys_one _) fun w1 hS => ?_)
        have hS := hS.ceq 1 rfl (spl_pad i hb128 hlen)
        have hpl := pad_len hb128
        obtain ⟨hw, bc, cap, rest, a, c, h1, h2, hS⟩ := DevR.opn (B := [_]) hS
        have hle := Ow.le (hS.ok 2 _ rfl)
        have hwl := hw.2.2.2
        have fin : ∀ {w' a' m' c' B'}, St w S0 w' (cel b (DevC (.slice (some ⟨bc, 0, none⟩) D.cells.length cap) (.slice a' m' c') D) 65 :: cel bc (fc D.cells ++ rest) 122 :: row (.slice a' m' c') 124 129 (D.waits.length + 1) (fw D.waits ++ wv (i, pad bs)) :: B') → CK Try.prog 81 [dp b] w' fun v w1 => ∃ S', St w S0 w1 [DevR S' b (D.wr1 i bs).oper.1] ∧ v = .int .i64 (D.wr1 i bs).oper.2 := by
          intro w' a' m' c' B' hS
          have ef : fw (D.wr1 i bs).waits = fw D.waits ++ wv (i, pad bs) := by simp [Dev.wr1, fw]
          have el : (D.wr1 i bs).waits.length = D.waits.length + 1 := by simp [Dev.wr1]
          rw [← ef, ← el] at hS
          obtain ⟨S', hS⟩ := DevR.cls' (D := D.wr1 i bs) (cap := cap) (rest := rest) (bc := bc) (b := b) (hw.wr1 hin hb128 hn) h1 h2 hS
          exact c81 hS fun w1 S1 hS => ⟨S1, hS.sel [0] rfl rfl, rfl⟩
        (repeat (first | refine g_sq ?_ | refine g_rg ?_ | refine g_r0 ?_ | refine g_ok rfl rfl ?_ | refine g_no rfl ?_ | refine g_no0 rfl ?_ | refine g_bk ?_ | refine g_b ?_ | refine g_sk ?_ | refine g_cT rfl ?_ | refine g_cF rfl ?_ | refine g_x rfl ?_ | refine g_lb ?_))
        refine g_dr mixed ?_
        have hS := hS.drew
        (repeat (first | refine d_ok rfl rfl rfl ?_ | refine d_no rfl rfl ?_))
        refine d_l1 rfl rfl rfl (hS.b 0 rfl) rfl ?_
        refine d_lm rfl rfl rfl (hS.b 3 rfl) (by rw [wv_len hpl]; decide) ?_
        rw [take_wv hpl]
        refine d_a2 ?_ (d_a1 ?_)
        · refine d_cl rfl rfl rfl (d80 hle.1 hle.2 ⟨rc_m rfl rfl rfl rfl (hS.b 3 rfl) (by rw [wv_len hpl]; decide) (take_wv hpl) rc_0, ?_⟩)
          refine d_e rfl rfl ?_
          refine ef_bl (rs := wv (i, pad bs)) hS (evcs_one (v := .agg ⟨wv (i, pad bs)⟩) rfl (wv_len (x := (i, pad bs)) hpl)) fun g2 w1 hS => ⟨rc_0, ?_⟩
          refine d_e rfl rfl ?_
          refine ef_apf (n := D.waits.length) (m := 1) (ys := wv (i, pad bs)) hS rfl (Ow.rd (hS.ok 2 _ rfl)).clip rfl (.inl ⟨124, .inr ⟨g2, 0, 1, _, rfl, Nat.le_refl _, ?_, ?_, (hS.b 4 rfl).r⟩⟩) (by decide) (by omega) (by omega) fun v' w1 hS => ⟨rc_0, ?_⟩
          · rw [wv_len (x := (i, pad bs)) hpl]; decide
          · have := wv_len (x := (i, pad bs)) hpl
            rw [List.drop_zero, List.take_of_length_le (by omega)]
          obtain ⟨a', c', rfl⟩ := hS.rlen 5 rfl
          (repeat (first | refine d_ok rfl rfl rfl ?_ | refine d_no rfl rfl ?_))
          refine d_e0 rfl rfl ?_
          refine ef_st hS 0 rfl rfl rfl rfl (Nat.le_of_ble_eq_true rfl) rfl fun w1 hS => ⟨rc_0, ?_⟩
          refine d_fin ?_
          (repeat (first | refine g_sq ?_ | refine g_rg ?_ | refine g_r0 ?_ | refine g_ok rfl rfl ?_ | refine g_no rfl ?_ | refine g_no0 rfl ?_ | refine g_bk ?_ | refine g_b ?_ | refine g_sk ?_ | refine g_cT rfl ?_ | refine g_cF rfl ?_ | refine g_x rfl ?_ | refine g_lb ?_))
          refine g_cl rfl rfl ((fin (hS.sel [0, 1, 5] rfl rfl)).mono ?_)
          rintro v w1 ⟨S', hS, rfl⟩
          (repeat (first | refine g_sq ?_ | refine g_rg ?_ | refine g_r0 ?_ | refine g_ok rfl rfl ?_ | refine g_no rfl ?_ | refine g_no0 rfl ?_ | refine g_bk ?_ | refine g_b ?_ | refine g_sk ?_ | refine g_cT rfl ?_ | refine g_cF rfl ?_ | refine g_x rfl ?_ | refine g_lb ?_))
          exact g_ret (q_1 rfl (h _ _ hS))
        · refine d_e rfl rfl ?_
          refine ef_bl (rs := wv (i, pad bs)) hS (evcs_one (v := .agg ⟨wv (i, pad bs)⟩) rfl (wv_len (x := (i, pad bs)) hpl)) fun g2 w1 hS => ⟨rc_1 rfl rfl rfl rfl (hS.b 0 rfl) rfl rc_0, ?_⟩
          refine d_cl rfl rfl rfl (d80 hle.1 hle.2 ⟨rc_0, ?_⟩)
          refine d_e rfl rfl ?_
          refine ef_apf (n := D.waits.length) (m := 1) (ys := wv (i, pad bs)) hS rfl (Ow.rd (hS.ok 2 _ rfl)).clip rfl (.inl ⟨124, .inr ⟨g2, 0, 1, _, rfl, Nat.le_refl _, ?_, ?_, (hS.b 4 rfl).r⟩⟩) (by decide) (by omega) (by omega) fun v' w1 hS => ⟨rc_0, ?_⟩
          · rw [wv_len (x := (i, pad bs)) hpl]; decide
          · have := wv_len (x := (i, pad bs)) hpl
            rw [List.drop_zero, List.take_of_length_le (by omega)]
          obtain ⟨a', c', rfl⟩ := hS.rlen 5 rfl
          (repeat (first | refine d_ok rfl rfl rfl ?_ | refine d_no rfl rfl ?_))
          refine d_e0 rfl rfl ?_
          refine ef_st hS 0 rfl rfl rfl rfl (Nat.le_of_ble_eq_true rfl) rfl fun w1 hS => ⟨rc_0, ?_⟩
          refine d_fin ?_
          (repeat (first | refine g_sq ?_ | refine g_rg ?_ | refine g_r0 ?_ | refine g_ok rfl rfl ?_ | refine g_no rfl ?_ | refine g_no0 rfl ?_ | refine g_bk ?_ | refine g_b ?_ | refine g_sk ?_ | refine g_cT rfl ?_ | refine g_cF rfl ?_ | refine g_x rfl ?_ | refine g_lb ?_))
          refine g_cl rfl rfl ((fin (hS.sel [0, 1, 5] rfl rfl)).mono ?_)
          rintro v w1 ⟨S', hS, rfl⟩
          (repeat (first | refine g_sq ?_ | refine g_rg ?_ | refine g_r0 ?_ | refine g_ok rfl rfl ?_ | refine g_no rfl ?_ | refine g_no0 rfl ?_ | refine g_bk ?_ | refine g_b ?_ | refine g_sk ?_ | refine g_cT rfl ?_ | refine g_cF rfl ?_ | refine g_x rfl ?_ | refine g_lb ?_))
          exact g_ret (q_1 rfl (h _ _ hS))
  · simp only [if_true]
    have e : D.write i bs = (D, 141) := by simp [Dev.write, hdn]
    rw [e] at h
    (repeat (first | refine g_sq ?_ | refine g_rg ?_ | refine g_r0 ?_ | refine g_ok rfl rfl ?_ | refine g_no rfl ?_ | refine g_no0 rfl ?_ | refine g_bk ?_ | refine g_b ?_ | refine g_sk ?_ | refine g_cT rfl ?_ | refine g_cF rfl ?_ | refine g_x rfl ?_ | refine g_lb ?_))
    exact g_ret (q_1 rfl (h _ _ hS))
theorem c23 {i : Int} {v : Value} {E n : Nat} {bs : List UInt8} (hS : St w0 S0 w (DevR S b D :: B)) (hb : Rd v E 1 n (bys bs) w) (hd : ∀ x, vb v x → ¬ S x) (hn : D.waits.length + 1 < 1152921504)
    (h : ∀ w' S', St w0 S0 w' (DevR S' b (D.write i bs).1 :: B) → K (.int .i64 (D.write i bs).2) w') : CK Try.prog 23 [dp b, .int .i64 i, v] w K := by
  have hf := St.frame (A := [DevR S b D]) (B := B) hS
  refine b23 hf.1 hb (fun x hx => ?_) hn fun w' S' h' => h w' S' (hf.2 w' _ h')
  rintro ⟨j, r, hj, hr⟩
  cases j with
  | zero => simp at hj; subst hj; exact hd x hx hr
  | succ j => simp at hj
theorem n23 {i : Int} {v : Value} (h : K (.int .i64 1) w) : CK Try.prog 23 [.pointer none, .int .i64 i, v] w K := by
  refine call_k Try.func23 k23 Try.ntmps23 (Nat.le_of_ble_eq_true rfl) ?_
  (repeat (first | refine g_sq ?_ | refine g_rg ?_ | refine g_r0 ?_ | refine g_ok rfl rfl ?_ | refine g_no rfl ?_ | refine g_no0 rfl ?_ | refine g_bk ?_ | refine g_b ?_ | refine g_sk ?_ | refine g_cT rfl ?_ | refine g_cF rfl ?_ | refine g_x rfl ?_ | refine g_lb ?_))
  refine g_cl rfl rfl (n78 ?_)
  (repeat (first | refine g_sq ?_ | refine g_rg ?_ | refine g_r0 ?_ | refine g_ok rfl rfl ?_ | refine g_no rfl ?_ | refine g_no0 rfl ?_ | refine g_bk ?_ | refine g_b ?_ | refine g_sk ?_ | refine g_cT rfl ?_ | refine g_cF rfl ?_ | refine g_x rfl ?_ | refine g_lb ?_))
  exact g_ret (q_1 rfl h)
end
end Go.Proofs.Ytegjocpjmfaigaa
