/- The statements of the device: what a block reads, and the chapter's first examples. -/
import Derived.Test.YtegjocpjmfaigaaSa
import Derived.Test.YtegjocpjmfaigaaMc
import Derived.Test.YtegjocpjmfaigaaLd
set_option linter.unusedSimpArgs false
set_option linter.unusedVariables false
namespace Go.Proofs.Ytegjocpjmfaigaa
open Go.En

/-- a string -/
abbrev sv (bs : List UInt8) : Value := .string ⟨bs.toArray⟩
def sts (l : List (List UInt8)) : List Value := l.map sv
/-- all blocks, as they are read -/
def Dev.all (D : Dev) : List (List UInt8) := if D.down then List.replicate D.cells.length [] else (List.range D.cells.length).map fun i => D.rd (i : Nat)
theorem Dev.all_len (D : Dev) : D.all.length = D.cells.length := by unfold Dev.all; split <;> simp
theorem str_app (a b : List UInt8) : (⟨a.toArray⟩ : ByteArray) ++ ⟨b.toArray⟩ = ⟨(a ++ b).toArray⟩ := by
  apply ByteArray.ext
  rw [ByteArray.data_append]
  simp
section
variable {w w0 : World} {S0 S : Nat → Prop} {K : Value → World → Prop} {b : Nat} {D : Dev} {B L : List Res}
theorem c26 {s : List UInt8} (hS : St w0 S0 w L) (hs : s.length ≤ 1000000) (h : ∀ w', St w0 S0 w' L → K (sv (pad s)) w') : CK Try.prog 26 [sv s] w K := by
  refine call_k Try.func26 k26 Try.ntmps26 (Nat.le_of_ble_eq_true rfl) ?_
  have hz : (⟨s.toArray⟩ : ByteArray).size = s.length := rfl
  (repeat (first | refine g_sq ?_ | refine g_rg ?_ | refine g_r0 ?_ | refine g_ok rfl rfl ?_ | refine g_no rfl ?_ | refine g_no0 rfl ?_ | refine g_bk ?_ | refine g_b ?_ | refine g_sk ?_ | refine g_cT rfl ?_ | refine g_cF rfl ?_ | refine g_x rfl ?_ | refine g_lb ?_))
  refine g_rq rfl rfl (in64 (by simp only [arv, hz]; omega)) ?_
  (repeat (first | refine g_sq ?_ | refine g_rg ?_ | refine g_r0 ?_ | refine g_ok rfl rfl ?_ | refine g_no rfl ?_ | refine g_no0 rfl ?_ | refine g_bk ?_ | refine g_b ?_ | refine g_sk ?_ | refine g_cT rfl ?_ | refine g_cF rfl ?_ | refine g_x rfl ?_ | refine g_lb ?_))
  refine g_cl rfl rfl (c83 hS (by simp only [arv, hz]; omega) (by simp only [arv, hz]; omega) fun w' hS => ?_)
  have e : (max 0 (arv BinOp.sub 128 ((⟨s.toArray⟩ : ByteArray).size : Int))).toNat = 128 - s.length := by simp only [arv, hz]; omega
  rw [e]
  refine g_rq rfl rfl ?_ ?_
  · show s.length + (List.replicate (128 - s.length) (0 : UInt8)).length ≤ _
    simp; omega
  rw [str_app]
  (repeat (first | refine g_sq ?_ | refine g_rg ?_ | refine g_r0 ?_ | refine g_ok rfl rfl ?_ | refine g_no rfl ?_ | refine g_no0 rfl ?_ | refine g_bk ?_ | refine g_b ?_ | refine g_sk ?_ | refine g_cT rfl ?_ | refine g_cF rfl ?_ | refine g_x rfl ?_ | refine g_lb ?_))
  exact g_ret (q_1 rfl (h _ hS))
theorem c35 {i : Int} {s : List UInt8} (hS : St w0 S0 w (DevR S b D :: B)) (hs : s.length ≤ 1000000)
    (h : ∀ w' S', St w0 S0 w' (DevR S' b D :: B) → K (.bool (decide (D.down = false ∧ (0 ≤ i ∧ i < D.cells.length) ∧ D.rd i = pad s))) w') : CK Try.prog 35 [dp b, .int .i64 i, sv s] w K := by
  refine call_k Try.func35 k35 Try.ntmps35 (Nat.le_of_ble_eq_true rfl) ?_
  (repeat (first | refine g_sq ?_ | refine g_rg ?_ | refine g_r0 ?_ | refine g_ok rfl rfl ?_ | refine g_no rfl ?_ | refine g_no0 rfl ?_ | refine g_bk ?_ | refine g_b ?_ | refine g_sk ?_ | refine g_cT rfl ?_ | refine g_cF rfl ?_ | refine g_x rfl ?_ | refine g_lb ?_))
  refine g_cl rfl rfl (c33 hS (fun hd => ?_) (fun hd hi => ?_) (fun hd hi w1 S1 v1 hS => ?_))
  · (repeat (first | refine g_sq ?_ | refine g_rg ?_ | refine g_r0 ?_ | refine g_ok rfl rfl ?_ | refine g_no rfl ?_ | refine g_no0 rfl ?_ | refine g_bk ?_ | refine g_b ?_ | refine g_sk ?_ | refine g_cT rfl ?_ | refine g_cF rfl ?_ | refine g_x rfl ?_ | refine g_lb ?_))
    refine g_dr mixed ?_
    have hS := hS.drew
    (repeat (first | refine d_ok rfl rfl rfl ?_ | refine d_no rfl rfl ?_))
    refine d_en rfl rfl (rc_no rfl rfl rfl rc_0) ?_
    (repeat (first | refine d_ok rfl rfl rfl ?_ | refine d_no rfl rfl ?_))
    rw [decide_eq_false (by simp [hd])] at h
    refine d_fin ?_
    (repeat (first | refine g_sq ?_ | refine g_rg ?_ | refine g_r0 ?_ | refine g_ok rfl rfl ?_ | refine g_no rfl ?_ | refine g_no0 rfl ?_ | refine g_bk ?_ | refine g_b ?_ | refine g_sk ?_ | refine g_cT rfl ?_ | refine g_cF rfl ?_ | refine g_x rfl ?_ | refine g_lb ?_))
    exact g_ret (q_1 rfl (h _ _ hS))
  · (repeat (first | refine g_sq ?_ | refine g_rg ?_ | refine g_r0 ?_ | refine g_ok rfl rfl ?_ | refine g_no rfl ?_ | refine g_no0 rfl ?_ | refine g_bk ?_ | refine g_b ?_ | refine g_sk ?_ | refine g_cT rfl ?_ | refine g_cF rfl ?_ | refine g_x rfl ?_ | refine g_lb ?_))
    refine g_dr mixed ?_
    have hS := hS.drew
    (repeat (first | refine d_ok rfl rfl rfl ?_ | refine d_no rfl rfl ?_))
    refine d_en rfl rfl (rc_no rfl rfl rfl rc_0) ?_
    (repeat (first | refine d_ok rfl rfl rfl ?_ | refine d_no rfl rfl ?_))
    rw [decide_eq_false (by rintro ⟨_, h, _⟩; exact hi h)] at h
    refine d_fin ?_
    (repeat (first | refine g_sq ?_ | refine g_rg ?_ | refine g_r0 ?_ | refine g_ok rfl rfl ?_ | refine g_no rfl ?_ | refine g_no0 rfl ?_ | refine g_bk ?_ | refine g_b ?_ | refine g_sk ?_ | refine g_cT rfl ?_ | refine g_cF rfl ?_ | refine g_x rfl ?_ | refine g_lb ?_))
    exact g_ret (q_1 rfl (h _ _ hS))
  · (repeat (first | refine g_sq ?_ | refine g_rg ?_ | refine g_r0 ?_ | refine g_ok rfl rfl ?_ | refine g_no rfl ?_ | refine g_no0 rfl ?_ | refine g_bk ?_ | refine g_b ?_ | refine g_sk ?_ | refine g_cT rfl ?_ | refine g_cF rfl ?_ | refine g_x rfl ?_ | refine g_lb ?_))
    refine g_dr mixed ?_
    have hS := hS.drew
    (repeat (first | refine d_ok rfl rfl rfl ?_ | refine d_no rfl rfl ?_))
    refine d_qt rfl rfl rfl (qt_bsR rfl (Ow.rd (hS.ok 1 _ rfl))) ?_
    (repeat (first | refine d_ok rfl rfl rfl ?_ | refine d_no rfl rfl ?_))
    refine d_cl rfl rfl rfl (c26 hS hs fun w1 hS => ⟨rc_qt rfl rfl rfl rfl (qt_bsR rfl (Ow.rd (hS.ok 1 _ rfl))) rc_0, ?_⟩)
    (repeat (first | refine d_ok rfl rfl rfl ?_ | refine d_no rfl rfl ?_))
    have e : decide ((⟨(D.rd i).toArray⟩ : ByteArray).data.toList = (⟨(pad s).toArray⟩ : ByteArray).data.toList) = decide (D.down = false ∧ (0 ≤ i ∧ i < D.cells.length) ∧ D.rd i = pad s) := by
      simp [hd, hi]
    rw [e]
    refine d_fin ?_
    (repeat (first | refine g_sq ?_ | refine g_rg ?_ | refine g_r0 ?_ | refine g_ok rfl rfl ?_ | refine g_no rfl ?_ | refine g_no0 rfl ?_ | refine g_bk ?_ | refine g_b ?_ | refine g_sk ?_ | refine g_cT rfl ?_ | refine g_cF rfl ?_ | refine g_x rfl ?_ | refine g_lb ?_))
    exact g_ret (q_1 rfl (h _ _ (St.sub (A := [DevR S1 b D]) (List.sublist_cons_self _ _) hS)))
/-- all blocks of a device -/
theorem b25 (hS : St w0 S0 w [DevR S b D]) (hl : D.cells.length ≤ 4096) (h : ∀ w' S' v', St w0 S0 w' [DevR S' b D, row v' 9 1 D.cells.length (sts D.all)] → K v' w') : CK Try.prog 25 [dp b] w K := by
  refine call_k Try.func25 k25 Try.ntmps25 (Nat.le_of_ble_eq_true rfl) ?_
  (repeat (first | refine g_sq ?_ | refine g_rg ?_ | refine g_r0 ?_ | refine g_ok rfl rfl ?_ | refine g_no rfl ?_ | refine g_no0 rfl ?_ | refine g_bk ?_ | refine g_b ?_ | refine g_sk ?_ | refine g_cT rfl ?_ | refine g_cF rfl ?_ | refine g_x rfl ?_ | refine g_lb ?_))
  refine g_cl rfl rfl (d36 hS ?_)
  (repeat (first | refine g_sq ?_ | refine g_rg ?_ | refine g_r0 ?_ | refine g_ok rfl rfl ?_ | refine g_no rfl ?_ | refine g_no0 rfl ?_ | refine g_bk ?_ | refine g_b ?_ | refine g_sk ?_ | refine g_cT rfl ?_ | refine g_cF rfl ?_ | refine g_x rfl ?_ | refine g_lb ?_))
  have hlen := D.all_len
  refine g_lp (ι := Nat × Value) (fun x => [(0, dp b), (3, x.2), (8, .int .i64 D.cells.length), (9, .int .i64 x.1)])
    (fun x w => x.1 ≤ D.cells.length ∧ ∃ S, St w0 S0 w [DevR S b D, row x.2 9 1 x.1 (sts (D.all.take x.1))]) (fun x => D.cells.length - x.1) (0, .slice none 0 0) ⟨rfl, rfl, rfl, rfl, trivial⟩ ⟨Nat.zero_le _, S, hS.nilrow 9 1⟩ ?_
  clear hS
  rintro ⟨k, v⟩ w ⟨hk, S, hS⟩
  simp only at hk hS
  (repeat (first | refine g_sq ?_ | refine g_rg ?_ | refine g_r0 ?_ | refine g_ok rfl rfl ?_ | refine g_no rfl ?_ | refine g_no0 rfl ?_ | refine g_bk ?_ | refine g_b ?_ | refine g_sk ?_ | refine g_cT rfl ?_ | refine g_cF rfl ?_ | refine g_x rfl ?_ | refine g_lb ?_))
  refine g_cd rfl (fun hc => ?_) (fun hc => ?_)
  all_goals simp only [cmv, decide_eq_true_eq, decide_eq_false_iff_not] at hc
  · have hlt : k < D.cells.length := by omega
    (repeat (first | refine g_sq ?_ | refine g_rg ?_ | refine g_r0 ?_ | refine g_ok rfl rfl ?_ | refine g_no rfl ?_ | refine g_no0 rfl ?_ | refine g_bk ?_ | refine g_b ?_ | refine g_sk ?_ | refine g_cT rfl ?_ | refine g_cF rfl ?_ | refine g_x rfl ?_ | refine g_lb ?_))
    refine g_cl rfl rfl (c33 hS (fun hd => ?_) (fun hd hi => ?_) (fun hd hi w1 S1 v1 hS => ?_))
    · have e : D.all[k]'(by omega) = [] := by
        simp [Dev.all, hd]
      (repeat (first | refine g_sq ?_ | refine g_rg ?_ | refine g_r0 ?_ | refine g_ok rfl rfl ?_ | refine g_no rfl ?_ | refine g_no0 rfl ?_ | refine g_bk ?_ | refine g_b ?_ | refine g_sk ?_ | refine g_cT rfl ?_ | refine g_cF rfl ?_ | refine g_x rfl ?_ | refine g_lb ?_))
      refine g_qt rfl (qt_bsR (E := 5) (n := 0) (bs := []) rfl (.inl ⟨⟨none, rfl⟩, rfl, rfl⟩)) ?_
      (repeat (first | refine g_sq ?_ | refine g_rg ?_ | refine g_r0 ?_ | refine g_ok rfl rfl ?_ | refine g_no rfl ?_ | refine g_no0 rfl ?_ | refine g_bk ?_ | refine g_b ?_ | refine g_sk ?_ | refine g_cT rfl ?_ | refine g_cF rfl ?_ | refine g_x rfl ?_ | refine g_lb ?_))
      refine g_ef rfl (ef_bl (rs := [sv ([])]) hS rfl fun g w2 hS => ?_)
      (repeat (first | refine g_sq ?_ | refine g_rg ?_ | refine g_r0 ?_ | refine g_ok rfl rfl ?_ | refine g_no rfl ?_ | refine g_no0 rfl ?_ | refine g_bk ?_ | refine g_b ?_ | refine g_sk ?_ | refine g_cT rfl ?_ | refine g_cF rfl ?_ | refine g_x rfl ?_ | refine g_lb ?_))
      refine g_ef rfl (ef_ap (n := k) (m := 1) (ys := [sv ([])]) hS 1 rfl rfl rfl (.inl ⟨9, .inr ⟨g, 0, 1, _, rfl, Nat.le_refl _, Nat.le_refl _, rfl, (hS.b 2 rfl).r⟩⟩) rfl (by omega) (by omega) fun v' w2 hS => ?_)
      (repeat (first | refine g_sq ?_ | refine g_rg ?_ | refine g_r0 ?_ | refine g_ok rfl rfl ?_ | refine g_no rfl ?_ | refine g_no0 rfl ?_ | refine g_bk ?_ | refine g_b ?_ | refine g_sk ?_ | refine g_cT rfl ?_ | refine g_cF rfl ?_ | refine g_x rfl ?_ | refine g_lb ?_))
      refine g_rq rfl rfl (in64 (by simp only [arv]; omega)) ?_
      (repeat (first | refine g_sq ?_ | refine g_rg ?_ | refine g_r0 ?_ | refine g_ok rfl rfl ?_ | refine g_no rfl ?_ | refine g_no0 rfl ?_ | refine g_bk ?_ | refine g_b ?_ | refine g_sk ?_ | refine g_cT rfl ?_ | refine g_cF rfl ?_ | refine g_x rfl ?_ | refine g_lb ?_))
      have e2 : sts (D.all.take k) ++ [sv ([])] = sts (D.all.take (k + 1)) := by
        rw [List.take_succ_eq_append_getElem (by omega), e]; simp [sts]
      rw [e2] at hS
      exact g_l (k + 1, v') ⟨rfl, rfl, rfl, rfl, trivial⟩ ⟨by simp only; omega, _, hS.sel [0, 1] rfl rfl⟩ (by simp only; omega)
    · exact absurd ⟨by omega, by omega⟩ hi
    · have hS := hS.sel [0, 2, 1] rfl rfl
      have e : D.all[k]'(by omega) = D.rd k := by
        simp [Dev.all, hd]
      (repeat (first | refine g_sq ?_ | refine g_rg ?_ | refine g_r0 ?_ | refine g_ok rfl rfl ?_ | refine g_no rfl ?_ | refine g_no0 rfl ?_ | refine g_bk ?_ | refine g_b ?_ | refine g_sk ?_ | refine g_cT rfl ?_ | refine g_cF rfl ?_ | refine g_x rfl ?_ | refine g_lb ?_))
      refine g_qt rfl (qt_bsR rfl (Ow.rd (hS.ok 2 _ rfl))) ?_
      (repeat (first | refine g_sq ?_ | refine g_rg ?_ | refine g_r0 ?_ | refine g_ok rfl rfl ?_ | refine g_no rfl ?_ | refine g_no0 rfl ?_ | refine g_bk ?_ | refine g_b ?_ | refine g_sk ?_ | refine g_cT rfl ?_ | refine g_cF rfl ?_ | refine g_x rfl ?_ | refine g_lb ?_))
      refine g_ef rfl (ef_bl (rs := [sv (D.rd k)]) hS rfl fun g w2 hS => ?_)
      (repeat (first | refine g_sq ?_ | refine g_rg ?_ | refine g_r0 ?_ | refine g_ok rfl rfl ?_ | refine g_no rfl ?_ | refine g_no0 rfl ?_ | refine g_bk ?_ | refine g_b ?_ | refine g_sk ?_ | refine g_cT rfl ?_ | refine g_cF rfl ?_ | refine g_x rfl ?_ | refine g_lb ?_))
      refine g_ef rfl (ef_ap (n := k) (m := 1) (ys := [sv (D.rd k)]) hS 1 rfl rfl rfl (.inl ⟨9, .inr ⟨g, 0, 1, _, rfl, Nat.le_refl _, Nat.le_refl _, rfl, (hS.b 3 rfl).r⟩⟩) rfl (by omega) (by omega) fun v' w2 hS => ?_)
      (repeat (first | refine g_sq ?_ | refine g_rg ?_ | refine g_r0 ?_ | refine g_ok rfl rfl ?_ | refine g_no rfl ?_ | refine g_no0 rfl ?_ | refine g_bk ?_ | refine g_b ?_ | refine g_sk ?_ | refine g_cT rfl ?_ | refine g_cF rfl ?_ | refine g_x rfl ?_ | refine g_lb ?_))
      refine g_rq rfl rfl (in64 (by simp only [arv]; omega)) ?_
      (repeat (first | refine g_sq ?_ | refine g_rg ?_ | refine g_r0 ?_ | refine g_ok rfl rfl ?_ | refine g_no rfl ?_ | refine g_no0 rfl ?_ | refine g_bk ?_ | refine g_b ?_ | refine g_sk ?_ | refine g_cT rfl ?_ | refine g_cF rfl ?_ | refine g_x rfl ?_ | refine g_lb ?_))
      have e2 : sts (D.all.take k) ++ [sv (D.rd k)] = sts (D.all.take (k + 1)) := by
        rw [List.take_succ_eq_append_getElem (by omega), e]; simp [sts]
      rw [e2] at hS
      exact g_l (k + 1, v') ⟨rfl, rfl, rfl, rfl, trivial⟩ ⟨by simp only; omega, _, hS.sel [0, 1] rfl rfl⟩ (by simp only; omega)
  · have e : k = D.cells.length := by omega
    subst e
    rw [List.take_of_length_le (by omega)] at hS
    (repeat (first | refine g_sq ?_ | refine g_rg ?_ | refine g_r0 ?_ | refine g_ok rfl rfl ?_ | refine g_no rfl ?_ | refine g_no0 rfl ?_ | refine g_bk ?_ | refine g_b ?_ | refine g_sk ?_ | refine g_cT rfl ?_ | refine g_cF rfl ?_ | refine g_x rfl ?_ | refine g_lb ?_))
    exact g_ret (q_1 rfl (h _ _ _ hS))
theorem c25 (hS : St w0 S0 w (DevR S b D :: B)) (hl : D.cells.length ≤ 4096) (h : ∀ w' S' v', St w0 S0 w' (DevR S' b D :: row v' 9 1 D.cells.length (sts D.all) :: B) → K v' w') : CK Try.prog 25 [dp b] w K := by
  have hf := St.frame (A := [DevR S b D]) (B := B) hS
  exact b25 hf.1 hl fun w' S' v' h' => h w' S' v' (hf.2 w' _ h')
end
end Go.Proofs.Ytegjocpjmfaigaa
