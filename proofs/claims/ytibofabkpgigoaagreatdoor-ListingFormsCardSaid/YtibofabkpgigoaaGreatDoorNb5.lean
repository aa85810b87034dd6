/- Is a list sorted by names? -/
import Derived.Test.YtibofabkpgigoaaGreatDoorNb4
set_option linter.unusedSimpArgs false
set_option linter.unusedVariables false
namespace Go.Proofs.YtibofabkpgigoaaGreatDoor
open Go.En

/-- neighbours from the i-th on stand in order -/
def srtF (d : List Li) (i : Nat) : Prop := ∀ j (h : j + 1 < d.length), i ≤ j → ble d[j].1 d[j + 1].1 = true
def srtd (d : List Li) : Bool := decide (d.Pairwise fun x y => ble x.1 y.1 = true)
theorem srt_iff (d : List Li) : srtF d 0 ↔ srtd d = true := by
  unfold srtd
  rw [decide_eq_true_eq]
  constructor
  · induction d with
    | nil => intro _; exact List.Pairwise.nil
    | cons x d ih =>
      intro h
      have hd := ih (fun j hj _ => h (j + 1) (by rw [List.length_cons]; omega) (Nat.zero_le _))
      refine List.pairwise_cons.2 ⟨?_, hd⟩
      intro y hy
      obtain ⟨j, hj, rfl⟩ := List.getElem_of_mem hy
      have h0 : ble x.1 (d[0]'(by omega)).1 = true := h 0 (by rw [List.length_cons]; omega) (Nat.le_refl _)
      by_cases e : j = 0
      · subst e; exact h0
      · exact ble_trans h0 (List.pairwise_iff_getElem.1 hd 0 j (by omega) hj (by omega))
  · intro h j hj _
    exact List.pairwise_iff_getElem.1 h j (j + 1) (by omega) hj (by omega)
section
variable {w w0 : World} {S0 : Nat → Prop} {L B : List Res} {K : Value → World → Prop} {s : Bs} {E0 E1 : Nat}
theorem b_IsSorted {d : List Li} {v : Value} {n : Nat} (hd : d.length = n) (hn : n < 2000000) (hr : Rd v E0 33 n (fl lc d) w) (h : ∀ w', St w (fun _ => False) w' [] → K (.bool (srtd d)) w') : CK Tryz.prog 32 [v, .func (.func 33) ⟨[]⟩ ⟨[]⟩] w K := by
  have hS := St.nil w (fun _ => False)
  have hr' : ∀ w', St w (fun _ => False) w' [] → Rd v E0 33 n (fl lc d) w' := fun w' hS => hr.same fun b hb => hS.fr.kept b (hr.lt b hb) (fun h => h)
  obtain ⟨a, c, rfl⟩ := hr.form
  refine call_k Tryz.func32 k32 Tryz.ntmps32 (Nat.le_of_ble_eq_true rfl) ?_
  (repeat (first | refine g_sq ?_ | refine g_rg ?_ | refine g_r0 ?_ | refine g_ok rfl rfl ?_ | refine g_no rfl ?_ | refine g_no0 rfl ?_ | refine g_bk ?_ | refine g_b ?_ | refine g_sk ?_ | refine g_cT rfl ?_ | refine g_cF rfl ?_ | refine g_x rfl ?_ | refine g_lb ?_))
  refine g_rq rfl rfl (in64 (by simp only [arv]; omega)) ?_
  (repeat (first | refine g_sq ?_ | refine g_rg ?_ | refine g_r0 ?_ | refine g_ok rfl rfl ?_ | refine g_no rfl ?_ | refine g_no0 rfl ?_ | refine g_bk ?_ | refine g_b ?_ | refine g_sk ?_ | refine g_cT rfl ?_ | refine g_cF rfl ?_ | refine g_x rfl ?_ | refine g_lb ?_))
  refine g_lp (ι := Nat) (fun k => [(0, .slice a n c), (1, .func (.func 33) ⟨[]⟩ ⟨[]⟩), (5, .int .i64 ((k : Int) - 1))]) (fun k w' => k ≤ n ∧ srtF d (k - 1) ∧ St w (fun _ => False) w' []) (fun k => k) n ⟨rfl, rfl, rfl, trivial⟩ ⟨Nat.le_refl _, fun j hj hij => by omega, hS⟩ ?_
  clear hS
  rintro k w1 ⟨hk, hP, hS⟩
  (repeat (first | refine g_sq ?_ | refine g_rg ?_ | refine g_r0 ?_ | refine g_ok rfl rfl ?_ | refine g_no rfl ?_ | refine g_no0 rfl ?_ | refine g_bk ?_ | refine g_b ?_ | refine g_sk ?_ | refine g_cT rfl ?_ | refine g_cF rfl ?_ | refine g_x rfl ?_ | refine g_lb ?_))
  (refine g_cd rfl (fun hc => ?_) (fun hc => ?_) <;> simp only [cmv, arv, Bool.not_eq_true', Bool.not_eq_false', decide_eq_true_eq, decide_eq_false_iff_not] at hc)
  · have hk2 : 2 ≤ k := by omega
    obtain ⟨b2, off, cap, l2, e1, hcap, hl, hx, hb⟩ := Rd.block (hr' _ hS.drew) (by omega)
    cases e1
    (repeat (first | refine g_sq ?_ | refine g_rg ?_ | refine g_r0 ?_ | refine g_ok rfl rfl ?_ | refine g_no rfl ?_ | refine g_no0 rfl ?_ | refine g_bk ?_ | refine g_b ?_ | refine g_sk ?_ | refine g_cT rfl ?_ | refine g_cF rfl ?_ | refine g_x rfl ?_ | refine g_lb ?_))
    refine g_dr mixed ?_
    replace hS := hS.drew
    (repeat (first | refine d_ok rfl rfl rfl ?_ | refine d_no rfl rfl ?_))
    rw [show (k : Int) - 1 = ((k - 1 : Nat) : Int) by omega]
    refine d_rq rfl rfl rfl ⟨by omega, by omega⟩ ?_
    rw [Int.toNat_natCast]
    have hbd : ∀ i, i < n → off + i * 33 + 33 ≤ l2.length := fun i hi => by have : (i + 1) * 33 ≤ c * 33 := Nat.mul_le_mul_right 33 (by omega); omega
    refine d_qt rfl rfl rfl (qt_ldmr rfl hb (hbd (k - 1) (by omega))) ?_
    rw [rd_at lc_len hx hd (show k - 1 < d.length by omega)]
    (repeat (first | refine d_ok rfl rfl rfl ?_ | refine d_no rfl rfl ?_))
    refine d_rq rfl rfl rfl (in64 (by simp only [arv]; omega)) ?_
    rw [show arv BinOp.sub ((k - 1 : Nat) : Int) 1 = ((k - 2 : Nat) : Int) by simp only [arv]; omega]
    refine d_rq rfl rfl rfl ⟨by omega, by omega⟩ ?_
    rw [Int.toNat_natCast]
    refine d_qt rfl rfl rfl (qt_ldmr rfl hb (hbd (k - 2) (by omega))) ?_
    rw [rd_at lc_len hx hd (show k - 2 < d.length by omega)]
    refine d_e rfl rfl ?_
    refine ef_cv (vs := [.agg ⟨lc (d[k - 1]'(by omega))⟩, .agg ⟨lc (d[k - 2]'(by omega))⟩]) rfl rfl (callFunc_of Tryz.func33 rfl rfl) (b_byName fun w' h' => ⟨rc_0, ?_⟩)
    replace hS := hS.call0.2 _ _ h'
    rw [List.append_nil] at hS
    (repeat (first | refine d_ok rfl rfl rfl ?_ | refine d_no rfl rfl ?_))
    refine d_fin ?_
    have hng := cb_neg (d[k - 1]'(by omega)).1 (d[k - 2]'(by omega)).1
    (refine g_cd rfl (fun hq => ?_) (fun hq => ?_) <;> simp only [cmv, arv, Bool.not_eq_true', Bool.not_eq_false', decide_eq_true_eq, decide_eq_false_iff_not] at hq)
    · have e : srtd d = false := by
        cases hsd : srtd d
        · rfl
        · have h1 := (srt_iff d).2 hsd (k - 2) (by omega) (Nat.zero_le _)
          have h2 : (d[k - 2]'(by omega)).1 = (d[k - 2]'(by omega)).1 := rfl
          unfold ble at h1
          rw [decide_eq_true_eq] at h1
          simp only [show k - 2 + 1 = k - 1 by omega] at h1
          omega
      rw [e] at h
      (repeat (first | refine g_sq ?_ | refine g_rg ?_ | refine g_r0 ?_ | refine g_ok rfl rfl ?_ | refine g_no rfl ?_ | refine g_no0 rfl ?_ | refine g_bk ?_ | refine g_b ?_ | refine g_sk ?_ | refine g_cT rfl ?_ | refine g_cF rfl ?_ | refine g_x rfl ?_ | refine g_lb ?_))
      exact g_ret (q_1 rfl (h _ hS))
    · (repeat (first | refine g_sq ?_ | refine g_rg ?_ | refine g_r0 ?_ | refine g_ok rfl rfl ?_ | refine g_no rfl ?_ | refine g_no0 rfl ?_ | refine g_bk ?_ | refine g_b ?_ | refine g_sk ?_ | refine g_cT rfl ?_ | refine g_cF rfl ?_ | refine g_x rfl ?_ | refine g_lb ?_))
      refine g_rq rfl rfl (in64 (by simp only [arv]; omega)) ?_
      (repeat (first | refine g_sq ?_ | refine g_rg ?_ | refine g_r0 ?_ | refine g_ok rfl rfl ?_ | refine g_no rfl ?_ | refine g_no0 rfl ?_ | refine g_bk ?_ | refine g_b ?_ | refine g_sk ?_ | refine g_cT rfl ?_ | refine g_cF rfl ?_ | refine g_x rfl ?_ | refine g_lb ?_))
      refine g_l (k - 1) ⟨rfl, rfl, by show some (Value.int .i64 (arv .sub ((k - 1 : Nat) : Int) 1)) = _; simp only [arv], trivial⟩ ⟨by omega, ?_, hS⟩ (by omega)
      intro j hj hij
      by_cases e : j = k - 2
      · subst e
        unfold ble
        rw [decide_eq_true_eq]
        simp only [show k - 2 + 1 = k - 1 by omega]
        omega
      · exact hP j hj (by omega)
  · have e : srtd d = true := (srt_iff d).1 fun j hj _ => hP j hj (by omega)
    rw [e] at h
    (repeat (first | refine g_sq ?_ | refine g_rg ?_ | refine g_r0 ?_ | refine g_ok rfl rfl ?_ | refine g_no rfl ?_ | refine g_no0 rfl ?_ | refine g_bk ?_ | refine g_b ?_ | refine g_sk ?_ | refine g_cT rfl ?_ | refine g_cF rfl ?_ | refine g_x rfl ?_ | refine g_lb ?_))
    exact g_ret (q_1 rfl (h _ hS))
end
end Go.Proofs.YtibofabkpgigoaaGreatDoor
