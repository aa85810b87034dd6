/- The document's comparisons. -/
import Derived.Test.YtibofabkpgigoaaGreatDoorNc2
import Derived.Test.YtibofabkpgigoaaGreatDoorNd1
set_option linter.unusedSimpArgs false
set_option linter.unusedVariables false
namespace Go.Proofs.YtibofabkpgigoaaGreatDoor
open Go.En

section
variable {w w0 : World} {S0 : Nat → Prop} {L B : List Res} {K : Value → World → Prop} {s : Bs} {E0 E1 : Nat}
theorem r_Same {d e : List Li} {v u : Value} {n m : Nat} (hd : d.length = n) (he : e.length = m) (hn : n < 2000000) (hm : m < 2000000) (hr : Rd v E0 33 n (fl lc d) w) (hu : Rd u E1 33 m (fl lc e) w) (h : ∀ w', St w (fun _ => False) w' [] → K (.bool (decide (d = e))) w') : CK Tryz.prog 14 [v, u] w K := by
  have hS := St.nil w (fun _ => False)
  have hrr : ∀ {L : List Res} (w' : World), St w (fun _ => False) w' L → Rd v E0 33 n (fl lc d) w' := fun w' hS => hr.same fun b hb => hS.fr.kept b (hr.lt b hb) (fun h => h)
  have huu : ∀ {L : List Res} (w' : World), St w (fun _ => False) w' L → Rd u E1 33 m (fl lc e) w' := fun w' hS => hu.same fun b hb => hS.fr.kept b (hu.lt b hb) (fun h => h)
  obtain ⟨a, c, rfl⟩ := hr.form
  obtain ⟨a2, c2, rfl⟩ := hu.form
  refine call_k Tryz.func14 k14 Tryz.ntmps14 (Nat.le_of_ble_eq_true rfl) ?_
  (repeat (first | refine g_sq ?_ | refine g_rg ?_ | refine g_r0 ?_ | refine g_ok rfl rfl ?_ | refine g_no rfl ?_ | refine g_no0 rfl ?_ | refine g_bk ?_ | refine g_b ?_ | refine g_sk ?_ | refine g_cT rfl ?_ | refine g_cF rfl ?_ | refine g_x rfl ?_ | refine g_lb ?_))
  (refine g_cd rfl (fun hc => ?_) (fun hc => ?_) <;> simp only [cmv, arv, Bool.not_eq_true', Bool.not_eq_false', decide_eq_true_eq, decide_eq_false_iff_not] at hc)
  · have e1 : decide (d = e) = false := decide_eq_false fun h1 => hc (by rw [← hd, ← he, h1])
    rw [e1] at h
    (repeat (first | refine g_sq ?_ | refine g_rg ?_ | refine g_r0 ?_ | refine g_ok rfl rfl ?_ | refine g_no rfl ?_ | refine g_no0 rfl ?_ | refine g_bk ?_ | refine g_b ?_ | refine g_sk ?_ | refine g_cT rfl ?_ | refine g_cF rfl ?_ | refine g_x rfl ?_ | refine g_lb ?_))
    exact g_ret (q_1 rfl (h _ hS))
  · have hnm : n = m := by omega
    subst hnm
    (repeat (first | refine g_sq ?_ | refine g_rg ?_ | refine g_r0 ?_ | refine g_ok rfl rfl ?_ | refine g_no rfl ?_ | refine g_no0 rfl ?_ | refine g_bk ?_ | refine g_b ?_ | refine g_sk ?_ | refine g_cT rfl ?_ | refine g_cF rfl ?_ | refine g_x rfl ?_ | refine g_lb ?_))
    refine g_lp (ι := Nat) (fun k => [(0, .slice a n c), (1, .slice a2 n c2), (5, .int .i64 k)]) (fun k w' => k ≤ n ∧ d.take k = e.take k ∧ St w (fun _ => False) w' []) (fun k => n - k) 0 ⟨rfl, rfl, rfl, trivial⟩ ⟨Nat.zero_le _, rfl, hS⟩ ?_
    clear hS
    rintro k w1 ⟨hk, hP, hS⟩
    (repeat (first | refine g_sq ?_ | refine g_rg ?_ | refine g_r0 ?_ | refine g_ok rfl rfl ?_ | refine g_no rfl ?_ | refine g_no0 rfl ?_ | refine g_bk ?_ | refine g_b ?_ | refine g_sk ?_ | refine g_cT rfl ?_ | refine g_cF rfl ?_ | refine g_x rfl ?_ | refine g_lb ?_))
    (refine g_cd rfl (fun hlt => ?_) (fun hlt => ?_) <;> simp only [cmv, arv, Bool.not_eq_true', Bool.not_eq_false', decide_eq_true_eq, decide_eq_false_iff_not] at hlt)
    · have hlt : k < n := by omega
      obtain ⟨b1, off, cap, l, e1, hcap, hl, hx, hb⟩ := Rd.block (hrr _ hS.drew) (by omega)
      cases e1
      obtain ⟨b3, off3, cap3, l3, e3, hcap3, hl3, hx3, hb3⟩ := Rd.block (huu _ hS.drew) (by omega)
      cases e3
      have hbd : off + k * 33 + 33 ≤ l.length := by have : (k + 1) * 33 ≤ c * 33 := Nat.mul_le_mul_right 33 (by omega); omega
      have hbd3 : off3 + k * 33 + 33 ≤ l3.length := by have : (k + 1) * 33 ≤ c2 * 33 := Nat.mul_le_mul_right 33 (by omega); omega
      (repeat (first | refine g_sq ?_ | refine g_rg ?_ | refine g_r0 ?_ | refine g_ok rfl rfl ?_ | refine g_no rfl ?_ | refine g_no0 rfl ?_ | refine g_bk ?_ | refine g_b ?_ | refine g_sk ?_ | refine g_cT rfl ?_ | refine g_cF rfl ?_ | refine g_x rfl ?_ | refine g_lb ?_))
      refine g_dr mixed ?_
      replace hS := hS.drew
      (repeat (first | refine d_ok rfl rfl rfl ?_ | refine d_no rfl rfl ?_))
      refine d_rq rfl rfl rfl ⟨by omega, by omega⟩ ?_
      refine d_qt rfl rfl rfl (qt_ldmr rfl hb hbd) ?_
      rw [Int.toNat_natCast, rd_at lc_len hx hd (show k < d.length by omega)]
      (repeat (first | refine d_ok rfl rfl rfl ?_ | refine d_no rfl rfl ?_))
      refine d_rq rfl rfl rfl ⟨by omega, by omega⟩ ?_
      refine d_qt rfl rfl rfl (qt_ldmr rfl hb3 hbd3) ?_
      rw [Int.toNat_natCast, rd_at lc_len hx3 he (show k < e.length by omega)]
      refine d_qt rfl rfl rfl (qt_eqd (a := lc (d[k]'(by omega))) (b := lc (e[k]'(by omega))) rfl rfl (lc_fits _) (lc_fits _)) ?_
      refine d_fin ?_
      have e5 : eqdv .neq (deqv (lc (d[k]'(by omega))) (lc (e[k]'(by omega)))) = !decide (d[k]'(by omega) = e[k]'(by omega)) := by
        show (!deqv _ _) = _
        rw [deqv_eq (q := decide (d[k]'(by omega) = e[k]'(by omega))) (by rw [decide_eq_true_eq]; exact ⟨fun h => by rw [h], lc_inj⟩)]
      rw [e5]
      cases hde : decide (d[k]'(by omega) = e[k]'(by omega))
      · have e1 : decide (d = e) = false := decide_eq_false fun h1 => by
          subst h1
          simp at hde
        rw [e1] at h
        (repeat (first | refine g_sq ?_ | refine g_rg ?_ | refine g_r0 ?_ | refine g_ok rfl rfl ?_ | refine g_no rfl ?_ | refine g_no0 rfl ?_ | refine g_bk ?_ | refine g_b ?_ | refine g_sk ?_ | refine g_cT rfl ?_ | refine g_cF rfl ?_ | refine g_x rfl ?_ | refine g_lb ?_))
        exact g_ret (q_1 rfl (h _ hS))
      · rw [decide_eq_true_eq] at hde
        (repeat (first | refine g_sq ?_ | refine g_rg ?_ | refine g_r0 ?_ | refine g_ok rfl rfl ?_ | refine g_no rfl ?_ | refine g_no0 rfl ?_ | refine g_bk ?_ | refine g_b ?_ | refine g_sk ?_ | refine g_cT rfl ?_ | refine g_cF rfl ?_ | refine g_x rfl ?_ | refine g_lb ?_))
        refine g_rq rfl rfl (in64 (by simp only [arv]; omega)) ?_
        (repeat (first | refine g_sq ?_ | refine g_rg ?_ | refine g_r0 ?_ | refine g_ok rfl rfl ?_ | refine g_no rfl ?_ | refine g_no0 rfl ?_ | refine g_bk ?_ | refine g_b ?_ | refine g_sk ?_ | refine g_cT rfl ?_ | refine g_cF rfl ?_ | refine g_x rfl ?_ | refine g_lb ?_))
        refine g_l (k + 1) ⟨rfl, rfl, rfl, trivial⟩ ⟨by omega, ?_, hS⟩ (by omega)
        rw [List.take_succ_eq_append_getElem (by omega), List.take_succ_eq_append_getElem (by omega), hP, hde]
    · have e1 : decide (d = e) = true := decide_eq_true (by rw [← List.take_of_length_le (l := d) (i := k) (by omega), hP, List.take_of_length_le (by omega)])
      rw [e1] at h
      (repeat (first | refine g_sq ?_ | refine g_rg ?_ | refine g_r0 ?_ | refine g_ok rfl rfl ?_ | refine g_no rfl ?_ | refine g_no0 rfl ?_ | refine g_bk ?_ | refine g_b ?_ | refine g_sk ?_ | refine g_cT rfl ?_ | refine g_cF rfl ?_ | refine g_x rfl ?_ | refine g_lb ?_))
      exact g_ret (q_1 rfl (h _ hS))
theorem r_SameI {d e : List Id} {v u : Value} {n m : Nat} (hd : d.length = n) (he : e.length = m) (hn : n < 2000000) (hm : m < 2000000) (hr : Rd v E0 32 n (fl ic d) w) (hu : Rd u E1 32 m (fl ic e) w) (h : ∀ w', St w (fun _ => False) w' [] → K (.bool (decide (d = e))) w') : CK Tryz.prog 17 [v, u] w K := by
  have hS := St.nil w (fun _ => False)
  have hrr : ∀ {L : List Res} (w' : World), St w (fun _ => False) w' L → Rd v E0 32 n (fl ic d) w' := fun w' hS => hr.same fun b hb => hS.fr.kept b (hr.lt b hb) (fun h => h)
  have huu : ∀ {L : List Res} (w' : World), St w (fun _ => False) w' L → Rd u E1 32 m (fl ic e) w' := fun w' hS => hu.same fun b hb => hS.fr.kept b (hu.lt b hb) (fun h => h)
  obtain ⟨a, c, rfl⟩ := hr.form
  obtain ⟨a2, c2, rfl⟩ := hu.form
  refine call_k Tryz.func17 k17 Tryz.ntmps17 (Nat.le_of_ble_eq_true rfl) ?_
  (repeat (first | refine g_sq ?_ | refine g_rg ?_ | refine g_r0 ?_ | refine g_ok rfl rfl ?_ | refine g_no rfl ?_ | refine g_no0 rfl ?_ | refine g_bk ?_ | refine g_b ?_ | refine g_sk ?_ | refine g_cT rfl ?_ | refine g_cF rfl ?_ | refine g_x rfl ?_ | refine g_lb ?_))
  (refine g_cd rfl (fun hc => ?_) (fun hc => ?_) <;> simp only [cmv, arv, Bool.not_eq_true', Bool.not_eq_false', decide_eq_true_eq, decide_eq_false_iff_not] at hc)
  · have e1 : decide (d = e) = false := decide_eq_false fun h1 => hc (by rw [← hd, ← he, h1])
    rw [e1] at h
    (repeat (first | refine g_sq ?_ | refine g_rg ?_ | refine g_r0 ?_ | refine g_ok rfl rfl ?_ | refine g_no rfl ?_ | refine g_no0 rfl ?_ | refine g_bk ?_ | refine g_b ?_ | refine g_sk ?_ | refine g_cT rfl ?_ | refine g_cF rfl ?_ | refine g_x rfl ?_ | refine g_lb ?_))
    exact g_ret (q_1 rfl (h _ hS))
  · have hnm : n = m := by omega
    subst hnm
    (repeat (first | refine g_sq ?_ | refine g_rg ?_ | refine g_r0 ?_ | refine g_ok rfl rfl ?_ | refine g_no rfl ?_ | refine g_no0 rfl ?_ | refine g_bk ?_ | refine g_b ?_ | refine g_sk ?_ | refine g_cT rfl ?_ | refine g_cF rfl ?_ | refine g_x rfl ?_ | refine g_lb ?_))
    refine g_lp (ι := Nat) (fun k => [(0, .slice a n c), (1, .slice a2 n c2), (5, .int .i64 k)]) (fun k w' => k ≤ n ∧ d.take k = e.take k ∧ St w (fun _ => False) w' []) (fun k => n - k) 0 ⟨rfl, rfl, rfl, trivial⟩ ⟨Nat.zero_le _, rfl, hS⟩ ?_
    clear hS
    rintro k w1 ⟨hk, hP, hS⟩
    (repeat (first | refine g_sq ?_ | refine g_rg ?_ | refine g_r0 ?_ | refine g_ok rfl rfl ?_ | refine g_no rfl ?_ | refine g_no0 rfl ?_ | refine g_bk ?_ | refine g_b ?_ | refine g_sk ?_ | refine g_cT rfl ?_ | refine g_cF rfl ?_ | refine g_x rfl ?_ | refine g_lb ?_))
    (refine g_cd rfl (fun hlt => ?_) (fun hlt => ?_) <;> simp only [cmv, arv, Bool.not_eq_true', Bool.not_eq_false', decide_eq_true_eq, decide_eq_false_iff_not] at hlt)
    · have hlt : k < n := by omega
      obtain ⟨b1, off, cap, l, e1, hcap, hl, hx, hb⟩ := Rd.block (hrr _ hS.drew) (by omega)
      cases e1
      obtain ⟨b3, off3, cap3, l3, e3, hcap3, hl3, hx3, hb3⟩ := Rd.block (huu _ hS.drew) (by omega)
      cases e3
      have hbd : off + k * 32 + 32 ≤ l.length := by have : (k + 1) * 32 ≤ c * 32 := Nat.mul_le_mul_right 32 (by omega); omega
      have hbd3 : off3 + k * 32 + 32 ≤ l3.length := by have : (k + 1) * 32 ≤ c2 * 32 := Nat.mul_le_mul_right 32 (by omega); omega
      (repeat (first | refine g_sq ?_ | refine g_rg ?_ | refine g_r0 ?_ | refine g_ok rfl rfl ?_ | refine g_no rfl ?_ | refine g_no0 rfl ?_ | refine g_bk ?_ | refine g_b ?_ | refine g_sk ?_ | refine g_cT rfl ?_ | refine g_cF rfl ?_ | refine g_x rfl ?_ | refine g_lb ?_))
      refine g_dr mixed ?_
      replace hS := hS.drew
      (repeat (first | refine d_ok rfl rfl rfl ?_ | refine d_no rfl rfl ?_))
      refine d_rq rfl rfl rfl ⟨by omega, by omega⟩ ?_
      refine d_qt rfl rfl rfl (qt_ldmr rfl hb hbd) ?_
      rw [Int.toNat_natCast, rd_at ic_len hx hd (show k < d.length by omega)]
      (repeat (first | refine d_ok rfl rfl rfl ?_ | refine d_no rfl rfl ?_))
      refine d_rq rfl rfl rfl ⟨by omega, by omega⟩ ?_
      refine d_qt rfl rfl rfl (qt_ldmr rfl hb3 hbd3) ?_
      rw [Int.toNat_natCast, rd_at ic_len hx3 he (show k < e.length by omega)]
      refine d_qt rfl rfl rfl (qt_aq (a := (d[k]'(by omega)).1) (b := (e[k]'(by omega)).1) rfl rfl (d[k]'(by omega)).2 (e[k]'(by omega)).2) ?_
      refine d_fin ?_
      have e5 : aqv .neq (d[k]'(by omega)).1 (e[k]'(by omega)).1 = !decide (d[k]'(by omega) = e[k]'(by omega)) := by
        show (!decide _) = _
        rw [decide_eq_decide.2 (⟨fun h => Subtype.ext h, fun h => by rw [h]⟩ : (d[k]'(by omega)).1 = (e[k]'(by omega)).1 ↔ d[k]'(by omega) = e[k]'(by omega))]
      rw [e5]
      cases hde : decide (d[k]'(by omega) = e[k]'(by omega))
      · have e1 : decide (d = e) = false := decide_eq_false fun h1 => by
          subst h1
          simp at hde
        rw [e1] at h
        (repeat (first | refine g_sq ?_ | refine g_rg ?_ | refine g_r0 ?_ | refine g_ok rfl rfl ?_ | refine g_no rfl ?_ | refine g_no0 rfl ?_ | refine g_bk ?_ | refine g_b ?_ | refine g_sk ?_ | refine g_cT rfl ?_ | refine g_cF rfl ?_ | refine g_x rfl ?_ | refine g_lb ?_))
        exact g_ret (q_1 rfl (h _ hS))
      · rw [decide_eq_true_eq] at hde
        (repeat (first | refine g_sq ?_ | refine g_rg ?_ | refine g_r0 ?_ | refine g_ok rfl rfl ?_ | refine g_no rfl ?_ | refine g_no0 rfl ?_ | refine g_bk ?_ | refine g_b ?_ | refine g_sk ?_ | refine g_cT rfl ?_ | refine g_cF rfl ?_ | refine g_x rfl ?_ | refine g_lb ?_))
        refine g_rq rfl rfl (in64 (by simp only [arv]; omega)) ?_
        (repeat (first | refine g_sq ?_ | refine g_rg ?_ | refine g_r0 ?_ | refine g_ok rfl rfl ?_ | refine g_no rfl ?_ | refine g_no0 rfl ?_ | refine g_bk ?_ | refine g_b ?_ | refine g_sk ?_ | refine g_cT rfl ?_ | refine g_cF rfl ?_ | refine g_x rfl ?_ | refine g_lb ?_))
        refine g_l (k + 1) ⟨rfl, rfl, rfl, trivial⟩ ⟨by omega, ?_, hS⟩ (by omega)
        rw [List.take_succ_eq_append_getElem (by omega), List.take_succ_eq_append_getElem (by omega), hP, hde]
    · have e1 : decide (d = e) = true := decide_eq_true (by rw [← List.take_of_length_le (l := d) (i := k) (by omega), hP, List.take_of_length_le (by omega)])
      rw [e1] at h
      (repeat (first | refine g_sq ?_ | refine g_rg ?_ | refine g_r0 ?_ | refine g_ok rfl rfl ?_ | refine g_no rfl ?_ | refine g_no0 rfl ?_ | refine g_bk ?_ | refine g_b ?_ | refine g_sk ?_ | refine g_cT rfl ?_ | refine g_cF rfl ?_ | refine g_x rfl ?_ | refine g_lb ?_))
      exact g_ret (q_1 rfl (h _ hS))
/-- is a list more than the statements go through? -/
def grt (d : List Li) : Bool := decide (60 < d.length) || d.any fun x => decide (300 < x.1.length)
theorem r_Great {d : List Li} {v : Value} {n : Nat} (hd : d.length = n) (hn : n ≤ 9223372036854775807) (hr : Rd v E0 33 n (fl lc d) w) (h : K (.int .i64 (if grt d = true then 1 else 0)) w) : CK Tryz.prog 8 [v] w K := by
  obtain ⟨a, c, rfl⟩ := hr.form
  refine call_k Tryz.func8 k8 Tryz.ntmps8 (Nat.le_of_ble_eq_true rfl) ?_
  (repeat (first | refine g_sq ?_ | refine g_rg ?_ | refine g_r0 ?_ | refine g_ok rfl rfl ?_ | refine g_no rfl ?_ | refine g_no0 rfl ?_ | refine g_bk ?_ | refine g_b ?_ | refine g_sk ?_ | refine g_cT rfl ?_ | refine g_cF rfl ?_ | refine g_x rfl ?_ | refine g_lb ?_))
  (refine g_cd rfl (fun hc => ?_) (fun hc => ?_) <;> simp only [cmv, arv, Bool.not_eq_true', Bool.not_eq_false', decide_eq_true_eq, decide_eq_false_iff_not] at hc)
  · have e : grt d = true := by unfold grt; rw [decide_eq_true (by omega), Bool.true_or]
    rw [if_pos e] at h
    (repeat (first | refine g_sq ?_ | refine g_rg ?_ | refine g_r0 ?_ | refine g_ok rfl rfl ?_ | refine g_no rfl ?_ | refine g_no0 rfl ?_ | refine g_bk ?_ | refine g_b ?_ | refine g_sk ?_ | refine g_cT rfl ?_ | refine g_cF rfl ?_ | refine g_x rfl ?_ | refine g_lb ?_))
    exact g_ret (q_1 rfl h)
  · (repeat (first | refine g_sq ?_ | refine g_rg ?_ | refine g_r0 ?_ | refine g_ok rfl rfl ?_ | refine g_no rfl ?_ | refine g_no0 rfl ?_ | refine g_bk ?_ | refine g_b ?_ | refine g_sk ?_ | refine g_cT rfl ?_ | refine g_cF rfl ?_ | refine g_x rfl ?_ | refine g_lb ?_))
    refine g_lp (ι := Nat) (fun k => [(0, .slice a n c), (3, .int .i64 k)]) (fun k w' => k ≤ n ∧ (∀ j (hj : j < d.length), j < k → d[j].1.length ≤ 300) ∧ w' = w) (fun k => n - k) 0 ⟨rfl, rfl, trivial⟩ ⟨Nat.zero_le _, fun j _ h => absurd h (Nat.not_lt_zero j), rfl⟩ ?_
    rintro k w1 ⟨hk, hP, rfl⟩
    (repeat (first | refine g_sq ?_ | refine g_rg ?_ | refine g_r0 ?_ | refine g_ok rfl rfl ?_ | refine g_no rfl ?_ | refine g_no0 rfl ?_ | refine g_bk ?_ | refine g_b ?_ | refine g_sk ?_ | refine g_cT rfl ?_ | refine g_cF rfl ?_ | refine g_x rfl ?_ | refine g_lb ?_))
    (refine g_cd rfl (fun hlt => ?_) (fun hlt => ?_) <;> simp only [cmv, arv, Bool.not_eq_true', Bool.not_eq_false', decide_eq_true_eq, decide_eq_false_iff_not] at hlt)
    · have hlt : k < n := by omega
      obtain ⟨b1, off, cap, l, e1, hcap, hl, hx, hb⟩ := Rd.block hr (by omega)
      cases e1
      have hbd : off + k * 33 + 33 ≤ l.length := by have : (k + 1) * 33 ≤ c * 33 := Nat.mul_le_mul_right 33 (by omega); omega
      (repeat (first | refine g_sq ?_ | refine g_rg ?_ | refine g_r0 ?_ | refine g_ok rfl rfl ?_ | refine g_no rfl ?_ | refine g_no0 rfl ?_ | refine g_bk ?_ | refine g_b ?_ | refine g_sk ?_ | refine g_cT rfl ?_ | refine g_cF rfl ?_ | refine g_x rfl ?_ | refine g_lb ?_))
      refine g_rq rfl rfl ⟨by omega, by omega⟩ ?_
      (repeat (first | refine g_sq ?_ | refine g_rg ?_ | refine g_r0 ?_ | refine g_ok rfl rfl ?_ | refine g_no rfl ?_ | refine g_no0 rfl ?_ | refine g_bk ?_ | refine g_b ?_ | refine g_sk ?_ | refine g_cT rfl ?_ | refine g_cF rfl ?_ | refine g_x rfl ?_ | refine g_lb ?_))
      have e5 : l[off + (k : Int).toNat * 33 + 0]? = some (sv (d[k]'(by omega)).1) := by
        have h5 := rd_at lc_len hx hd (show k < d.length by omega)
        have h6 : ((l.drop (off + k * 33)).take 33)[0]? = some (sv (d[k]'(by omega)).1) := by rw [h5]; rfl
        rw [List.getElem?_take_of_lt (by omega), List.getElem?_drop] at h6
        rw [Int.toNat_natCast]
        exact h6
      refine g_l1r rfl rfl hb e5 ?_
      (repeat (first | refine g_sq ?_ | refine g_rg ?_ | refine g_r0 ?_ | refine g_ok rfl rfl ?_ | refine g_no rfl ?_ | refine g_no0 rfl ?_ | refine g_bk ?_ | refine g_b ?_ | refine g_sk ?_ | refine g_cT rfl ?_ | refine g_cF rfl ?_ | refine g_x rfl ?_ | refine g_lb ?_))
      (refine g_cd rfl (fun hq => ?_) (fun hq => ?_) <;> simp only [cmv, arv, Bool.not_eq_true', Bool.not_eq_false', decide_eq_true_eq, decide_eq_false_iff_not] at hq)
      · rw [Lib.size_eq] at hq
        have e : grt d = true := by
          unfold grt
          rw [Bool.or_eq_true]
          refine .inr (List.any_eq_true.2 ⟨d[k]'(by omega), List.getElem_mem _, decide_eq_true ?_⟩)
          have : ((⟨(d[k]'(by omega)).1.toArray⟩ : ByteArray).data.toList.length : Int) = ((d[k]'(by omega)).1.length : Int) := rfl
          omega
        rw [if_pos e] at h
        (repeat (first | refine g_sq ?_ | refine g_rg ?_ | refine g_r0 ?_ | refine g_ok rfl rfl ?_ | refine g_no rfl ?_ | refine g_no0 rfl ?_ | refine g_bk ?_ | refine g_b ?_ | refine g_sk ?_ | refine g_cT rfl ?_ | refine g_cF rfl ?_ | refine g_x rfl ?_ | refine g_lb ?_))
        exact g_ret (q_1 rfl h)
      · rw [Lib.size_eq] at hq
        (repeat (first | refine g_sq ?_ | refine g_rg ?_ | refine g_r0 ?_ | refine g_ok rfl rfl ?_ | refine g_no rfl ?_ | refine g_no0 rfl ?_ | refine g_bk ?_ | refine g_b ?_ | refine g_sk ?_ | refine g_cT rfl ?_ | refine g_cF rfl ?_ | refine g_x rfl ?_ | refine g_lb ?_))
        refine g_rq rfl rfl (in64 (by simp only [arv]; omega)) ?_
        (repeat (first | refine g_sq ?_ | refine g_rg ?_ | refine g_r0 ?_ | refine g_ok rfl rfl ?_ | refine g_no rfl ?_ | refine g_no0 rfl ?_ | refine g_bk ?_ | refine g_b ?_ | refine g_sk ?_ | refine g_cT rfl ?_ | refine g_cF rfl ?_ | refine g_x rfl ?_ | refine g_lb ?_))
        refine g_l (k + 1) ⟨rfl, rfl, trivial⟩ ⟨by omega, fun j hj hjk => ?_, rfl⟩ (by omega)
        by_cases ej : j = k
        · subst ej
          have : ((⟨(d[j]'(by omega)).1.toArray⟩ : ByteArray).data.toList.length : Int) = ((d[j]'(by omega)).1.length : Int) := rfl
          omega
        · exact hP j hj (by omega)
    · have e : ¬ grt d = true := by
        unfold grt
        rw [Bool.or_eq_true, decide_eq_true_eq, List.any_eq_true]
        rintro (h1 | ⟨x, hx, h1⟩)
        · omega
        · obtain ⟨j, hj, rfl⟩ := List.getElem_of_mem hx
          have := hP j hj (by omega)
          rw [decide_eq_true_eq] at h1
          omega
      rw [if_neg e] at h
      (repeat (first | refine g_sq ?_ | refine g_rg ?_ | refine g_r0 ?_ | refine g_ok rfl rfl ?_ | refine g_no rfl ?_ | refine g_no0 rfl ?_ | refine g_bk ?_ | refine g_b ?_ | refine g_sk ?_ | refine g_cT rfl ?_ | refine g_cF rfl ?_ | refine g_x rfl ?_ | refine g_lb ?_))
      exact g_ret (q_1 rfl h)
end
end Go.Proofs.YtibofabkpgigoaaGreatDoor
