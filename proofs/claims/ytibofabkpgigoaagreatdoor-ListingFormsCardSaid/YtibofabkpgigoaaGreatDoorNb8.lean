/- Are two lists the same? -/
import Derived.Test.YtibofabkpgigoaaGreatDoorNb7
set_option linter.unusedSimpArgs false
set_option linter.unusedVariables false
namespace Go.Proofs.YtibofabkpgigoaaGreatDoor
open Go.En

theorem bys_inj : ∀ {a b : Bs}, bys a = bys b → a = b
  | [], [], _ => rfl
  | [], _ :: _, h => by simp [bys] at h
  | _ :: _, [], h => by simp [bys] at h
  | x :: a, y :: b, h => by
    have h1 : bys a = bys b := by simpa [bys] using (List.cons.inj h).2
    have h2 : (x.toNat : Int) = (y.toNat : Int) := by
      have := (List.cons.inj h).1
      simp only [Value.int.injEq, true_and] at this
      exact this
    rw [bys_inj h1, UInt8.toNat_inj.1 (Int.ofNat.inj h2)]
theorem lc_inj {x y : Li} (h : lc x = lc y) : x = y := by
  unfold lc at h
  rw [List.cons.injEq] at h
  exact Prod.ext (sv_inj h.1) (id_inj _ _ (bys_inj h.2))
theorem lc_fits (x : Li) : Fits ([.s] ++ List.replicate 32 (.i .u8)) (lc x) := by
  have := fits_bys x.2.1
  rw [x.2.2] at this
  exact ⟨⟨_, rfl⟩, this⟩
section
variable {w w0 : World} {S0 : Nat → Prop} {L B : List Res} {K : Value → World → Prop} {s : Bs} {E0 E1 : Nat}
theorem b_sameX {x y : Li} (h : ∀ w', St w (fun _ => False) w' [] → K (.bool (decide (x = y))) w') : CK Tryz.prog 42 [.agg ⟨lc x⟩, .agg ⟨lc y⟩] w K := by
  have hS := St.nil w (fun _ => False)
  refine call_k Tryz.func42 k42 Tryz.ntmps42 (Nat.le_of_ble_eq_true rfl) ?_
  (repeat (first | refine g_sq ?_ | refine g_rg ?_ | refine g_r0 ?_ | refine g_ok rfl rfl ?_ | refine g_no rfl ?_ | refine g_no0 rfl ?_ | refine g_bk ?_ | refine g_b ?_ | refine g_sk ?_ | refine g_cT rfl ?_ | refine g_cF rfl ?_ | refine g_x rfl ?_ | refine g_lb ?_))
  refine g_ef rfl (ef_bx hS rfl fun b1 w1 hS => ?_)
  (repeat (first | refine g_sq ?_ | refine g_rg ?_ | refine g_r0 ?_ | refine g_ok rfl rfl ?_ | refine g_no rfl ?_ | refine g_no0 rfl ?_ | refine g_bk ?_ | refine g_b ?_ | refine g_sk ?_ | refine g_cT rfl ?_ | refine g_cF rfl ?_ | refine g_x rfl ?_ | refine g_lb ?_))
  refine g_ef rfl (ef_bx hS rfl fun b2 w1 hS => ?_)
  replace hS : St w (fun _ => False) w1 [cel b1 (lc x) 41, cel b2 (lc y) 41] := hS
  (repeat (first | refine g_sq ?_ | refine g_rg ?_ | refine g_r0 ?_ | refine g_ok rfl rfl ?_ | refine g_no rfl ?_ | refine g_no0 rfl ?_ | refine g_bk ?_ | refine g_b ?_ | refine g_sk ?_ | refine g_cT rfl ?_ | refine g_cF rfl ?_ | refine g_x rfl ?_ | refine g_lb ?_))
  refine g_lm rfl rfl (hS.b 0 rfl) (Nat.le_of_eq (lc_len x).symm) ?_
  refine g_lm rfl rfl (hS.b 1 rfl) (Nat.le_of_eq (lc_len y).symm) ?_
  rw [List.drop_zero, List.drop_zero, List.take_of_length_le (Nat.le_of_eq (lc_len x)), List.take_of_length_le (Nat.le_of_eq (lc_len y))]
  refine g_eqd (lc x) (lc y) rfl rfl rfl (lc_fits x) (lc_fits y) ?_
  have e : eqdv .eql (deqv (lc x) (lc y)) = decide (x = y) := deqv_eq (by rw [decide_eq_true_eq]; exact ⟨fun h => by rw [h], lc_inj⟩)
  rw [e]
  (repeat (first | refine g_sq ?_ | refine g_rg ?_ | refine g_r0 ?_ | refine g_ok rfl rfl ?_ | refine g_no rfl ?_ | refine g_no0 rfl ?_ | refine g_bk ?_ | refine g_b ?_ | refine g_sk ?_ | refine g_cT rfl ?_ | refine g_cF rfl ?_ | refine g_x rfl ?_ | refine g_lb ?_))
  exact g_ret (q_1 rfl (h _ (hS.sel [] rfl rfl)))
theorem b_Same {d e : List Li} {v u : Value} {n m : Nat} (hd : d.length = n) (he : e.length = m) (hn : n < 2000000) (hm : m < 2000000) (hr : Rd v E0 33 n (fl lc d) w) (hu : Rd u E1 33 m (fl lc e) w) (h : ∀ w', St w (fun _ => False) w' [] → K (.bool (decide (d = e))) w') : CK Tryz.prog 41 [v, u, .func (.func 42) ⟨[]⟩ ⟨[]⟩] w K := by
  have hS := St.nil w (fun _ => False)
  have hrr : ∀ {L : List Res} (w' : World), St w (fun _ => False) w' L → Rd v E0 33 n (fl lc d) w' := fun w' hS => hr.same fun b hb => hS.fr.kept b (hr.lt b hb) (fun h => h)
  have huu : ∀ {L : List Res} (w' : World), St w (fun _ => False) w' L → Rd u E1 33 m (fl lc e) w' := fun w' hS => hu.same fun b hb => hS.fr.kept b (hu.lt b hb) (fun h => h)
  obtain ⟨a, c, rfl⟩ := hr.form
  obtain ⟨a2, c2, rfl⟩ := hu.form
  refine call_k Tryz.func41 k41 Tryz.ntmps41 (Nat.le_of_ble_eq_true rfl) ?_
  (repeat (first | refine g_sq ?_ | refine g_rg ?_ | refine g_r0 ?_ | refine g_ok rfl rfl ?_ | refine g_no rfl ?_ | refine g_no0 rfl ?_ | refine g_bk ?_ | refine g_b ?_ | refine g_sk ?_ | refine g_cT rfl ?_ | refine g_cF rfl ?_ | refine g_x rfl ?_ | refine g_lb ?_))
  (refine g_cd rfl (fun hc => ?_) (fun hc => ?_) <;> simp only [cmv, arv, Bool.not_eq_true', Bool.not_eq_false', decide_eq_true_eq, decide_eq_false_iff_not] at hc)
  · have e1 : decide (d = e) = false := decide_eq_false fun h1 => hc (by rw [← hd, ← he, h1])
    rw [e1] at h
    (repeat (first | refine g_sq ?_ | refine g_rg ?_ | refine g_r0 ?_ | refine g_ok rfl rfl ?_ | refine g_no rfl ?_ | refine g_no0 rfl ?_ | refine g_bk ?_ | refine g_b ?_ | refine g_sk ?_ | refine g_cT rfl ?_ | refine g_cF rfl ?_ | refine g_x rfl ?_ | refine g_lb ?_))
    exact g_ret (q_1 rfl (h _ hS))
  · have hnm : n = m := by omega
    subst hnm
    (repeat (first | refine g_sq ?_ | refine g_rg ?_ | refine g_r0 ?_ | refine g_ok rfl rfl ?_ | refine g_no rfl ?_ | refine g_no0 rfl ?_ | refine g_bk ?_ | refine g_b ?_ | refine g_sk ?_ | refine g_cT rfl ?_ | refine g_cF rfl ?_ | refine g_x rfl ?_ | refine g_lb ?_))
    refine g_lp (ι := Nat) (fun k => [(1, .slice a2 n c2), (2, .func (.func 42) ⟨[]⟩ ⟨[]⟩), (15, .slice a n c), (16, .int .i64 n), (17, .int .i64 k)]) (fun k w' => k ≤ n ∧ d.take k = e.take k ∧ St w (fun _ => False) w' []) (fun k => n - k) 0 ⟨rfl, rfl, rfl, rfl, rfl, trivial⟩ ⟨Nat.zero_le _, rfl, hS⟩ ?_
    clear hS
    rintro k w1 ⟨hk, hP, hS⟩
    (repeat (first | refine g_sq ?_ | refine g_rg ?_ | refine g_r0 ?_ | refine g_ok rfl rfl ?_ | refine g_no rfl ?_ | refine g_no0 rfl ?_ | refine g_bk ?_ | refine g_b ?_ | refine g_sk ?_ | refine g_cT rfl ?_ | refine g_cF rfl ?_ | refine g_x rfl ?_ | refine g_lb ?_))
    (refine g_cd rfl (fun hlt => ?_) (fun hlt => ?_) <;> simp only [cmv, arv, Bool.not_eq_true', Bool.not_eq_false', decide_eq_true_eq, decide_eq_false_iff_not] at hlt)
    · have hlt : k < n := by omega
      obtain ⟨b1, off, cap, l, e1, hcap, hl, hx, hb⟩ := Rd.block (hrr _ hS) (by omega)
      cases e1
      (repeat (first | refine g_sq ?_ | refine g_rg ?_ | refine g_r0 ?_ | refine g_ok rfl rfl ?_ | refine g_no rfl ?_ | refine g_no0 rfl ?_ | refine g_bk ?_ | refine g_b ?_ | refine g_sk ?_ | refine g_cT rfl ?_ | refine g_cF rfl ?_ | refine g_x rfl ?_ | refine g_lb ?_))
      refine g_rq rfl rfl ⟨by omega, by omega⟩ ?_
      have hbd : off + k * 33 + 33 ≤ l.length := by have : (k + 1) * 33 ≤ c * 33 := Nat.mul_le_mul_right 33 (by omega); omega
      refine g_lmr rfl rfl hb hbd ?_
      rw [Int.toNat_natCast, rd_at lc_len hx hd (show k < d.length by omega)]
      clear hb
      refine g_ef rfl (ef_al hS fun b8 w1 hS => ?_)
      have lz : (zx [(1, .string ⟨#[]⟩), (32, .int .u8 0)]).length = 33 := by decide
      (repeat (first | refine g_sq ?_ | refine g_rg ?_ | refine g_r0 ?_ | refine g_ok rfl rfl ?_ | refine g_no rfl ?_ | refine g_no0 rfl ?_ | refine g_bk ?_ | refine g_b ?_ | refine g_sk ?_ | refine g_cT rfl ?_ | refine g_cF rfl ?_ | refine g_x rfl ?_ | refine g_lb ?_))
      refine g_ef0 rfl (ef_st hS 0 rfl rfl rfl (lc_len _) (by rw [lz]; decide) (List.all_eq_true.2 (lc_one _)) fun w2 hS => ?_)
      replace hS := hS.ceq (l' := lc (d[k]'(by omega))) 0 rfl (spl_full _ _ (by show (lc _).length = _; rw [lc_len, lz]))
      obtain ⟨b3, off3, cap3, l3, e3, hcap3, hl3, hx3, hb3⟩ := Rd.block (huu _ hS) (by omega)
      cases e3
      (repeat (first | refine g_sq ?_ | refine g_rg ?_ | refine g_r0 ?_ | refine g_ok rfl rfl ?_ | refine g_no rfl ?_ | refine g_no0 rfl ?_ | refine g_bk ?_ | refine g_b ?_ | refine g_sk ?_ | refine g_cT rfl ?_ | refine g_cF rfl ?_ | refine g_x rfl ?_ | refine g_lb ?_))
      refine g_rq rfl rfl ⟨by omega, by omega⟩ ?_
      have hbd3 : off3 + k * 33 + 33 ≤ l3.length := by have : (k + 1) * 33 ≤ c2 * 33 := Nat.mul_le_mul_right 33 (by omega); omega
      refine g_lmr rfl rfl hb3 hbd3 ?_
      rw [Int.toNat_natCast, rd_at lc_len hx3 he (show k < e.length by omega)]
      clear hb3
      refine g_ef rfl (ef_al hS fun b9 w1 hS => ?_)
      (repeat (first | refine g_sq ?_ | refine g_rg ?_ | refine g_r0 ?_ | refine g_ok rfl rfl ?_ | refine g_no rfl ?_ | refine g_no0 rfl ?_ | refine g_bk ?_ | refine g_b ?_ | refine g_sk ?_ | refine g_cT rfl ?_ | refine g_cF rfl ?_ | refine g_x rfl ?_ | refine g_lb ?_))
      refine g_ef0 rfl (ef_st hS 1 rfl rfl rfl (lc_len _) (by rw [lz]; decide) (List.all_eq_true.2 (lc_one _)) fun w2 hS => ?_)
      replace hS := hS.ceq (l' := lc (e[k]'(by omega))) 1 rfl (spl_full _ _ (by show (lc _).length = _; rw [lc_len, lz]))
      (repeat (first | refine g_sq ?_ | refine g_rg ?_ | refine g_r0 ?_ | refine g_ok rfl rfl ?_ | refine g_no rfl ?_ | refine g_no0 rfl ?_ | refine g_bk ?_ | refine g_b ?_ | refine g_sk ?_ | refine g_cT rfl ?_ | refine g_cF rfl ?_ | refine g_x rfl ?_ | refine g_lb ?_))
      refine g_lm rfl rfl (hS.b 0 rfl) (Nat.le_of_eq (lc_len _).symm) ?_
      refine g_lm rfl rfl (hS.b 1 rfl) (Nat.le_of_eq (lc_len _).symm) ?_
      rw [List.drop_zero, List.drop_zero, List.take_of_length_le (Nat.le_of_eq (lc_len _)), List.take_of_length_le (Nat.le_of_eq (lc_len _))]
      refine g_ef rfl (ef_cv (vs := [.agg ⟨lc (d[k]'(by omega))⟩, .agg ⟨lc (e[k]'(by omega))⟩]) rfl rfl (callFunc_of Tryz.func42 rfl rfl) (b_sameX fun w' h' => ?_))
      replace hS := hS.call0.2 _ _ h'
      rw [List.append_nil] at hS
      cases hde : decide (d[k]'(by omega) = e[k]'(by omega))
      · have e1 : decide (d = e) = false := decide_eq_false fun h1 => by
          subst h1
          simp at hde
        rw [e1] at h
        (repeat (first | refine g_sq ?_ | refine g_rg ?_ | refine g_r0 ?_ | refine g_ok rfl rfl ?_ | refine g_no rfl ?_ | refine g_no0 rfl ?_ | refine g_bk ?_ | refine g_b ?_ | refine g_sk ?_ | refine g_cT rfl ?_ | refine g_cF rfl ?_ | refine g_x rfl ?_ | refine g_lb ?_))
        exact g_ret (q_1 rfl (h _ (hS.sel [] rfl rfl)))
      · rw [decide_eq_true_eq] at hde
        (repeat (first | refine g_sq ?_ | refine g_rg ?_ | refine g_r0 ?_ | refine g_ok rfl rfl ?_ | refine g_no rfl ?_ | refine g_no0 rfl ?_ | refine g_bk ?_ | refine g_b ?_ | refine g_sk ?_ | refine g_cT rfl ?_ | refine g_cF rfl ?_ | refine g_x rfl ?_ | refine g_lb ?_))
        refine g_rq rfl rfl (in64 (by simp only [arv]; omega)) ?_
        (repeat (first | refine g_sq ?_ | refine g_rg ?_ | refine g_r0 ?_ | refine g_ok rfl rfl ?_ | refine g_no rfl ?_ | refine g_no0 rfl ?_ | refine g_bk ?_ | refine g_b ?_ | refine g_sk ?_ | refine g_cT rfl ?_ | refine g_cF rfl ?_ | refine g_x rfl ?_ | refine g_lb ?_))
        refine g_l (k + 1) ⟨rfl, rfl, rfl, rfl, rfl, trivial⟩ ⟨by omega, ?_, hS.sel [] rfl rfl⟩ (by omega)
        rw [List.take_succ_eq_append_getElem (by omega), List.take_succ_eq_append_getElem (by omega), hP, hde]
    · have e1 : decide (d = e) = true := decide_eq_true (by rw [← List.take_of_length_le (l := d) (i := k) (by omega), hP, List.take_of_length_le (by omega)])
      rw [e1] at h
      (repeat (first | refine g_sq ?_ | refine g_rg ?_ | refine g_r0 ?_ | refine g_ok rfl rfl ?_ | refine g_no rfl ?_ | refine g_no0 rfl ?_ | refine g_bk ?_ | refine g_b ?_ | refine g_sk ?_ | refine g_cT rfl ?_ | refine g_cF rfl ?_ | refine g_x rfl ?_ | refine g_lb ?_))
      exact g_ret (q_1 rfl (h _ hS))
theorem b_SameL {d e : List Li} {v u : Value} {n m : Nat} (hd : d.length = n) (he : e.length = m) (hn : n < 2000000) (hm : m < 2000000) (hr : Rd v E0 33 n (fl lc d) w) (hu : Rd u E1 33 m (fl lc e) w) (h : ∀ w', St w (fun _ => False) w' [] → K (.bool (decide (d = e))) w') : CK Tryz.prog 12 [v, u] w K := by
  refine call_k Tryz.func12 k12 Tryz.ntmps12 (Nat.le_of_ble_eq_true rfl) ?_
  (repeat (first | refine g_sq ?_ | refine g_rg ?_ | refine g_r0 ?_ | refine g_ok rfl rfl ?_ | refine g_no rfl ?_ | refine g_no0 rfl ?_ | refine g_bk ?_ | refine g_b ?_ | refine g_sk ?_ | refine g_cT rfl ?_ | refine g_cF rfl ?_ | refine g_x rfl ?_ | refine g_lb ?_))
  refine g_cl rfl rfl (b_Same hd he hn hm hr hu fun w' hS => ?_)
  (repeat (first | refine g_sq ?_ | refine g_rg ?_ | refine g_r0 ?_ | refine g_ok rfl rfl ?_ | refine g_no rfl ?_ | refine g_no0 rfl ?_ | refine g_bk ?_ | refine g_b ?_ | refine g_sk ?_ | refine g_cT rfl ?_ | refine g_cF rfl ?_ | refine g_x rfl ?_ | refine g_lb ?_))
  exact g_ret (q_1 rfl (h _ hS))
end
end Go.Proofs.YtibofabkpgigoaaGreatDoor
