/- The document's layer 4: rules of names. -/
import Derived.Test.YtbdpcpafjphmpaaDoorOh4
set_option linter.unusedSimpArgs false
set_option linter.unusedVariables false
namespace Go.Proofs.YtbdpcpafjphmpaaDoor
open Go.En

theorem gd_at {s : Bs} {k : Nat} (h : k < s.length) : (⟨s.toArray⟩ : ByteArray).data.toList.getD (k : Int).toNat 0 = s[k] := by
  rw [Int.toNat_natCast]
  show s.getD k 0 = s[k]
  rw [List.getD_eq_getElem?_getD, List.getElem?_eq_getElem h]
  rfl
theorem rd_x' {l xs : List Value} {off n k : Nat} (hx : (l.drop off).take (n * 1) = xs) (hn : xs.length = n) (hk : k < xs.length) : l[off + k * 1]? = some xs[k] := by
  have h1 := congrArg (fun l : List Value => l[k]?) hx
  simp only [List.getElem?_take, List.getElem?_drop] at h1
  rw [if_pos (by omega), List.getElem?_eq_getElem hk] at h1
  rw [Nat.mul_one]
  exact h1
theorem ceq_c {c : UInt8} {n : Nat} (hn : n < 256) : cmv BinOp.eql ((c.toNat : Nat) : Int) (n : Int) = decide (c = UInt8.ofNat n) := by
  simp only [cmv]
  rw [decide_eq_decide]
  constructor
  · intro h
    refine UInt8.toNat_inj.1 ?_
    rw [UInt8.toNat_ofNat']
    omega
  · intro h
    rw [h, UInt8.toNat_ofNat']
    omega
theorem lock_suf (p : Bs) : ([46, 108, 111, 99, 107] : Bs).isSuffixOf p = true ↔ 5 ≤ p.length ∧ p.drop (p.length - 5) = [46, 108, 111, 99, 107] := by
  rw [List.isSuffixOf_iff_suffix, List.suffix_iff_eq_drop]
  constructor
  · intro h
    refine ⟨?_, h.symm⟩
    have := congrArg List.length h
    simp at this
    omega
  · rintro ⟨_, h⟩
    exact h.symm
theorem dot_suf {s : Bs} (h : 0 < s.length) : ([46] : Bs).isSuffixOf s = true ↔ s[s.length - 1] = 46 := by
  rw [List.isSuffixOf_iff_suffix, List.suffix_iff_eq_drop]
  have e : s.drop (s.length - 1) = [s[s.length - 1]] := by
    rw [List.drop_eq_getElem_cons (by omega), List.drop_eq_nil_of_le (by omega)]
  show [46] = s.drop (s.length - 1) ↔ _
  rw [e]
  constructor
  · intro h
    exact (List.cons.inj h).1.symm
  · intro h
    rw [h]
theorem dot_pre {p : Bs} (h : 0 < p.length) : ([46] : Bs).isPrefixOf p = true ↔ p[0] = 46 := by
  match p, h with
  | x :: p, _ =>
    simp [List.isPrefixOf]
    exact eq_comm
section
variable {w w0 : World} {S0 : Nat → Prop} {L B : List Res} {K : Value → World → Prop} {s : Bs} {E0 E1 : Nat}
set_option maxHeartbeats 8000000 in
theorem r_Breaks (h : ∀ w', St w (fun _ => False) w' [] → K (.int .i64 (brk s)) w') : CK Tryd.prog 26 [sv s] w K := by
  have hS := St.nil w (fun _ => False)
  have esz : (⟨s.toArray⟩ : ByteArray).size = s.length := by rw [Lib.size_eq]
  have hsl : ((⟨s.toArray⟩ : ByteArray).data.toList.length : Int) = s.length := rfl
  have stop : ∀ j, j < 8 → (∀ i, i < j → rul i s = false) → rul j s = true → ∀ w', St w (fun _ => False) w' [] → K (.int .i64 ((j : Int) + 1)) w' := fun j hj h0 h1 w' hS => by
    have hb := brk_at j hj h0 h1
    rw [hb] at h
    exact h w' hS
  refine call_k Tryd.func26 k26 Tryd.ntmps26 (Nat.le_of_ble_eq_true rfl) ?_
  (repeat (first | refine g_sq ?_ | refine g_rg ?_ | refine g_r0 ?_ | refine g_ok rfl rfl ?_ | refine g_no rfl ?_ | refine g_no0 rfl ?_ | refine g_bk ?_ | refine g_b ?_ | refine g_sk ?_ | refine g_cT rfl ?_ | refine g_cF rfl ?_ | refine g_x rfl ?_ | refine g_lb ?_))
  rw [esz]
  (generalize q1 : cmv _ _ _ = q; cases q <;> simp only [cmv, arv, Bool.not_eq_true', Bool.not_eq_false', decide_eq_true_eq, decide_eq_false_iff_not] at q1 <;> first | (exfalso; omega) | skip)
  rotate_left
  · have e0 : s = [] := List.eq_nil_of_length_eq_zero (by omega)
    (repeat (first | refine g_sq ?_ | refine g_rg ?_ | refine g_r0 ?_ | refine g_ok rfl rfl ?_ | refine g_no rfl ?_ | refine g_no0 rfl ?_ | refine g_bk ?_ | refine g_b ?_ | refine g_sk ?_ | refine g_cT rfl ?_ | refine g_cF rfl ?_ | refine g_x rfl ?_ | refine g_lb ?_))
    exact g_ret (q_1 rfl (stop 0 (by decide) (fun i hi => absurd hi (Nat.not_lt_zero i)) (by simp [rul, e0]) _ hS))
  (repeat (first | refine g_sq ?_ | refine g_rg ?_ | refine g_r0 ?_ | refine g_ok rfl rfl ?_ | refine g_no rfl ?_ | refine g_no0 rfl ?_ | refine g_bk ?_ | refine g_b ?_ | refine g_sk ?_ | refine g_cT rfl ?_ | refine g_cF rfl ?_ | refine g_x rfl ?_ | refine g_lb ?_))
  rw [esz]
  (generalize q2 : cmv _ _ _ = q; cases q <;> simp only [cmv, arv, Bool.not_eq_true', Bool.not_eq_false', decide_eq_true_eq, decide_eq_false_iff_not] at q2 <;> first | (exfalso; omega) | skip)
  rotate_left
  · (repeat (first | refine g_sq ?_ | refine g_rg ?_ | refine g_r0 ?_ | refine g_ok rfl rfl ?_ | refine g_no rfl ?_ | refine g_no0 rfl ?_ | refine g_bk ?_ | refine g_b ?_ | refine g_sk ?_ | refine g_cT rfl ?_ | refine g_cF rfl ?_ | refine g_x rfl ?_ | refine g_lb ?_))
    exact g_ret (q_1 rfl (stop 0 (by decide) (fun i hi => absurd hi (Nat.not_lt_zero i)) (by simp [rul]; right; omega) _ hS))
  have r0 : rul 0 s = false := by
    simp only [rul, Bool.or_eq_false_iff, decide_eq_false_iff_not]
    exact ⟨fun e => by rw [e] at q1; simp at q1, by omega⟩
  (repeat (first | refine g_sq ?_ | refine g_rg ?_ | refine g_r0 ?_ | refine g_ok rfl rfl ?_ | refine g_no rfl ?_ | refine g_no0 rfl ?_ | refine g_bk ?_ | refine g_b ?_ | refine g_sk ?_ | refine g_cT rfl ?_ | refine g_cF rfl ?_ | refine g_x rfl ?_ | refine g_lb ?_))
  refine g_lp (ι := Nat) (fun k => [(0, sv s), (3, .int .i64 k)]) (fun k w' => k ≤ s.length ∧ (∀ j (hj : j < s.length), j < k → may s[j] = true) ∧ St w (fun _ => False) w' []) (fun k => s.length - k) 0 ⟨rfl, rfl, trivial⟩ ⟨Nat.zero_le _, fun j _ h => absurd h (Nat.not_lt_zero j), hS⟩ ?_
  clear hS
  rintro k w1 ⟨hk, hP, hS⟩
  (repeat (first | refine g_sq ?_ | refine g_rg ?_ | refine g_r0 ?_ | refine g_ok rfl rfl ?_ | refine g_no rfl ?_ | refine g_no0 rfl ?_ | refine g_bk ?_ | refine g_b ?_ | refine g_sk ?_ | refine g_cT rfl ?_ | refine g_cF rfl ?_ | refine g_x rfl ?_ | refine g_lb ?_))
  rw [esz]
  (refine g_cd rfl (fun hlt => ?_) (fun hlt => ?_) <;> simp only [cmv, arv, Bool.not_eq_true', Bool.not_eq_false', decide_eq_true_eq, decide_eq_false_iff_not] at hlt)
  · have hlt : k < s.length := by omega
    (repeat (first | refine g_sq ?_ | refine g_rg ?_ | refine g_r0 ?_ | refine g_ok rfl rfl ?_ | refine g_no rfl ?_ | refine g_no0 rfl ?_ | refine g_bk ?_ | refine g_b ?_ | refine g_sk ?_ | refine g_cT rfl ?_ | refine g_cF rfl ?_ | refine g_x rfl ?_ | refine g_lb ?_))
    refine g_rq rfl rfl ⟨by omega, by omega⟩ ?_
    rw [gd_at hlt]
    refine g_cl rfl rfl (r_may ?_)
    (repeat (first | refine g_sq ?_ | refine g_rg ?_ | refine g_r0 ?_ | refine g_ok rfl rfl ?_ | refine g_no rfl ?_ | refine g_no0 rfl ?_ | refine g_bk ?_ | refine g_b ?_ | refine g_sk ?_ | refine g_cT rfl ?_ | refine g_cF rfl ?_ | refine g_x rfl ?_ | refine g_lb ?_))
    cases hm : may s[k]
    · (repeat (first | refine g_sq ?_ | refine g_rg ?_ | refine g_r0 ?_ | refine g_ok rfl rfl ?_ | refine g_no rfl ?_ | refine g_no0 rfl ?_ | refine g_bk ?_ | refine g_b ?_ | refine g_sk ?_ | refine g_cT rfl ?_ | refine g_cF rfl ?_ | refine g_x rfl ?_ | refine g_lb ?_))
      refine g_ret (q_1 rfl (stop 1 (by decide) (fun i hi => ?_) ?_ _ hS))
      · have : i = 0 := by omega
        subst this; exact r0
      · simp only [rul, List.any_eq_true]
        exact ⟨s[k], List.getElem_mem _, by rw [hm]; rfl⟩
    · (repeat (first | refine g_sq ?_ | refine g_rg ?_ | refine g_r0 ?_ | refine g_ok rfl rfl ?_ | refine g_no rfl ?_ | refine g_no0 rfl ?_ | refine g_bk ?_ | refine g_b ?_ | refine g_sk ?_ | refine g_cT rfl ?_ | refine g_cF rfl ?_ | refine g_x rfl ?_ | refine g_lb ?_))
      refine g_rq rfl rfl (in64 (by simp only [arv]; omega)) ?_
      (repeat (first | refine g_sq ?_ | refine g_rg ?_ | refine g_r0 ?_ | refine g_ok rfl rfl ?_ | refine g_no rfl ?_ | refine g_no0 rfl ?_ | refine g_bk ?_ | refine g_b ?_ | refine g_sk ?_ | refine g_cT rfl ?_ | refine g_cF rfl ?_ | refine g_x rfl ?_ | refine g_lb ?_))
      refine g_l (k + 1) ⟨rfl, rfl, trivial⟩ ⟨by omega, fun j hj hjk => ?_, hS⟩ (by omega)
      by_cases e : j = k
      · subst e; exact hm
      · exact hP j hj (by omega)
  have r1 : rul 1 s = false := by
    simp only [rul]
    rw [List.any_eq_false]
    intro x hx
    obtain ⟨j, hj, rfl⟩ := List.getElem_of_mem hx
    rw [hP j hj (by omega)]
    decide
  have R1 : ∀ i, i < 2 → rul i s = false := fun i hi => by
    rcases i with _ | _ | i
    · exact r0
    · exact r1
    · omega
  (repeat (first | refine g_sq ?_ | refine g_rg ?_ | refine g_r0 ?_ | refine g_ok rfl rfl ?_ | refine g_no rfl ?_ | refine g_no0 rfl ?_ | refine g_bk ?_ | refine g_b ?_ | refine g_sk ?_ | refine g_cT rfl ?_ | refine g_cF rfl ?_ | refine g_x rfl ?_ | refine g_lb ?_))
  refine g_cl rfl rfl (r_parts (by omega) fun vp w1 h' => ?_)
  replace hS := hS.call0.2 _ _ h'
  replace hS : St w (fun _ => False) w1 [row vp 9 1 (prt s).length ((prt s).map sv)] := hS
  clear h' hP hk hlt
  have hpm : ((prt s).map sv).length = (prt s).length := List.length_map ..
  have hpl : (prt s).length ≤ 4294967280 := by
    have := Lib.countB_le ⟨#[47]⟩ (by decide) _ (⟨s.toArray⟩ : ByteArray) (Nat.le_refl _)
    have h2 : (prt s).length = Lib.countB ⟨s.toArray⟩ ⟨#[47]⟩ + 1 := by
      rw [prt, List.length_map]
      exact Lib.splitB_all _ (by decide) _ _ _ rfl
    omega
  obtain ⟨a, c, rfl⟩ := hS.rlen 0 rfl
  (repeat (first | refine g_sq ?_ | refine g_rg ?_ | refine g_r0 ?_ | refine g_ok rfl rfl ?_ | refine g_no rfl ?_ | refine g_no0 rfl ?_ | refine g_bk ?_ | refine g_b ?_ | refine g_sk ?_ | refine g_cT rfl ?_ | refine g_cF rfl ?_ | refine g_x rfl ?_ | refine g_lb ?_))
  refine g_lp (ι := Nat) (fun k => [(0, sv s), (5, .slice a (prt s).length c), (6, .int .i64 k)]) (fun k w' => k ≤ (prt s).length ∧ (∀ j (hj : j < (prt s).length), j < k → (prt s)[j] ≠ []) ∧ St w (fun _ => False) w' [row (.slice a (prt s).length c) 9 1 (prt s).length ((prt s).map sv)]) (fun k => (prt s).length - k) 0 ⟨rfl, rfl, rfl, trivial⟩ ⟨Nat.zero_le _, fun j _ h => absurd h (Nat.not_lt_zero j), hS⟩ ?_
  clear hS
  rintro k w1 ⟨hk, hP, hS⟩
  (repeat (first | refine g_sq ?_ | refine g_rg ?_ | refine g_r0 ?_ | refine g_ok rfl rfl ?_ | refine g_no rfl ?_ | refine g_no0 rfl ?_ | refine g_bk ?_ | refine g_b ?_ | refine g_sk ?_ | refine g_cT rfl ?_ | refine g_cF rfl ?_ | refine g_x rfl ?_ | refine g_lb ?_))
  (refine g_cd rfl (fun hlt => ?_) (fun hlt => ?_) <;> simp only [cmv, arv, Bool.not_eq_true', Bool.not_eq_false', decide_eq_true_eq, decide_eq_false_iff_not] at hlt)
  · have hlt : k < (prt s).length := by omega
    obtain ⟨b, off, cap, l, e1, hcap, hl, hx, hb⟩ := Rd.block (Ow.rd (hS.ok 0 _ rfl)) (by omega)
    cases e1
    (repeat (first | refine g_sq ?_ | refine g_rg ?_ | refine g_r0 ?_ | refine g_ok rfl rfl ?_ | refine g_no rfl ?_ | refine g_no0 rfl ?_ | refine g_bk ?_ | refine g_b ?_ | refine g_sk ?_ | refine g_cT rfl ?_ | refine g_cF rfl ?_ | refine g_x rfl ?_ | refine g_lb ?_))
    refine g_rq rfl rfl ⟨by omega, by omega⟩ ?_
    refine g_l1r rfl rfl hb (by rw [Int.toNat_natCast]; exact rd_x' hx hpm (by rw [hpm]; exact hlt)) ?_
    rw [List.getElem_map]
    (repeat (first | refine g_sq ?_ | refine g_rg ?_ | refine g_r0 ?_ | refine g_ok rfl rfl ?_ | refine g_no rfl ?_ | refine g_no0 rfl ?_ | refine g_bk ?_ | refine g_b ?_ | refine g_sk ?_ | refine g_cT rfl ?_ | refine g_cF rfl ?_ | refine g_x rfl ?_ | refine g_lb ?_))
    generalize hq : decide ((⟨(prt s)[k].toArray⟩ : ByteArray).data.toList = (⟨#[]⟩ : ByteArray).data.toList) = q
    have hq2 : decide ((prt s)[k] = []) = q := hq
    cases q
    · (repeat (first | refine g_sq ?_ | refine g_rg ?_ | refine g_r0 ?_ | refine g_ok rfl rfl ?_ | refine g_no rfl ?_ | refine g_no0 rfl ?_ | refine g_bk ?_ | refine g_b ?_ | refine g_sk ?_ | refine g_cT rfl ?_ | refine g_cF rfl ?_ | refine g_x rfl ?_ | refine g_lb ?_))
      refine g_rq rfl rfl (in64 (by simp only [arv]; omega)) ?_
      (repeat (first | refine g_sq ?_ | refine g_rg ?_ | refine g_r0 ?_ | refine g_ok rfl rfl ?_ | refine g_no rfl ?_ | refine g_no0 rfl ?_ | refine g_bk ?_ | refine g_b ?_ | refine g_sk ?_ | refine g_cT rfl ?_ | refine g_cF rfl ?_ | refine g_x rfl ?_ | refine g_lb ?_))
      refine g_l (k + 1) ⟨rfl, rfl, rfl, trivial⟩ ⟨by omega, fun j hj hjk => ?_, hS⟩ (by omega)
      by_cases e : j = k
      · subst e; exact of_decide_eq_false hq2
      · exact hP j hj (by omega)
    · (repeat (first | refine g_sq ?_ | refine g_rg ?_ | refine g_r0 ?_ | refine g_ok rfl rfl ?_ | refine g_no rfl ?_ | refine g_no0 rfl ?_ | refine g_bk ?_ | refine g_b ?_ | refine g_sk ?_ | refine g_cT rfl ?_ | refine g_cF rfl ?_ | refine g_x rfl ?_ | refine g_lb ?_))
      refine g_ret (q_1 rfl (stop 2 (by decide) R1 ?_ _ (hS.sel [] rfl rfl)))
      simp only [rul, List.any_eq_true]
      exact ⟨(prt s)[k], List.getElem_mem _, hq2⟩
  have hne : ∀ p ∈ prt s, p ≠ [] := fun p hp => by
    obtain ⟨j, hj, rfl⟩ := List.getElem_of_mem hp
    exact hP j hj (by omega)
  have r2 : rul 2 s = false := by
    simp only [rul]
    rw [List.any_eq_false]
    intro p hp
    rw [decide_eq_false (hne p hp)]
    decide
  have R2 : ∀ i, i < 3 → rul i s = false := fun i hi => by
    by_cases e : i = 2
    · subst e; exact r2
    · exact R1 i (by omega)
  clear hP hk hlt
  (repeat (first | refine g_sq ?_ | refine g_rg ?_ | refine g_r0 ?_ | refine g_ok rfl rfl ?_ | refine g_no rfl ?_ | refine g_no0 rfl ?_ | refine g_bk ?_ | refine g_b ?_ | refine g_sk ?_ | refine g_cT rfl ?_ | refine g_cF rfl ?_ | refine g_x rfl ?_ | refine g_lb ?_))
  refine g_lp (ι := Nat) (fun k => [(0, sv s), (5, .slice a (prt s).length c), (7, .int .i64 k)]) (fun k w' => k ≤ (prt s).length ∧ (∀ j (hj : j < (prt s).length), j < k → ([46] : Bs).isPrefixOf (prt s)[j] = false) ∧ St w (fun _ => False) w' [row (.slice a (prt s).length c) 9 1 (prt s).length ((prt s).map sv)]) (fun k => (prt s).length - k) 0 ⟨rfl, rfl, rfl, trivial⟩ ⟨Nat.zero_le _, fun j _ h => absurd h (Nat.not_lt_zero j), hS⟩ ?_
  clear hS
  rintro k w1 ⟨hk, hP, hS⟩
  (repeat (first | refine g_sq ?_ | refine g_rg ?_ | refine g_r0 ?_ | refine g_ok rfl rfl ?_ | refine g_no rfl ?_ | refine g_no0 rfl ?_ | refine g_bk ?_ | refine g_b ?_ | refine g_sk ?_ | refine g_cT rfl ?_ | refine g_cF rfl ?_ | refine g_x rfl ?_ | refine g_lb ?_))
  (refine g_cd rfl (fun hlt => ?_) (fun hlt => ?_) <;> simp only [cmv, arv, Bool.not_eq_true', Bool.not_eq_false', decide_eq_true_eq, decide_eq_false_iff_not] at hlt)
  · have hlt : k < (prt s).length := by omega
    have hpk : 0 < (prt s)[k].length := List.length_pos_iff.2 (hne _ (List.getElem_mem hlt))
    obtain ⟨b, off, cap, l, e1, hcap, hl, hx, hb⟩ := Rd.block (Ow.rd (hS.ok 0 _ rfl)) (by omega)
    cases e1
    (repeat (first | refine g_sq ?_ | refine g_rg ?_ | refine g_r0 ?_ | refine g_ok rfl rfl ?_ | refine g_no rfl ?_ | refine g_no0 rfl ?_ | refine g_bk ?_ | refine g_b ?_ | refine g_sk ?_ | refine g_cT rfl ?_ | refine g_cF rfl ?_ | refine g_x rfl ?_ | refine g_lb ?_))
    refine g_rq rfl rfl ⟨by omega, by omega⟩ ?_
    refine g_l1r rfl rfl hb (by rw [Int.toNat_natCast]; exact rd_x' hx hpm (by rw [hpm]; exact hlt)) ?_
    rw [List.getElem_map]
    (repeat (first | refine g_sq ?_ | refine g_rg ?_ | refine g_r0 ?_ | refine g_ok rfl rfl ?_ | refine g_no rfl ?_ | refine g_no0 rfl ?_ | refine g_bk ?_ | refine g_b ?_ | refine g_sk ?_ | refine g_cT rfl ?_ | refine g_cF rfl ?_ | refine g_x rfl ?_ | refine g_lb ?_))
    refine g_rq rfl rfl ⟨by omega, by show ((0 : Nat) : Int) < ((prt s)[k].length : Int); omega⟩ ?_
    rw [show (0 : Int) = ((0 : Nat) : Int) from rfl, gd_at hpk]
    (repeat (first | refine g_sq ?_ | refine g_rg ?_ | refine g_r0 ?_ | refine g_ok rfl rfl ?_ | refine g_no rfl ?_ | refine g_no0 rfl ?_ | refine g_bk ?_ | refine g_b ?_ | refine g_sk ?_ | refine g_cT rfl ?_ | refine g_cF rfl ?_ | refine g_x rfl ?_ | refine g_lb ?_))
    rw [show (46 : Int) = ((46 : Nat) : Int) from rfl, ceq_c (by decide)]
    cases hq : decide ((prt s)[k][0] = UInt8.ofNat 46)
    · have hq2 := of_decide_eq_false hq
      (repeat (first | refine g_sq ?_ | refine g_rg ?_ | refine g_r0 ?_ | refine g_ok rfl rfl ?_ | refine g_no rfl ?_ | refine g_no0 rfl ?_ | refine g_bk ?_ | refine g_b ?_ | refine g_sk ?_ | refine g_cT rfl ?_ | refine g_cF rfl ?_ | refine g_x rfl ?_ | refine g_lb ?_))
      refine g_rq rfl rfl (in64 (by simp only [arv]; omega)) ?_
      (repeat (first | refine g_sq ?_ | refine g_rg ?_ | refine g_r0 ?_ | refine g_ok rfl rfl ?_ | refine g_no rfl ?_ | refine g_no0 rfl ?_ | refine g_bk ?_ | refine g_b ?_ | refine g_sk ?_ | refine g_cT rfl ?_ | refine g_cF rfl ?_ | refine g_x rfl ?_ | refine g_lb ?_))
      refine g_l (k + 1) ⟨rfl, rfl, rfl, trivial⟩ ⟨by omega, fun j hj hjk => ?_, hS⟩ (by omega)
      by_cases e : j = k
      · subst e
        cases hp : ([46] : Bs).isPrefixOf (prt s)[j]
        · rfl
        · exact absurd ((dot_pre hpk).1 hp) hq2
      · exact hP j hj (by omega)
    · (repeat (first | refine g_sq ?_ | refine g_rg ?_ | refine g_r0 ?_ | refine g_ok rfl rfl ?_ | refine g_no rfl ?_ | refine g_no0 rfl ?_ | refine g_bk ?_ | refine g_b ?_ | refine g_sk ?_ | refine g_cT rfl ?_ | refine g_cF rfl ?_ | refine g_x rfl ?_ | refine g_lb ?_))
      refine g_ret (q_1 rfl (stop 3 (by decide) R2 ?_ _ (hS.sel [] rfl rfl)))
      simp only [rul, List.any_eq_true]
      exact ⟨(prt s)[k], List.getElem_mem _, (dot_pre hpk).2 (of_decide_eq_true hq)⟩
  have r3 : rul 3 s = false := by
    simp only [rul]
    rw [List.any_eq_false]
    intro p hp
    obtain ⟨j, hj, rfl⟩ := List.getElem_of_mem hp
    rw [hP j hj (by omega)]
    decide
  have R3 : ∀ i, i < 4 → rul i s = false := fun i hi => by
    by_cases e : i = 3
    · subst e; exact r3
    · exact R2 i (by omega)
  clear hP hk hlt
  (repeat (first | refine g_sq ?_ | refine g_rg ?_ | refine g_r0 ?_ | refine g_ok rfl rfl ?_ | refine g_no rfl ?_ | refine g_no0 rfl ?_ | refine g_bk ?_ | refine g_b ?_ | refine g_sk ?_ | refine g_cT rfl ?_ | refine g_cF rfl ?_ | refine g_x rfl ?_ | refine g_lb ?_))
  refine g_lp (ι := Nat) (fun k => [(0, sv s), (5, .slice a (prt s).length c), (8, .int .i64 ((k : Nat) + 1 : Nat))]) (fun k w' => k + 1 ≤ s.length ∧ (∀ j (hj : j + 1 < s.length), j < k → ¬ (s[j] = 46 ∧ s[j + 1] = 46)) ∧ St w (fun _ => False) w' [row (.slice a (prt s).length c) 9 1 (prt s).length ((prt s).map sv)]) (fun k => s.length - k) 0 ⟨rfl, rfl, rfl, trivial⟩ ⟨by omega, fun j _ h => absurd h (Nat.not_lt_zero j), hS⟩ ?_
  clear hS
  rintro k w1 ⟨hk, hP, hS⟩
  (repeat (first | refine g_sq ?_ | refine g_rg ?_ | refine g_r0 ?_ | refine g_ok rfl rfl ?_ | refine g_no rfl ?_ | refine g_no0 rfl ?_ | refine g_bk ?_ | refine g_b ?_ | refine g_sk ?_ | refine g_cT rfl ?_ | refine g_cF rfl ?_ | refine g_x rfl ?_ | refine g_lb ?_))
  rw [esz]
  (refine g_cd rfl (fun hlt => ?_) (fun hlt => ?_) <;> simp only [cmv, arv, Bool.not_eq_true', Bool.not_eq_false', decide_eq_true_eq, decide_eq_false_iff_not] at hlt)
  · have hlt : k + 1 < s.length := by omega
    have em : (arv BinOp.sub ((k + 1 : Nat) : Int) 1) = ((k : Nat) : Int) := by simp only [arv]; omega
    have next : ¬ (s[k] = 46 ∧ s[k + 1] = 46) → ∀ j (hj : j + 1 < s.length), j < k + 1 → ¬ (s[j] = 46 ∧ s[j + 1] = 46) := fun h0 j hj hjk => by
      by_cases e : j = k
      · subst e; exact h0
      · exact hP j hj (by omega)
    (repeat (first | refine g_sq ?_ | refine g_rg ?_ | refine g_r0 ?_ | refine g_ok rfl rfl ?_ | refine g_no rfl ?_ | refine g_no0 rfl ?_ | refine g_bk ?_ | refine g_b ?_ | refine g_sk ?_ | refine g_cT rfl ?_ | refine g_cF rfl ?_ | refine g_x rfl ?_ | refine g_lb ?_))
    refine g_rq rfl rfl ⟨by omega, by rw [hsl]; omega⟩ ?_
    rw [gd_at hlt]
    (repeat (first | refine g_sq ?_ | refine g_rg ?_ | refine g_r0 ?_ | refine g_ok rfl rfl ?_ | refine g_no rfl ?_ | refine g_no0 rfl ?_ | refine g_bk ?_ | refine g_b ?_ | refine g_sk ?_ | refine g_cT rfl ?_ | refine g_cF rfl ?_ | refine g_x rfl ?_ | refine g_lb ?_))
    rw [show (46 : Int) = ((46 : Nat) : Int) from rfl, ceq_c (by decide)]
    cases hq : decide (s[k + 1] = UInt8.ofNat 46)
    · have hq2 := of_decide_eq_false hq
      (repeat (first | refine g_sq ?_ | refine g_rg ?_ | refine g_r0 ?_ | refine g_ok rfl rfl ?_ | refine g_no rfl ?_ | refine g_no0 rfl ?_ | refine g_bk ?_ | refine g_b ?_ | refine g_sk ?_ | refine g_cT rfl ?_ | refine g_cF rfl ?_ | refine g_x rfl ?_ | refine g_lb ?_))
      refine g_rq rfl rfl (in64 (by simp only [arv]; omega)) ?_
      (repeat (first | refine g_sq ?_ | refine g_rg ?_ | refine g_r0 ?_ | refine g_ok rfl rfl ?_ | refine g_no rfl ?_ | refine g_no0 rfl ?_ | refine g_bk ?_ | refine g_b ?_ | refine g_sk ?_ | refine g_cT rfl ?_ | refine g_cF rfl ?_ | refine g_x rfl ?_ | refine g_lb ?_))
      exact g_l (k + 1) ⟨rfl, rfl, by show some (Value.int .i64 _) = some (Value.int .i64 _); congr 2, trivial⟩ ⟨by omega, next (fun h => hq2 h.2), hS⟩ (by omega)
    · have hq2 := of_decide_eq_true hq
      (repeat (first | refine g_sq ?_ | refine g_rg ?_ | refine g_r0 ?_ | refine g_ok rfl rfl ?_ | refine g_no rfl ?_ | refine g_no0 rfl ?_ | refine g_bk ?_ | refine g_b ?_ | refine g_sk ?_ | refine g_cT rfl ?_ | refine g_cF rfl ?_ | refine g_x rfl ?_ | refine g_lb ?_))
      refine g_rq rfl rfl (in64 (by rw [em]; omega)) ?_
      rw [em]
      refine g_rq rfl rfl ⟨by omega, by rw [hsl]; omega⟩ ?_
      rw [gd_at (show k < s.length by omega)]
      (repeat (first | refine g_sq ?_ | refine g_rg ?_ | refine g_r0 ?_ | refine g_ok rfl rfl ?_ | refine g_no rfl ?_ | refine g_no0 rfl ?_ | refine g_bk ?_ | refine g_b ?_ | refine g_sk ?_ | refine g_cT rfl ?_ | refine g_cF rfl ?_ | refine g_x rfl ?_ | refine g_lb ?_))
      rw [ceq_c (by decide)]
      cases hq3 : decide (s[k] = UInt8.ofNat 46)
      · have hq4 := of_decide_eq_false hq3
        (repeat (first | refine g_sq ?_ | refine g_rg ?_ | refine g_r0 ?_ | refine g_ok rfl rfl ?_ | refine g_no rfl ?_ | refine g_no0 rfl ?_ | refine g_bk ?_ | refine g_b ?_ | refine g_sk ?_ | refine g_cT rfl ?_ | refine g_cF rfl ?_ | refine g_x rfl ?_ | refine g_lb ?_))
        refine g_rq rfl rfl (in64 (by simp only [arv]; omega)) ?_
        (repeat (first | refine g_sq ?_ | refine g_rg ?_ | refine g_r0 ?_ | refine g_ok rfl rfl ?_ | refine g_no rfl ?_ | refine g_no0 rfl ?_ | refine g_bk ?_ | refine g_b ?_ | refine g_sk ?_ | refine g_cT rfl ?_ | refine g_cF rfl ?_ | refine g_x rfl ?_ | refine g_lb ?_))
        exact g_l (k + 1) ⟨rfl, rfl, by show some (Value.int .i64 _) = some (Value.int .i64 _); congr 2, trivial⟩ ⟨by omega, next (fun h => hq4 h.1), hS⟩ (by omega)
      · (repeat (first | refine g_sq ?_ | refine g_rg ?_ | refine g_r0 ?_ | refine g_ok rfl rfl ?_ | refine g_no rfl ?_ | refine g_no0 rfl ?_ | refine g_bk ?_ | refine g_b ?_ | refine g_sk ?_ | refine g_cT rfl ?_ | refine g_cF rfl ?_ | refine g_x rfl ?_ | refine g_lb ?_))
        refine g_ret (q_1 rfl (stop 4 (by decide) R3 ?_ _ (hS.sel [] rfl rfl)))
        simp only [rul]
        unfold Lib.contains
        rw [decide_eq_true_eq, cont2]
        refine ⟨k, ?_, ?_⟩
        · rw [List.getElem?_eq_getElem (by omega)]
          exact congrArg some (of_decide_eq_true hq3)
        · rw [List.getElem?_eq_getElem hlt]
          exact congrArg some hq2
  have r4 : rul 4 s = false := by
    simp only [rul]
    unfold Lib.contains
    rw [decide_eq_false_iff_not, cont2]
    rintro ⟨i, h1, h2⟩
    have hi := (List.getElem?_eq_some_iff.1 h2).1
    exact hP i hi (by omega) ⟨(List.getElem?_eq_some_iff.1 h1).2, (List.getElem?_eq_some_iff.1 h2).2⟩
  have R4 : ∀ i, i < 5 → rul i s = false := fun i hi => by
    by_cases e : i = 4
    · subst e; exact r4
    · exact R3 i (by omega)
  clear hP hk hlt
  (repeat (first | refine g_sq ?_ | refine g_rg ?_ | refine g_r0 ?_ | refine g_ok rfl rfl ?_ | refine g_no rfl ?_ | refine g_no0 rfl ?_ | refine g_bk ?_ | refine g_b ?_ | refine g_sk ?_ | refine g_cT rfl ?_ | refine g_cF rfl ?_ | refine g_x rfl ?_ | refine g_lb ?_))
  refine g_lp (ι := Nat) (fun k => [(0, sv s), (5, .slice a (prt s).length c), (9, .int .i64 k)]) (fun k w' => k ≤ (prt s).length ∧ (∀ j (hj : j < (prt s).length), j < k → ([46, 108, 111, 99, 107] : Bs).isSuffixOf (prt s)[j] = false) ∧ St w (fun _ => False) w' [row (.slice a (prt s).length c) 9 1 (prt s).length ((prt s).map sv)]) (fun k => (prt s).length - k) 0 ⟨rfl, rfl, rfl, trivial⟩ ⟨Nat.zero_le _, fun j _ h => absurd h (Nat.not_lt_zero j), hS⟩ ?_
  clear hS
  rintro k w1 ⟨hk, hP, hS⟩
  (repeat (first | refine g_sq ?_ | refine g_rg ?_ | refine g_r0 ?_ | refine g_ok rfl rfl ?_ | refine g_no rfl ?_ | refine g_no0 rfl ?_ | refine g_bk ?_ | refine g_b ?_ | refine g_sk ?_ | refine g_cT rfl ?_ | refine g_cF rfl ?_ | refine g_x rfl ?_ | refine g_lb ?_))
  (refine g_cd rfl (fun hlt => ?_) (fun hlt => ?_) <;> simp only [cmv, arv, Bool.not_eq_true', Bool.not_eq_false', decide_eq_true_eq, decide_eq_false_iff_not] at hlt)
  · have hlt : k < (prt s).length := by omega
    obtain ⟨b, off, cap, l, e1, hcap, hl, hx, hb⟩ := Rd.block (Ow.rd (hS.ok 0 _ rfl)) (by omega)
    cases e1
    have eszp : (⟨(prt s)[k].toArray⟩ : ByteArray).size = (prt s)[k].length := by rw [Lib.size_eq]
    have hpl : (prt s)[k].length ≤ s.length := prt_le (List.getElem_mem hlt)
    have next : ([46, 108, 111, 99, 107] : Bs).isSuffixOf (prt s)[k] = false → ∀ j (hj : j < (prt s).length), j < k + 1 → ([46, 108, 111, 99, 107] : Bs).isSuffixOf (prt s)[j] = false := fun h0 j hj hjk => by
      by_cases e : j = k
      · subst e; exact h0
      · exact hP j hj (by omega)
    (repeat (first | refine g_sq ?_ | refine g_rg ?_ | refine g_r0 ?_ | refine g_ok rfl rfl ?_ | refine g_no rfl ?_ | refine g_no0 rfl ?_ | refine g_bk ?_ | refine g_b ?_ | refine g_sk ?_ | refine g_cT rfl ?_ | refine g_cF rfl ?_ | refine g_x rfl ?_ | refine g_lb ?_))
    refine g_rq rfl rfl ⟨by omega, by omega⟩ ?_
    refine g_l1r rfl rfl hb (by rw [Int.toNat_natCast]; exact rd_x' hx hpm (by rw [hpm]; exact hlt)) ?_
    rw [List.getElem_map]
    (repeat (first | refine g_sq ?_ | refine g_rg ?_ | refine g_r0 ?_ | refine g_ok rfl rfl ?_ | refine g_no rfl ?_ | refine g_no0 rfl ?_ | refine g_bk ?_ | refine g_b ?_ | refine g_sk ?_ | refine g_cT rfl ?_ | refine g_cF rfl ?_ | refine g_x rfl ?_ | refine g_lb ?_))
    rw [eszp]
    (generalize q3 : cmv _ _ _ = q; cases q <;> simp only [cmv, arv, Bool.not_eq_true', Bool.not_eq_false', decide_eq_true_eq, decide_eq_false_iff_not] at q3 <;> first | (exfalso; omega) | skip)
    · (repeat (first | refine g_sq ?_ | refine g_rg ?_ | refine g_r0 ?_ | refine g_ok rfl rfl ?_ | refine g_no rfl ?_ | refine g_no0 rfl ?_ | refine g_bk ?_ | refine g_b ?_ | refine g_sk ?_ | refine g_cT rfl ?_ | refine g_cF rfl ?_ | refine g_x rfl ?_ | refine g_lb ?_))
      refine g_rq rfl rfl (in64 (by simp only [arv]; omega)) ?_
      (repeat (first | refine g_sq ?_ | refine g_rg ?_ | refine g_r0 ?_ | refine g_ok rfl rfl ?_ | refine g_no rfl ?_ | refine g_no0 rfl ?_ | refine g_bk ?_ | refine g_b ?_ | refine g_sk ?_ | refine g_cT rfl ?_ | refine g_cF rfl ?_ | refine g_x rfl ?_ | refine g_lb ?_))
      refine g_l (k + 1) ⟨rfl, rfl, rfl, trivial⟩ ⟨by omega, next ?_, hS⟩ (by omega)
      cases hp : ([46, 108, 111, 99, 107] : Bs).isSuffixOf (prt s)[k]
      · rfl
      · have := ((lock_suf _).1 hp).1
        omega
    · (repeat (first | refine g_sq ?_ | refine g_rg ?_ | refine g_r0 ?_ | refine g_ok rfl rfl ?_ | refine g_no rfl ?_ | refine g_no0 rfl ?_ | refine g_bk ?_ | refine g_b ?_ | refine g_sk ?_ | refine g_cT rfl ?_ | refine g_cF rfl ?_ | refine g_x rfl ?_ | refine g_lb ?_))
      refine g_rq rfl rfl ⟨by omega, by omega⟩ ?_
      refine g_l1r rfl rfl hb (by rw [Int.toNat_natCast]; exact rd_x' hx hpm (by rw [hpm]; exact hlt)) ?_
      rw [List.getElem_map]
      (repeat (first | refine g_sq ?_ | refine g_rg ?_ | refine g_r0 ?_ | refine g_ok rfl rfl ?_ | refine g_no rfl ?_ | refine g_no0 rfl ?_ | refine g_bk ?_ | refine g_b ?_ | refine g_sk ?_ | refine g_cT rfl ?_ | refine g_cF rfl ?_ | refine g_x rfl ?_ | refine g_lb ?_))
      refine g_rq rfl rfl (in64 (by simp only [arv]; omega)) ?_
      have em : (arv BinOp.sub ((prt s)[k].length : Int) 5).toNat = (prt s)[k].length - 5 := by simp only [arv]; omega
      refine g_rq rfl rfl ⟨by simp only [arv]; omega, by rw [eszp]; simp only [arv]; omega, by rw [eszp]; omega⟩ ?_
      rw [em, eszp, Int.toNat_natCast]
      have ex : (⟨(prt s)[k].toArray⟩ : ByteArray).extract ((prt s)[k].length - 5) (prt s)[k].length = ⟨((prt s)[k].drop ((prt s)[k].length - 5)).toArray⟩ := by
        have := sv_ext (prt s)[k] ((prt s)[k].length - 5) (prt s)[k].length
        rw [List.take_of_length_le (by rw [List.length_drop]; omega)] at this
        exact Value.string.inj this
      rw [ex]
      (repeat (first | refine g_sq ?_ | refine g_rg ?_ | refine g_r0 ?_ | refine g_ok rfl rfl ?_ | refine g_no rfl ?_ | refine g_no0 rfl ?_ | refine g_bk ?_ | refine g_b ?_ | refine g_sk ?_ | refine g_cT rfl ?_ | refine g_cF rfl ?_ | refine g_x rfl ?_ | refine g_lb ?_))
      generalize hq : decide ((⟨((prt s)[k].drop ((prt s)[k].length - 5)).toArray⟩ : ByteArray).data.toList = (⟨#[46, 108, 111, 99, 107]⟩ : ByteArray).data.toList) = q
      have hq2 : decide ((prt s)[k].drop ((prt s)[k].length - 5) = [46, 108, 111, 99, 107]) = q := hq
      cases q
      · (repeat (first | refine g_sq ?_ | refine g_rg ?_ | refine g_r0 ?_ | refine g_ok rfl rfl ?_ | refine g_no rfl ?_ | refine g_no0 rfl ?_ | refine g_bk ?_ | refine g_b ?_ | refine g_sk ?_ | refine g_cT rfl ?_ | refine g_cF rfl ?_ | refine g_x rfl ?_ | refine g_lb ?_))
        refine g_rq rfl rfl (in64 (by simp only [arv]; omega)) ?_
        (repeat (first | refine g_sq ?_ | refine g_rg ?_ | refine g_r0 ?_ | refine g_ok rfl rfl ?_ | refine g_no rfl ?_ | refine g_no0 rfl ?_ | refine g_bk ?_ | refine g_b ?_ | refine g_sk ?_ | refine g_cT rfl ?_ | refine g_cF rfl ?_ | refine g_x rfl ?_ | refine g_lb ?_))
        refine g_l (k + 1) ⟨rfl, rfl, rfl, trivial⟩ ⟨by omega, next ?_, hS⟩ (by omega)
        cases hp : ([46, 108, 111, 99, 107] : Bs).isSuffixOf (prt s)[k]
        · rfl
        · exact absurd ((lock_suf _).1 hp).2 (of_decide_eq_false hq2)
      · (repeat (first | refine g_sq ?_ | refine g_rg ?_ | refine g_r0 ?_ | refine g_ok rfl rfl ?_ | refine g_no rfl ?_ | refine g_no0 rfl ?_ | refine g_bk ?_ | refine g_b ?_ | refine g_sk ?_ | refine g_cT rfl ?_ | refine g_cF rfl ?_ | refine g_x rfl ?_ | refine g_lb ?_))
        refine g_ret (q_1 rfl (stop 5 (by decide) R4 ?_ _ (hS.sel [] rfl rfl)))
        simp only [rul, List.any_eq_true]
        exact ⟨(prt s)[k], List.getElem_mem _, (lock_suf _).2 ⟨by omega, of_decide_eq_true hq2⟩⟩
  have r5 : rul 5 s = false := by
    simp only [rul]
    rw [List.any_eq_false]
    intro p hp
    obtain ⟨j, hj, rfl⟩ := List.getElem_of_mem hp
    rw [hP j hj (by omega)]
    decide
  have R5 : ∀ i, i < 6 → rul i s = false := fun i hi => by
    by_cases e : i = 5
    · subst e; exact r5
    · exact R4 i (by omega)
  clear hP hk hlt
  have hs0 : 0 < s.length := by omega
  (repeat (first | refine g_sq ?_ | refine g_rg ?_ | refine g_r0 ?_ | refine g_ok rfl rfl ?_ | refine g_no rfl ?_ | refine g_no0 rfl ?_ | refine g_bk ?_ | refine g_b ?_ | refine g_sk ?_ | refine g_cT rfl ?_ | refine g_cF rfl ?_ | refine g_x rfl ?_ | refine g_lb ?_))
  rw [esz]
  have em : (arv BinOp.sub (s.length : Int) 1) = ((s.length - 1 : Nat) : Int) := by simp only [arv]; omega
  refine g_rq rfl rfl (in64 (by rw [em]; omega)) ?_
  rw [em]
  refine g_rq rfl rfl ⟨by omega, by rw [hsl]; omega⟩ ?_
  rw [gd_at (show s.length - 1 < s.length by omega)]
  (repeat (first | refine g_sq ?_ | refine g_rg ?_ | refine g_r0 ?_ | refine g_ok rfl rfl ?_ | refine g_no rfl ?_ | refine g_no0 rfl ?_ | refine g_bk ?_ | refine g_b ?_ | refine g_sk ?_ | refine g_cT rfl ?_ | refine g_cF rfl ?_ | refine g_x rfl ?_ | refine g_lb ?_))
  rw [show (46 : Int) = ((46 : Nat) : Int) from rfl, ceq_c (by decide)]
  cases hq : decide (s[s.length - 1] = UInt8.ofNat 46)
  rotate_left
  · (repeat (first | refine g_sq ?_ | refine g_rg ?_ | refine g_r0 ?_ | refine g_ok rfl rfl ?_ | refine g_no rfl ?_ | refine g_no0 rfl ?_ | refine g_bk ?_ | refine g_b ?_ | refine g_sk ?_ | refine g_cT rfl ?_ | refine g_cF rfl ?_ | refine g_x rfl ?_ | refine g_lb ?_))
    refine g_ret (q_1 rfl (stop 6 (by decide) R5 ?_ _ (hS.sel [] rfl rfl)))
    simp only [rul]
    exact (dot_suf hs0).2 (of_decide_eq_true hq)
  have r6 : rul 6 s = false := by
    simp only [rul]
    cases hp : ([46] : Bs).isSuffixOf s
    · rfl
    · exact absurd ((dot_suf hs0).1 hp) (of_decide_eq_false hq)
  have R6 : ∀ i, i < 7 → rul i s = false := fun i hi => by
    by_cases e : i = 6
    · subst e; exact r6
    · exact R5 i (by omega)
  (repeat (first | refine g_sq ?_ | refine g_rg ?_ | refine g_r0 ?_ | refine g_ok rfl rfl ?_ | refine g_no rfl ?_ | refine g_no0 rfl ?_ | refine g_bk ?_ | refine g_b ?_ | refine g_sk ?_ | refine g_cT rfl ?_ | refine g_cF rfl ?_ | refine g_x rfl ?_ | refine g_lb ?_))
  refine g_lp (ι := Nat) (fun k => [(0, sv s), (11, .int .i64 ((k : Nat) + 1 : Nat))]) (fun k w' => k + 1 ≤ s.length ∧ (∀ j (hj : j + 1 < s.length), j < k → ¬ (s[j] = 64 ∧ s[j + 1] = 123)) ∧ St w (fun _ => False) w' []) (fun k => s.length - k) 0 ⟨rfl, rfl, trivial⟩ ⟨by omega, fun j _ h => absurd h (Nat.not_lt_zero j), hS.sel [] rfl rfl⟩ ?_
  clear hS
  rintro k w1 ⟨hk, hP, hS⟩
  (repeat (first | refine g_sq ?_ | refine g_rg ?_ | refine g_r0 ?_ | refine g_ok rfl rfl ?_ | refine g_no rfl ?_ | refine g_no0 rfl ?_ | refine g_bk ?_ | refine g_b ?_ | refine g_sk ?_ | refine g_cT rfl ?_ | refine g_cF rfl ?_ | refine g_x rfl ?_ | refine g_lb ?_))
  rw [esz]
  (refine g_cd rfl (fun hlt => ?_) (fun hlt => ?_) <;> simp only [cmv, arv, Bool.not_eq_true', Bool.not_eq_false', decide_eq_true_eq, decide_eq_false_iff_not] at hlt)
  · have hlt : k + 1 < s.length := by omega
    have em : (arv BinOp.sub ((k + 1 : Nat) : Int) 1) = ((k : Nat) : Int) := by simp only [arv]; omega
    have next : ¬ (s[k] = 64 ∧ s[k + 1] = 123) → ∀ j (hj : j + 1 < s.length), j < k + 1 → ¬ (s[j] = 64 ∧ s[j + 1] = 123) := fun h0 j hj hjk => by
      by_cases e : j = k
      · subst e; exact h0
      · exact hP j hj (by omega)
    (repeat (first | refine g_sq ?_ | refine g_rg ?_ | refine g_r0 ?_ | refine g_ok rfl rfl ?_ | refine g_no rfl ?_ | refine g_no0 rfl ?_ | refine g_bk ?_ | refine g_b ?_ | refine g_sk ?_ | refine g_cT rfl ?_ | refine g_cF rfl ?_ | refine g_x rfl ?_ | refine g_lb ?_))
    refine g_rq rfl rfl ⟨by omega, by rw [hsl]; omega⟩ ?_
    rw [gd_at hlt]
    (repeat (first | refine g_sq ?_ | refine g_rg ?_ | refine g_r0 ?_ | refine g_ok rfl rfl ?_ | refine g_no rfl ?_ | refine g_no0 rfl ?_ | refine g_bk ?_ | refine g_b ?_ | refine g_sk ?_ | refine g_cT rfl ?_ | refine g_cF rfl ?_ | refine g_x rfl ?_ | refine g_lb ?_))
    rw [show (123 : Int) = ((123 : Nat) : Int) from rfl, ceq_c (by decide)]
    cases hq : decide (s[k + 1] = UInt8.ofNat 123)
    · have hq2 := of_decide_eq_false hq
      (repeat (first | refine g_sq ?_ | refine g_rg ?_ | refine g_r0 ?_ | refine g_ok rfl rfl ?_ | refine g_no rfl ?_ | refine g_no0 rfl ?_ | refine g_bk ?_ | refine g_b ?_ | refine g_sk ?_ | refine g_cT rfl ?_ | refine g_cF rfl ?_ | refine g_x rfl ?_ | refine g_lb ?_))
      refine g_rq rfl rfl (in64 (by simp only [arv]; omega)) ?_
      (repeat (first | refine g_sq ?_ | refine g_rg ?_ | refine g_r0 ?_ | refine g_ok rfl rfl ?_ | refine g_no rfl ?_ | refine g_no0 rfl ?_ | refine g_bk ?_ | refine g_b ?_ | refine g_sk ?_ | refine g_cT rfl ?_ | refine g_cF rfl ?_ | refine g_x rfl ?_ | refine g_lb ?_))
      exact g_l (k + 1) ⟨rfl, by show some (Value.int .i64 _) = some (Value.int .i64 _); congr 2, trivial⟩ ⟨by omega, next (fun h => hq2 h.2), hS⟩ (by omega)
    · have hq2 := of_decide_eq_true hq
      (repeat (first | refine g_sq ?_ | refine g_rg ?_ | refine g_r0 ?_ | refine g_ok rfl rfl ?_ | refine g_no rfl ?_ | refine g_no0 rfl ?_ | refine g_bk ?_ | refine g_b ?_ | refine g_sk ?_ | refine g_cT rfl ?_ | refine g_cF rfl ?_ | refine g_x rfl ?_ | refine g_lb ?_))
      refine g_rq rfl rfl (in64 (by rw [em]; omega)) ?_
      rw [em]
      refine g_rq rfl rfl ⟨by omega, by rw [hsl]; omega⟩ ?_
      rw [gd_at (show k < s.length by omega)]
      (repeat (first | refine g_sq ?_ | refine g_rg ?_ | refine g_r0 ?_ | refine g_ok rfl rfl ?_ | refine g_no rfl ?_ | refine g_no0 rfl ?_ | refine g_bk ?_ | refine g_b ?_ | refine g_sk ?_ | refine g_cT rfl ?_ | refine g_cF rfl ?_ | refine g_x rfl ?_ | refine g_lb ?_))
      rw [show (64 : Int) = ((64 : Nat) : Int) from rfl, ceq_c (by decide)]
      cases hq3 : decide (s[k] = UInt8.ofNat 64)
      · have hq4 := of_decide_eq_false hq3
        (repeat (first | refine g_sq ?_ | refine g_rg ?_ | refine g_r0 ?_ | refine g_ok rfl rfl ?_ | refine g_no rfl ?_ | refine g_no0 rfl ?_ | refine g_bk ?_ | refine g_b ?_ | refine g_sk ?_ | refine g_cT rfl ?_ | refine g_cF rfl ?_ | refine g_x rfl ?_ | refine g_lb ?_))
        refine g_rq rfl rfl (in64 (by simp only [arv]; omega)) ?_
        (repeat (first | refine g_sq ?_ | refine g_rg ?_ | refine g_r0 ?_ | refine g_ok rfl rfl ?_ | refine g_no rfl ?_ | refine g_no0 rfl ?_ | refine g_bk ?_ | refine g_b ?_ | refine g_sk ?_ | refine g_cT rfl ?_ | refine g_cF rfl ?_ | refine g_x rfl ?_ | refine g_lb ?_))
        exact g_l (k + 1) ⟨rfl, by show some (Value.int .i64 _) = some (Value.int .i64 _); congr 2, trivial⟩ ⟨by omega, next (fun h => hq4 h.1), hS⟩ (by omega)
      · (repeat (first | refine g_sq ?_ | refine g_rg ?_ | refine g_r0 ?_ | refine g_ok rfl rfl ?_ | refine g_no rfl ?_ | refine g_no0 rfl ?_ | refine g_bk ?_ | refine g_b ?_ | refine g_sk ?_ | refine g_cT rfl ?_ | refine g_cF rfl ?_ | refine g_x rfl ?_ | refine g_lb ?_))
        refine g_ret (q_1 rfl (stop 7 (by decide) R6 ?_ _ hS))
        simp only [rul]
        unfold Lib.contains
        rw [decide_eq_true_eq, cont2]
        refine ⟨k, ?_, ?_⟩
        · rw [List.getElem?_eq_getElem (by omega)]
          exact congrArg some (of_decide_eq_true hq3)
        · rw [List.getElem?_eq_getElem hlt]
          exact congrArg some hq2
  have r7 : rul 7 s = false := by
    simp only [rul]
    unfold Lib.contains
    rw [decide_eq_false_iff_not, cont2]
    rintro ⟨i, h1, h2⟩
    have hi := (List.getElem?_eq_some_iff.1 h2).1
    exact hP i hi (by omega) ⟨(List.getElem?_eq_some_iff.1 h1).2, (List.getElem?_eq_some_iff.1 h2).2⟩
  have e0 : brk s = 0 := brk_no8 fun i hi => by
    by_cases e : i = 7
    · subst e; exact r7
    · exact R6 i (by omega)
  rw [e0] at h
  (repeat (first | refine g_sq ?_ | refine g_rg ?_ | refine g_r0 ?_ | refine g_ok rfl rfl ?_ | refine g_no rfl ?_ | refine g_no0 rfl ?_ | refine g_bk ?_ | refine g_b ?_ | refine g_sk ?_ | refine g_cT rfl ?_ | refine g_cF rfl ?_ | refine g_x rfl ?_ | refine g_lb ?_))
  exact g_ret (q_1 rfl (h _ hS))
theorem r_Check4 (h : ∀ w', St w (fun _ => False) w' [] → K (.int .i64 (nmE s)) w') : CK Tryd.prog 18 [sv s] w K := by
  refine call_k Tryd.func18 k18 Tryd.ntmps18 (Nat.le_of_ble_eq_true rfl) ?_
  (repeat (first | refine g_sq ?_ | refine g_rg ?_ | refine g_r0 ?_ | refine g_ok rfl rfl ?_ | refine g_no rfl ?_ | refine g_no0 rfl ?_ | refine g_bk ?_ | refine g_b ?_ | refine g_sk ?_ | refine g_cT rfl ?_ | refine g_cF rfl ?_ | refine g_x rfl ?_ | refine g_lb ?_))
  refine g_cl rfl rfl (r_Breaks fun w1 hS => ?_)
  (repeat (first | refine g_sq ?_ | refine g_rg ?_ | refine g_r0 ?_ | refine g_ok rfl rfl ?_ | refine g_no rfl ?_ | refine g_no0 rfl ?_ | refine g_bk ?_ | refine g_b ?_ | refine g_sk ?_ | refine g_cT rfl ?_ | refine g_cF rfl ?_ | refine g_x rfl ?_ | refine g_lb ?_))
  by_cases e : brk s = 0
  · rw [show nmE s = 0 by unfold nmE; rw [if_pos e]] at h
    rw [e]
    (repeat (first | refine g_sq ?_ | refine g_rg ?_ | refine g_r0 ?_ | refine g_ok rfl rfl ?_ | refine g_no rfl ?_ | refine g_no0 rfl ?_ | refine g_bk ?_ | refine g_b ?_ | refine g_sk ?_ | refine g_cT rfl ?_ | refine g_cF rfl ?_ | refine g_x rfl ?_ | refine g_lb ?_))
    exact g_ret (q_1 rfl (h _ hS))
  · have e1 : nmE s = 40 := by unfold nmE; rw [if_neg e]
    rw [e1] at h
    rw [show cmv BinOp.gtr (brk s : Int) 0 = true by simp only [cmv, decide_eq_true_eq]; omega]
    (repeat (first | refine g_sq ?_ | refine g_rg ?_ | refine g_r0 ?_ | refine g_ok rfl rfl ?_ | refine g_no rfl ?_ | refine g_no0 rfl ?_ | refine g_bk ?_ | refine g_b ?_ | refine g_sk ?_ | refine g_cT rfl ?_ | refine g_cF rfl ?_ | refine g_x rfl ?_ | refine g_lb ?_))
    exact g_ret (q_1 rfl (h _ hS))
end
end Go.Proofs.YtbdpcpafjphmpaaDoor
