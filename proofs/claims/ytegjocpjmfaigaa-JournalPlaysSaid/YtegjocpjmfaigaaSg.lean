/- The statements of the device: torn. -/
import Derived.Test.YtegjocpjmfaigaaSe
set_option linter.unusedSimpArgs false
set_option linter.unusedVariables false
namespace Go.Proofs.Ytegjocpjmfaigaa
open Go.En

theorem str_cut (l : List UInt8) (a b : Nat) : (⟨l.toArray⟩ : ByteArray).extract a b = ⟨((l.drop a).take (b - a)).toArray⟩ := by
  apply ByteArray.ext
  rw [ByteArray.data_extract]
  apply Array.ext'
  simp [List.extract_eq_take_drop]
/-- but for one block they are the same, and that one begins with a text -/
def Torn (got was : List (List UInt8)) (i : Int) (tx : List UInt8) : Prop :=
  (∀ j : Nat, j < got.length → (j : Int) ≠ i → got[j]? = was[j]?) ∧ (i < 0 ∨ ∃ m : Nat, m ≤ 128 ∧ got.getD i.toNat [] = tx.take m ++ (was.getD i.toNat []).drop m)
section
variable {w w0 : World} {S0 S : Nat → Prop} {K : Value → World → Prop} {b : Nat} {D : Dev} {B L : List Res}
theorem _root_.Go.En.Rd.cellr {v : Value} {E n k : Nat} {xs : List Value} (h : Rd v E 1 n xs w) (hk : k < n) : ∃ b off cap l, v = .slice (some ⟨b, off, none⟩) n cap ∧ n ≤ cap ∧ Blr w b l E ∧ l[off + k * 1]? = xs[k]? := by
  obtain ⟨b, off, cap, l, hv, hn, hl, hx, hB⟩ := Rd.block h (by omega)
  refine ⟨b, off, cap, l, hv, hn, hB, ?_⟩
  rw [← hx, Nat.mul_one, Nat.mul_one, List.getElem?_take_of_lt hk, List.getElem?_drop]
theorem c30 {n : Nat} {got was : List (List UInt8)} {i : Int} {tx : List UInt8} {vg vw : Value} (hS : St w0 S0 w L) (hg : Rd vg 9 1 n (sts got) w) (hw : Rd vw 9 1 n (sts was) w) (hn : n ≤ 4096) (hwl : ∀ s ∈ was, s.length = 128) (hi : i < n) (ht : 0 ≤ i → tx.length = 128)
    (h : ∀ t w', St w0 S0 w' L → (Torn got was i tx → t = true) → K (.bool t) w') : CK Try.prog 30 [vg, vw, .int .i64 i, sv tx] w K := by
  have lg : got.length = n := by have := hg.len; rw [sts_len] at this; omega
  have lw : was.length = n := by have := hw.len; rw [sts_len] at this; omega
  obtain ⟨ag, cg, rfl⟩ := Rd.form hg
  obtain ⟨aw, cw, rfl⟩ := Rd.form hw
  refine call_k Try.func30 k30 Try.ntmps30 (Nat.le_of_ble_eq_true rfl) ?_
  (repeat (first | refine g_sq ?_ | refine g_rg ?_ | refine g_r0 ?_ | refine g_ok rfl rfl ?_ | refine g_no rfl ?_ | refine g_no0 rfl ?_ | refine g_bk ?_ | refine g_b ?_ | refine g_sk ?_ | refine g_cT rfl ?_ | refine g_cF rfl ?_ | refine g_x rfl ?_ | refine g_lb ?_))
  refine g_lp (ι := Nat) (fun k => [(0, .slice ag n cg), (1, .slice aw n cw), (2, .int .i64 i), (3, sv tx), (12, .int .i64 n), (13, .int .i64 k)])
    (fun k w => k ≤ n ∧ (∀ j : Nat, j < k → (j : Int) ≠ i → got[j]? = was[j]?) ∧ St w0 S0 w L ∧ Rd (.slice ag n cg) 9 1 n (sts got) w ∧ Rd (.slice aw n cw) 9 1 n (sts was) w) (fun k => n - k) 0 ⟨rfl, rfl, rfl, rfl, rfl, rfl, trivial⟩ ⟨Nat.zero_le _, fun j hj => absurd hj (Nat.not_lt_zero j), hS, hg, hw⟩ ?_
  clear hS hg hw
  rintro k w ⟨hk, hsame, hS, hg, hw⟩
  (repeat (first | refine g_sq ?_ | refine g_rg ?_ | refine g_r0 ?_ | refine g_ok rfl rfl ?_ | refine g_no rfl ?_ | refine g_no0 rfl ?_ | refine g_bk ?_ | refine g_b ?_ | refine g_sk ?_ | refine g_cT rfl ?_ | refine g_cF rfl ?_ | refine g_x rfl ?_ | refine g_lb ?_))
  refine g_cd rfl (fun hc => ?_) (fun hc => ?_)
  all_goals simp only [cmv, decide_eq_true_eq, decide_eq_false_iff_not] at hc
  · have hkn : k < n := by omega
    obtain ⟨b1, o1, c1, l1, e1, _, hB1, hx1⟩ := hg.cellr hkn
    obtain ⟨b2, o2, c2, l2, e2, _, hB2, hx2⟩ := hw.cellr hkn
    cases e1; cases e2
    obtain ⟨s1, hs1⟩ : ∃ s, got[k]? = some s := ⟨_, List.getElem?_eq_getElem (by omega)⟩
    obtain ⟨s2, hs2⟩ : ∃ s, was[k]? = some s := ⟨_, List.getElem?_eq_getElem (by omega)⟩
    rw [sts_get hs1] at hx1
    rw [sts_get hs2] at hx2
    have hg := hg.same (w' := w.drew) fun _ _ => rfl
    have hw := hw.same (w' := w.drew) fun _ _ => rfl
    (repeat (first | refine g_sq ?_ | refine g_rg ?_ | refine g_r0 ?_ | refine g_ok rfl rfl ?_ | refine g_no rfl ?_ | refine g_no0 rfl ?_ | refine g_bk ?_ | refine g_b ?_ | refine g_sk ?_ | refine g_cT rfl ?_ | refine g_cF rfl ?_ | refine g_x rfl ?_ | refine g_lb ?_))
    refine g_dr mixed ?_
    have hS := hS.drew
    (repeat (first | refine d_ok rfl rfl rfl ?_ | refine d_no rfl rfl ?_))
    generalize hq : cmv BinOp.neq (k : Int) i = q
    cases q
    all_goals simp only [cmv, Bool.not_eq_true', Bool.not_eq_false', decide_eq_true_eq, decide_eq_false_iff_not] at hq
    · (repeat (first | refine d_ok rfl rfl rfl ?_ | refine d_no rfl rfl ?_))
      refine d_fin ?_
      (repeat (first | refine g_sq ?_ | refine g_rg ?_ | refine g_r0 ?_ | refine g_ok rfl rfl ?_ | refine g_no rfl ?_ | refine g_no0 rfl ?_ | refine g_bk ?_ | refine g_b ?_ | refine g_sk ?_ | refine g_cT rfl ?_ | refine g_cF rfl ?_ | refine g_x rfl ?_ | refine g_lb ?_))
      refine g_rq rfl rfl (in64 (by simp only [arv]; omega)) ?_
      (repeat (first | refine g_sq ?_ | refine g_rg ?_ | refine g_r0 ?_ | refine g_ok rfl rfl ?_ | refine g_no rfl ?_ | refine g_no0 rfl ?_ | refine g_bk ?_ | refine g_b ?_ | refine g_sk ?_ | refine g_cT rfl ?_ | refine g_cF rfl ?_ | refine g_x rfl ?_ | refine g_lb ?_))
      refine g_l (k + 1) ⟨rfl, rfl, rfl, rfl, rfl, rfl, trivial⟩ ⟨by omega, fun j hj hne => ?_, hS, hg, hw⟩ (by omega)
      exact hsame j (by rcases Nat.lt_or_ge j k with h | h <;> omega) hne
    · (repeat (first | refine d_ok rfl rfl rfl ?_ | refine d_no rfl rfl ?_))
      refine d_rq rfl rfl rfl ⟨by omega, by omega⟩ ?_
      refine d_l1r rfl rfl rfl hB1 hx1 ?_
      (repeat (first | refine d_ok rfl rfl rfl ?_ | refine d_no rfl rfl ?_))
      refine d_rq rfl rfl rfl ⟨by omega, by omega⟩ ?_
      refine d_l1r rfl rfl rfl hB2 hx2 ?_
      (repeat (first | refine d_ok rfl rfl rfl ?_ | refine d_no rfl rfl ?_))
      refine d_fin ?_
      refine g_cd rfl (fun hz => ?_) (fun hz => ?_)
      · (repeat (first | refine g_sq ?_ | refine g_rg ?_ | refine g_r0 ?_ | refine g_ok rfl rfl ?_ | refine g_no rfl ?_ | refine g_no0 rfl ?_ | refine g_bk ?_ | refine g_b ?_ | refine g_sk ?_ | refine g_cT rfl ?_ | refine g_cF rfl ?_ | refine g_x rfl ?_ | refine g_lb ?_))
        refine g_ret (q_1 rfl (h _ _ hS fun hT => ?_))
        have := hT.1 k (by omega) hq
        rw [hs1, hs2] at this
        cases this
        simp at hz
      · have hz : s1 = s2 := by simpa using hz
        (repeat (first | refine g_sq ?_ | refine g_rg ?_ | refine g_r0 ?_ | refine g_ok rfl rfl ?_ | refine g_no rfl ?_ | refine g_no0 rfl ?_ | refine g_bk ?_ | refine g_b ?_ | refine g_sk ?_ | refine g_cT rfl ?_ | refine g_cF rfl ?_ | refine g_x rfl ?_ | refine g_lb ?_))
        refine g_rq rfl rfl (in64 (by simp only [arv]; omega)) ?_
        (repeat (first | refine g_sq ?_ | refine g_rg ?_ | refine g_r0 ?_ | refine g_ok rfl rfl ?_ | refine g_no rfl ?_ | refine g_no0 rfl ?_ | refine g_bk ?_ | refine g_b ?_ | refine g_sk ?_ | refine g_cT rfl ?_ | refine g_cF rfl ?_ | refine g_x rfl ?_ | refine g_lb ?_))
        refine g_l (k + 1) ⟨rfl, rfl, rfl, rfl, rfl, rfl, trivial⟩ ⟨by omega, fun j hj hne => ?_, hS, hg, hw⟩ (by omega)
        by_cases e : j = k
        · subst e; rw [hs1, hs2, hz]
        · exact hsame j (by omega) hne
  · (repeat (first | refine g_sq ?_ | refine g_rg ?_ | refine g_r0 ?_ | refine g_ok rfl rfl ?_ | refine g_no rfl ?_ | refine g_no0 rfl ?_ | refine g_bk ?_ | refine g_b ?_ | refine g_sk ?_ | refine g_cT rfl ?_ | refine g_cF rfl ?_ | refine g_x rfl ?_ | refine g_lb ?_))
    refine g_cd rfl (fun hz => ?_) (fun hz => ?_)
    all_goals simp only [cmv, decide_eq_true_eq, decide_eq_false_iff_not] at hz
    · (repeat (first | refine g_sq ?_ | refine g_rg ?_ | refine g_r0 ?_ | refine g_ok rfl rfl ?_ | refine g_no rfl ?_ | refine g_no0 rfl ?_ | refine g_bk ?_ | refine g_b ?_ | refine g_sk ?_ | refine g_cT rfl ?_ | refine g_cF rfl ?_ | refine g_x rfl ?_ | refine g_lb ?_))
      exact g_ret (q_1 rfl (h _ _ hS fun _ => rfl))
    · have hin : i.toNat < n := by omega
      have hii : ((i.toNat : Nat) : Int) = i := by omega
      have htx := ht (by omega)
      obtain ⟨s1, hs1⟩ : ∃ s, got[i.toNat]? = some s := ⟨_, List.getElem?_eq_getElem (by omega)⟩
      obtain ⟨s2, hs2⟩ : ∃ s, was[i.toNat]? = some s := ⟨_, List.getElem?_eq_getElem (by omega)⟩
      have hl2 := hwl s2 (List.mem_of_getElem? hs2)
      (repeat (first | refine g_sq ?_ | refine g_rg ?_ | refine g_r0 ?_ | refine g_ok rfl rfl ?_ | refine g_no rfl ?_ | refine g_no0 rfl ?_ | refine g_bk ?_ | refine g_b ?_ | refine g_sk ?_ | refine g_cT rfl ?_ | refine g_cF rfl ?_ | refine g_x rfl ?_ | refine g_lb ?_))
      refine g_lp (ι := Nat) (fun m => [(0, .slice ag n cg), (1, .slice aw n cw), (2, .int .i64 i), (3, sv tx), (10, .int .i64 m)])
        (fun m w => m ≤ 129 ∧ (∀ j : Nat, j < m → s1 ≠ tx.take j ++ s2.drop j) ∧ St w0 S0 w L ∧ Rd (.slice ag n cg) 9 1 n (sts got) w ∧ Rd (.slice aw n cw) 9 1 n (sts was) w) (fun m => 129 - m) 0 ⟨rfl, rfl, rfl, rfl, rfl, trivial⟩ ⟨by omega, fun j hj => absurd hj (Nat.not_lt_zero j), hS, hg, hw⟩ ?_
      clear hS hg hw
      rintro m w ⟨hm, hno, hS, hg, hw⟩
      (repeat (first | refine g_sq ?_ | refine g_rg ?_ | refine g_r0 ?_ | refine g_ok rfl rfl ?_ | refine g_no rfl ?_ | refine g_no0 rfl ?_ | refine g_bk ?_ | refine g_b ?_ | refine g_sk ?_ | refine g_cT rfl ?_ | refine g_cF rfl ?_ | refine g_x rfl ?_ | refine g_lb ?_))
      refine g_cd rfl (fun hz => ?_) (fun hz => ?_)
      all_goals simp only [cmv, decide_eq_true_eq, decide_eq_false_iff_not] at hz
      · obtain ⟨b1, o1, c1, l1, e1, _, hB1, hx1⟩ := hg.cellr hin
        obtain ⟨b2, o2, c2, l2, e2, _, hB2, hx2⟩ := hw.cellr hin
        cases e1; cases e2
        rw [sts_get hs1] at hx1
        rw [sts_get hs2] at hx2
        have hg := hg.same (w' := w.drew) fun _ _ => rfl
        have hw := hw.same (w' := w.drew) fun _ _ => rfl
        have hsz1 : (⟨tx.toArray⟩ : ByteArray).size = tx.length := rfl
        have hsz2 : (⟨s2.toArray⟩ : ByteArray).size = s2.length := rfl
        (repeat (first | refine g_sq ?_ | refine g_rg ?_ | refine g_r0 ?_ | refine g_ok rfl rfl ?_ | refine g_no rfl ?_ | refine g_no0 rfl ?_ | refine g_bk ?_ | refine g_b ?_ | refine g_sk ?_ | refine g_cT rfl ?_ | refine g_cF rfl ?_ | refine g_x rfl ?_ | refine g_lb ?_))
        refine g_dr mixed ?_
        have hS := hS.drew
        (repeat (first | refine d_ok rfl rfl rfl ?_ | refine d_no rfl rfl ?_))
        refine d_rq rfl rfl rfl ⟨by omega, by omega⟩ ?_
        refine d_l1r rfl rfl rfl hB1 hx1 ?_
        (repeat (first | refine d_ok rfl rfl rfl ?_ | refine d_no rfl rfl ?_))
        refine d_rq rfl rfl rfl ⟨by omega, by omega, by rw [hsz1]; omega⟩ ?_
        (repeat (first | refine d_ok rfl rfl rfl ?_ | refine d_no rfl rfl ?_))
        refine d_rq rfl rfl rfl ⟨by omega, by omega⟩ ?_
        refine d_l1r rfl rfl rfl hB2 hx2 ?_
        (repeat (first | refine d_ok rfl rfl rfl ?_ | refine d_no rfl rfl ?_))
        refine d_rq rfl rfl rfl ⟨by omega, by rw [hsz2]; omega, Int.le_refl _⟩ ?_
        rw [str_cut, str_cut]
        have e3 : List.take ((m : Int).toNat - ((0 : Nat) : Int).toNat) (List.drop ((0 : Nat) : Int).toNat tx) = tx.take m := by simp
        have e4 : List.take (((⟨s2.toArray⟩ : ByteArray).size : Int).toNat - (m : Int).toNat) (List.drop (m : Int).toNat s2) = s2.drop m := by
          rw [hsz2, List.take_of_length_le (by simp)]; rfl
        rw [e3, e4]
        refine d_rq rfl rfl rfl ?_ ?_
        · show (tx.take m).length + (s2.drop m).length ≤ _
          rw [List.length_take, List.length_drop]; omega
        rw [str_app]
        (repeat (first | refine d_ok rfl rfl rfl ?_ | refine d_no rfl rfl ?_))
        refine d_fin ?_
        refine g_cd rfl (fun hz => ?_) (fun hz => ?_)
        · (repeat (first | refine g_sq ?_ | refine g_rg ?_ | refine g_r0 ?_ | refine g_ok rfl rfl ?_ | refine g_no rfl ?_ | refine g_no0 rfl ?_ | refine g_bk ?_ | refine g_b ?_ | refine g_sk ?_ | refine g_cT rfl ?_ | refine g_cF rfl ?_ | refine g_x rfl ?_ | refine g_lb ?_))
          exact g_ret (q_1 rfl (h _ _ hS fun _ => rfl))
        · have hz : ¬ s1 = tx.take m ++ s2.drop m := by simpa using hz
          (repeat (first | refine g_sq ?_ | refine g_rg ?_ | refine g_r0 ?_ | refine g_ok rfl rfl ?_ | refine g_no rfl ?_ | refine g_no0 rfl ?_ | refine g_bk ?_ | refine g_b ?_ | refine g_sk ?_ | refine g_cT rfl ?_ | refine g_cF rfl ?_ | refine g_x rfl ?_ | refine g_lb ?_))
          refine g_rq rfl rfl (in64 (by simp only [arv]; omega)) ?_
          (repeat (first | refine g_sq ?_ | refine g_rg ?_ | refine g_r0 ?_ | refine g_ok rfl rfl ?_ | refine g_no rfl ?_ | refine g_no0 rfl ?_ | refine g_bk ?_ | refine g_b ?_ | refine g_sk ?_ | refine g_cT rfl ?_ | refine g_cF rfl ?_ | refine g_x rfl ?_ | refine g_lb ?_))
          refine g_l (m + 1) ⟨rfl, rfl, rfl, rfl, rfl, trivial⟩ ⟨by omega, fun j hj => ?_, hS, hg, hw⟩ (by omega)
          by_cases e : j = m
          · subst e; exact hz
          · exact hno j (by omega)
      · (repeat (first | refine g_sq ?_ | refine g_rg ?_ | refine g_r0 ?_ | refine g_ok rfl rfl ?_ | refine g_no rfl ?_ | refine g_no0 rfl ?_ | refine g_bk ?_ | refine g_b ?_ | refine g_sk ?_ | refine g_cT rfl ?_ | refine g_cF rfl ?_ | refine g_x rfl ?_ | refine g_lb ?_))
        refine g_ret (q_1 rfl (h _ _ hS fun hT => ?_))
        rcases hT.2 with h' | ⟨m', hm', e⟩
        · omega
        · rw [List.getD_eq_getElem?_getD, List.getD_eq_getElem?_getD, hs1, hs2] at e
          exact absurd e (hno m' (by omega))
end
end Go.Proofs.Ytegjocpjmfaigaa
