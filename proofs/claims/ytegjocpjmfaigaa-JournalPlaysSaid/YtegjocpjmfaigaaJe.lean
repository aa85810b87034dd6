/- The journal: what can be asked of it. -/
import Derived.Test.YtegjocpjmfaigaaJd
set_option linter.unusedSimpArgs false
set_option linter.unusedVariables false
namespace Go.Proofs.Ytegjocpjmfaigaa
open Go.En

def Jou.first (J : Jou) : Nat := match J.l with | [] => 0 | g :: _ => g.n
def lastOf (l : List Grp) : Nat := match l.getLast? with | none => 0 | some g => g.n
def Jou.last (J : Jou) : Nat := lastOf J.l
def Jou.begin (J : Jou) (n : Nat) : Jou := { J with l := [], next := n }
section
variable {w w0 : World} {S0 S : Nat → Prop} {K : Value → World → Prop} {jb d fr bk : Nat} {J : Jou} {B L : List Res} {vl : Value} {Z : GZ}
theorem JouR.blk (hS : St w0 S0 w (JouR S jb d fr bk J :: B)) : J.wf bk ∧ bk ≤ 4096 ∧ fr ≤ 4096 ∧ ∃ vl, Blk w jb (JouC (dp d) fr bk vl J) 94 := by
  obtain ⟨vl, Z, h1, h2, h3, _, hS⟩ := JouR.opn hS
  exact ⟨h1, h2, h3, vl, hS.b 0 rfl⟩
theorem c43 (hS : St w0 S0 w (JouR S jb d fr bk J :: B)) (h : ∀ w' S', St w0 S0 w' (JouR S' jb d fr bk J :: B) → K (.int .i64 J.used) w') : CK Try.prog 43 [dp jb] w K := by
  obtain ⟨vl, Z, h1, h2, h3, h4, hS⟩ := JouR.opn hS
  refine u43 h4 (gp_form hS 2 rfl) (by have := h1.1; omega) hS fun w' hS => ?_
  obtain ⟨S', hS⟩ := JouR.cls h1 h2 h3 h4 hS
  exact h _ _ hS
theorem c41 (hS : St w0 S0 w (JouR S jb d fr bk J :: B)) (h : ∀ w' S', St w0 S0 w' (JouR S' jb d fr bk J :: B) → K (.int .i64 ((bk - J.used : Nat) : Int)) w') : CK Try.prog 41 [dp jb] w K := by
  obtain ⟨hw, hb, hf, vl, hB⟩ := JouR.blk hS
  have hu := hw.1
  refine call_k Try.func41 k41 Try.ntmps41 (Nat.le_of_ble_eq_true rfl) ?_
  (repeat (first | refine g_sq ?_ | refine g_rg ?_ | refine g_r0 ?_ | refine g_ok rfl rfl ?_ | refine g_no rfl ?_ | refine g_no0 rfl ?_ | refine g_bk ?_ | refine g_b ?_ | refine g_sk ?_ | refine g_cT rfl ?_ | refine g_cF rfl ?_ | refine g_x rfl ?_ | refine g_lb ?_))
  refine g_cl rfl rfl (b91 hB ?_)
  (repeat (first | refine g_sq ?_ | refine g_rg ?_ | refine g_r0 ?_ | refine g_ok rfl rfl ?_ | refine g_no rfl ?_ | refine g_no0 rfl ?_ | refine g_bk ?_ | refine g_b ?_ | refine g_sk ?_ | refine g_cT rfl ?_ | refine g_cF rfl ?_ | refine g_x rfl ?_ | refine g_lb ?_))
  refine g_dr mixed ?_
  have hS := hS.drew
  obtain ⟨_, _, _, vl, hB⟩ := JouR.blk hS
  (repeat (first | refine d_ok rfl rfl rfl ?_ | refine d_no rfl rfl ?_))
  refine d_l1 rfl rfl rfl hB rfl ?_
  (repeat (first | refine d_ok rfl rfl rfl ?_ | refine d_no rfl rfl ?_))
  refine d_cl rfl rfl rfl (c43 hS fun w' S' hS => ?_)
  obtain ⟨_, _, _, vl', hB'⟩ := JouR.blk hS
  refine ⟨rc_1 rfl rfl rfl rfl hB' rfl rc_0, ?_⟩
  refine d_rq rfl rfl rfl (in64 (by simp only [arv]; omega)) ?_
  (repeat (first | refine d_ok rfl rfl rfl ?_ | refine d_no rfl rfl ?_))
  refine d_fin ?_
  (repeat (first | refine g_sq ?_ | refine g_rg ?_ | refine g_r0 ?_ | refine g_ok rfl rfl ?_ | refine g_no rfl ?_ | refine g_no0 rfl ?_ | refine g_bk ?_ | refine g_b ?_ | refine g_sk ?_ | refine g_cT rfl ?_ | refine g_cF rfl ?_ | refine g_x rfl ?_ | refine g_lb ?_))
  have e : arv BinOp.sub (bk : Int) (J.used : Int) = ((bk - J.used : Nat) : Int) := by simp only [arv]; omega
  rw [e]
  exact g_ret (q_1 rfl (h _ _ hS))
theorem c45 (hS : St w0 S0 w (JouR S jb d fr bk J :: B)) (h : K (.int .i64 J.next) w) : CK Try.prog 45 [dp jb] w K := by
  obtain ⟨hw, hb, hf, vl, hB⟩ := JouR.blk hS
  refine call_k Try.func45 k45 Try.ntmps45 (Nat.le_of_ble_eq_true rfl) ?_
  (repeat (first | refine g_sq ?_ | refine g_rg ?_ | refine g_r0 ?_ | refine g_ok rfl rfl ?_ | refine g_no rfl ?_ | refine g_no0 rfl ?_ | refine g_bk ?_ | refine g_b ?_ | refine g_sk ?_ | refine g_cT rfl ?_ | refine g_cF rfl ?_ | refine g_x rfl ?_ | refine g_lb ?_))
  refine g_cl rfl rfl (b91 hB ?_)
  (repeat (first | refine g_sq ?_ | refine g_rg ?_ | refine g_r0 ?_ | refine g_ok rfl rfl ?_ | refine g_no rfl ?_ | refine g_no0 rfl ?_ | refine g_bk ?_ | refine g_b ?_ | refine g_sk ?_ | refine g_cT rfl ?_ | refine g_cF rfl ?_ | refine g_x rfl ?_ | refine g_lb ?_))
  refine g_l1 rfl rfl hB rfl ?_
  (repeat (first | refine g_sq ?_ | refine g_rg ?_ | refine g_r0 ?_ | refine g_ok rfl rfl ?_ | refine g_no rfl ?_ | refine g_no0 rfl ?_ | refine g_bk ?_ | refine g_b ?_ | refine g_sk ?_ | refine g_cT rfl ?_ | refine g_cF rfl ?_ | refine g_x rfl ?_ | refine g_lb ?_))
  exact g_ret (q_1 rfl h)
theorem c49 (hS : St w0 S0 w (JouR S jb d fr bk J :: B)) (h : K (.int .i64 J.first) w) : CK Try.prog 49 [dp jb] w K := by
  obtain ⟨vl, Z, h1, h2, h3, h4, hS⟩ := JouR.opn hS
  obtain ⟨a, c, rfl⟩ := hS.rlen 1 rfl
  refine call_k Try.func49 k49 Try.ntmps49 (Nat.le_of_ble_eq_true rfl) ?_
  (repeat (first | refine g_sq ?_ | refine g_rg ?_ | refine g_r0 ?_ | refine g_ok rfl rfl ?_ | refine g_no rfl ?_ | refine g_no0 rfl ?_ | refine g_bk ?_ | refine g_b ?_ | refine g_sk ?_ | refine g_cT rfl ?_ | refine g_cF rfl ?_ | refine g_x rfl ?_ | refine g_lb ?_))
  refine g_cl rfl rfl (b91 (hS.b 0 rfl) ?_)
  (repeat (first | refine g_sq ?_ | refine g_rg ?_ | refine g_r0 ?_ | refine g_ok rfl rfl ?_ | refine g_no rfl ?_ | refine g_no0 rfl ?_ | refine g_bk ?_ | refine g_b ?_ | refine g_sk ?_ | refine g_cT rfl ?_ | refine g_cF rfl ?_ | refine g_x rfl ?_ | refine g_lb ?_))
  refine g_l1 rfl rfl (hS.b  0 rfl) rfl ?_
  (repeat (first | refine g_sq ?_ | refine g_rg ?_ | refine g_r0 ?_ | refine g_ok rfl rfl ?_ | refine g_no rfl ?_ | refine g_no0 rfl ?_ | refine g_bk ?_ | refine g_b ?_ | refine g_sk ?_ | refine g_cT rfl ?_ | refine g_cF rfl ?_ | refine g_x rfl ?_ | refine g_lb ?_))
  generalize hq : cmv BinOp.eql (Z.length : Int) 0 = q
  cases q
  all_goals simp only [cmv, decide_eq_true_eq, decide_eq_false_iff_not] at hq
  · obtain ⟨b1, cap1, rest1, hv1, hc1, hB1, hl1⟩ := row_blk hS 1 rfl (by omega)
    cases hv1
    have hz : Z[0]? = some (Z[0]'(by omega)) := List.getElem?_eq_getElem _
    have hf : J.first = (Z[0]'(by omega)).1.n := by
      have hg : J.l[0]? = some (Z[0]'(by omega)).1 := by rw [← h4, List.getElem?_map, hz]; rfl
      unfold Jou.first
      cases hl : J.l with
      | nil => rw [hl] at hg; cases hg
      | cons x l => rw [hl] at hg; cases hg; rfl
    rw [hf] at h
    (repeat (first | refine g_sq ?_ | refine g_rg ?_ | refine g_r0 ?_ | refine g_ok rfl rfl ?_ | refine g_no rfl ?_ | refine g_no0 rfl ?_ | refine g_bk ?_ | refine g_b ?_ | refine g_sk ?_ | refine g_cT rfl ?_ | refine g_cF rfl ?_ | refine g_x rfl ?_ | refine g_lb ?_))
    refine g_l1 rfl rfl (hS.b  0 rfl) rfl ?_
    (repeat (first | refine g_sq ?_ | refine g_rg ?_ | refine g_r0 ?_ | refine g_ok rfl rfl ?_ | refine g_no rfl ?_ | refine g_no0 rfl ?_ | refine g_bk ?_ | refine g_b ?_ | refine g_sk ?_ | refine g_cT rfl ?_ | refine g_cF rfl ?_ | refine g_x rfl ?_ | refine g_lb ?_))
    refine g_rq rfl rfl ⟨by omega, by omega⟩ ?_
    (repeat (first | refine g_sq ?_ | refine g_rg ?_ | refine g_r0 ?_ | refine g_ok rfl rfl ?_ | refine g_no rfl ?_ | refine g_no0 rfl ?_ | refine g_bk ?_ | refine g_b ?_ | refine g_sk ?_ | refine g_cT rfl ?_ | refine g_cF rfl ?_ | refine g_x rfl ?_ | refine g_lb ?_))
    refine g_l1 rfl rfl hB1 (gz_at (j := 0) hz rest1 (by decide)) ?_
    (repeat (first | refine g_sq ?_ | refine g_rg ?_ | refine g_r0 ?_ | refine g_ok rfl rfl ?_ | refine g_no rfl ?_ | refine g_no0 rfl ?_ | refine g_bk ?_ | refine g_b ?_ | refine g_sk ?_ | refine g_cT rfl ?_ | refine g_cF rfl ?_ | refine g_x rfl ?_ | refine g_lb ?_))
    exact g_ret (q_1 rfl h)
  · have hl : J.l = [] := by rw [← h4]; cases Z with | nil => rfl | cons => simp at hq; omega
    have hf : J.first = 0 := by unfold Jou.first; rw [hl]
    rw [hf] at h
    (repeat (first | refine g_sq ?_ | refine g_rg ?_ | refine g_r0 ?_ | refine g_ok rfl rfl ?_ | refine g_no rfl ?_ | refine g_no0 rfl ?_ | refine g_bk ?_ | refine g_b ?_ | refine g_sk ?_ | refine g_cT rfl ?_ | refine g_cF rfl ?_ | refine g_x rfl ?_ | refine g_lb ?_))
    exact g_ret (q_1 rfl h)
theorem u44 (h4 : Z.map Prod.fst = J.l) (hu : J.used ≤ 4096) (hS : St w0 S0 w (cel jb (JouC (dp d) fr bk vl J) 94 :: row vl 134 3 Z.length (gz Z) :: B)) (h : ∀ w', St w0 S0 w' (cel jb (JouC (dp d) fr bk vl J) 94 :: row vl 134 3 Z.length (gz Z) :: B) → K (.int .i64 J.last) w') : CK Try.prog 44 [dp jb] w K := by
  have hZl : Z.length = J.l.length := by rw [← h4, List.length_map]
  have hlen : Z.length ≤ 4096 := by have := usedOf_len J.l; unfold Jou.used at hu; omega
  obtain ⟨a, c, rfl⟩ := hS.rlen 1 rfl
  refine call_k Try.func44 k44 Try.ntmps44 (Nat.le_of_ble_eq_true rfl) ?_
  (repeat (first | refine g_sq ?_ | refine g_rg ?_ | refine g_r0 ?_ | refine g_ok rfl rfl ?_ | refine g_no rfl ?_ | refine g_no0 rfl ?_ | refine g_bk ?_ | refine g_b ?_ | refine g_sk ?_ | refine g_cT rfl ?_ | refine g_cF rfl ?_ | refine g_x rfl ?_ | refine g_lb ?_))
  refine g_cl rfl rfl (b91 (hS.b 0 rfl) ?_)
  (repeat (first | refine g_sq ?_ | refine g_rg ?_ | refine g_r0 ?_ | refine g_ok rfl rfl ?_ | refine g_no rfl ?_ | refine g_no0 rfl ?_ | refine g_bk ?_ | refine g_b ?_ | refine g_sk ?_ | refine g_cT rfl ?_ | refine g_cF rfl ?_ | refine g_x rfl ?_ | refine g_lb ?_))
  refine g_l1 rfl rfl (hS.b  0 rfl) rfl ?_
  (repeat (first | refine g_sq ?_ | refine g_rg ?_ | refine g_r0 ?_ | refine g_ok rfl rfl ?_ | refine g_no rfl ?_ | refine g_no0 rfl ?_ | refine g_bk ?_ | refine g_b ?_ | refine g_sk ?_ | refine g_cT rfl ?_ | refine g_cF rfl ?_ | refine g_x rfl ?_ | refine g_lb ?_))
  generalize hq : cmv BinOp.eql (Z.length : Int) 0 = q
  cases q
  all_goals simp only [cmv, decide_eq_true_eq, decide_eq_false_iff_not] at hq
  · have hz : Z[Z.length - 1]? = some (Z[Z.length - 1]'(by omega)) := List.getElem?_eq_getElem _
    generalize (Z[Z.length - 1]'(by omega)) = z at hz
    have hf : J.last = z.1.n := by
      have hg : J.l[Z.length - 1]? = some z.1 := by rw [← h4, List.getElem?_map, hz]; rfl
      unfold Jou.last lastOf
      rw [List.getLast?_eq_getElem?, ← hZl, hg]
    (repeat (first | refine g_sq ?_ | refine g_rg ?_ | refine g_r0 ?_ | refine g_ok rfl rfl ?_ | refine g_no rfl ?_ | refine g_no0 rfl ?_ | refine g_bk ?_ | refine g_b ?_ | refine g_sk ?_ | refine g_cT rfl ?_ | refine g_cF rfl ?_ | refine g_x rfl ?_ | refine g_lb ?_))
    refine g_dr mixed ?_
    have hS := hS.drew
    obtain ⟨b1, cap1, rest1, hv1, hc1, hB1, hl1⟩ := row_blk hS 1 rfl (by omega)
    cases hv1
    (repeat (first | refine d_ok rfl rfl rfl ?_ | refine d_no rfl rfl ?_))
    refine d_l1 rfl rfl rfl (hS.b 0 rfl) rfl ?_
    (repeat (first | refine d_ok rfl rfl rfl ?_ | refine d_no rfl rfl ?_))
    refine d_l1 rfl rfl rfl (hS.b 0 rfl) rfl ?_
    (repeat (first | refine d_ok rfl rfl rfl ?_ | refine d_no rfl rfl ?_))
    refine d_rq rfl rfl rfl (in64 (by simp only [arv]; omega)) ?_
    have e : arv BinOp.sub (Z.length : Int) 1 = ((Z.length - 1 : Nat) : Int) := by simp only [arv]; omega
    rw [e]
    refine d_rq rfl rfl rfl ⟨by omega, by omega⟩ ?_
    (repeat (first | refine d_ok rfl rfl rfl ?_ | refine d_no rfl rfl ?_))
    refine d_l1 rfl rfl rfl hB1 (gz_at (j := 0) hz rest1 (by decide)) ?_
    (repeat (first | refine d_ok rfl rfl rfl ?_ | refine d_no rfl rfl ?_))
    refine d_fin ?_
    (repeat (first | refine g_sq ?_ | refine g_rg ?_ | refine g_r0 ?_ | refine g_ok rfl rfl ?_ | refine g_no rfl ?_ | refine g_no0 rfl ?_ | refine g_bk ?_ | refine g_b ?_ | refine g_sk ?_ | refine g_cT rfl ?_ | refine g_cF rfl ?_ | refine g_x rfl ?_ | refine g_lb ?_))
    have h := h _ hS
    rw [hf] at h
    exact g_ret (q_1 rfl h)
  · have hl : J.l = [] := by rw [← h4]; cases Z with | nil => rfl | cons => simp at hq; omega
    have hf : J.last = 0 := by unfold Jou.last; rw [hl]; rfl
    (repeat (first | refine g_sq ?_ | refine g_rg ?_ | refine g_r0 ?_ | refine g_ok rfl rfl ?_ | refine g_no rfl ?_ | refine g_no0 rfl ?_ | refine g_bk ?_ | refine g_b ?_ | refine g_sk ?_ | refine g_cT rfl ?_ | refine g_cF rfl ?_ | refine g_x rfl ?_ | refine g_lb ?_))
    have h := h _ hS
    rw [hf] at h
    exact g_ret (q_1 rfl h)
theorem c44 (hS : St w0 S0 w (JouR S jb d fr bk J :: B)) (h : ∀ w' S', St w0 S0 w' (JouR S' jb d fr bk J :: B) → K (.int .i64 J.last) w') : CK Try.prog 44 [dp jb] w K := by
  obtain ⟨vl, Z, h1, h2, h3, h4, hS⟩ := JouR.opn hS
  refine u44 h4 (by have := h1.1; omega) hS fun w' hS => ?_
  obtain ⟨S', hS⟩ := JouR.cls h1 h2 h3 h4 hS
  exact h _ _ hS
theorem gp_nil (hS : St w0 S0 w L) : St w0 S0 w (L ++ [gp []]) := by
  have h := hS.fact (p := True) trivial
  have := h.conv (r' := gp []) L.length (by simp; rfl) (fun b ⟨p, hp, _⟩ => by cases hp) (fun p hp => by cases hp)
  simpa using this
theorem c48 {n : Int} (hS : St w0 S0 w (JouR S jb d fr bk J :: B)) (h1 : (n < J.next ∨ (maxN : Int) < n) → K (.int .i64 151) w)
    (h2 : ¬ (n < J.next ∨ (maxN : Int) < n) → ∀ w' S', St w0 S0 w' (JouR S' jb d fr bk (J.begin n.toNat) :: B) → K (.int .i64 0) w') : CK Try.prog 48 [dp jb, .int .i64 n] w K := by
  obtain ⟨vl, Z, k1, k2, k3, k4, hS⟩ := JouR.opn hS
  have hmax : (maxN : Int) = 4611686018427387904 := rfl
  refine call_k Try.func48 k48 Try.ntmps48 (Nat.le_of_ble_eq_true rfl) ?_
  (repeat (first | refine g_sq ?_ | refine g_rg ?_ | refine g_r0 ?_ | refine g_ok rfl rfl ?_ | refine g_no rfl ?_ | refine g_no0 rfl ?_ | refine g_bk ?_ | refine g_b ?_ | refine g_sk ?_ | refine g_cT rfl ?_ | refine g_cF rfl ?_ | refine g_x rfl ?_ | refine g_lb ?_))
  refine g_cl rfl rfl (b91 (hS.b 0 rfl) ?_)
  (repeat (first | refine g_sq ?_ | refine g_rg ?_ | refine g_r0 ?_ | refine g_ok rfl rfl ?_ | refine g_no rfl ?_ | refine g_no0 rfl ?_ | refine g_bk ?_ | refine g_b ?_ | refine g_sk ?_ | refine g_cT rfl ?_ | refine g_cF rfl ?_ | refine g_x rfl ?_ | refine g_lb ?_))
  refine g_l1 rfl rfl (hS.b  0 rfl) rfl ?_
  (repeat (first | refine g_sq ?_ | refine g_rg ?_ | refine g_r0 ?_ | refine g_ok rfl rfl ?_ | refine g_no rfl ?_ | refine g_no0 rfl ?_ | refine g_bk ?_ | refine g_b ?_ | refine g_sk ?_ | refine g_cT rfl ?_ | refine g_cF rfl ?_ | refine g_x rfl ?_ | refine g_lb ?_))
  generalize hq : cmv BinOp.lss n (J.next : Int) = q
  cases q
  all_goals simp only [cmv, decide_eq_true_eq, decide_eq_false_iff_not] at hq
  · (repeat (first | refine g_sq ?_ | refine g_rg ?_ | refine g_r0 ?_ | refine g_ok rfl rfl ?_ | refine g_no rfl ?_ | refine g_no0 rfl ?_ | refine g_bk ?_ | refine g_b ?_ | refine g_sk ?_ | refine g_cT rfl ?_ | refine g_cF rfl ?_ | refine g_x rfl ?_ | refine g_lb ?_))
    refine g_cd rfl (fun hz => ?_) (fun hz => ?_)
    all_goals simp only [cmv, decide_eq_true_eq, decide_eq_false_iff_not] at hz
    · (repeat (first | refine g_sq ?_ | refine g_rg ?_ | refine g_r0 ?_ | refine g_ok rfl rfl ?_ | refine g_no rfl ?_ | refine g_no0 rfl ?_ | refine g_bk ?_ | refine g_b ?_ | refine g_sk ?_ | refine g_cT rfl ?_ | refine g_cF rfl ?_ | refine g_x rfl ?_ | refine g_lb ?_))
      exact g_ret (q_1 rfl (h1 (.inr (by omega))))
    · (repeat (first | refine g_sq ?_ | refine g_rg ?_ | refine g_r0 ?_ | refine g_ok rfl rfl ?_ | refine g_no rfl ?_ | refine g_no0 rfl ?_ | refine g_bk ?_ | refine g_b ?_ | refine g_sk ?_ | refine g_cT rfl ?_ | refine g_cF rfl ?_ | refine g_x rfl ?_ | refine g_lb ?_))
      refine g_ef0 rfl (ef_st hS 0 rfl rfl rfl rfl (Nat.le_of_ble_eq_true rfl) rfl fun w hS => ?_)
      (repeat (first | refine g_sq ?_ | refine g_rg ?_ | refine g_r0 ?_ | refine g_ok rfl rfl ?_ | refine g_no rfl ?_ | refine g_no0 rfl ?_ | refine g_bk ?_ | refine g_b ?_ | refine g_sk ?_ | refine g_cT rfl ?_ | refine g_cF rfl ?_ | refine g_x rfl ?_ | refine g_lb ?_))
      refine g_ef0 rfl (ef_st hS 0 rfl rfl rfl rfl (Nat.le_of_ble_eq_true rfl) rfl fun w hS => ?_)
      have hn0 : ((n.toNat : Nat) : Int) = n := by omega
      have hS := hS.ceq (l' := JouC (dp d) fr bk (.slice none 0 0) (J.begin n.toNat)) 0 rfl (by
        show [dp d, .int .i64 fr, .int .i64 bk, .slice none 0 0, .int .i64 n, .bool J.shut] = [dp d, .int .i64 fr, .int .i64 bk, .slice none 0 0, .int .i64 ((n.toNat : Nat) : Int), .bool J.shut]
        rw [hn0])
      have hS := (hS.nilrow 134 3).front
      have hS := (gp_nil hS).front
      have hS : St w0 S0 w (gp [] :: row (.slice none 0 0) 134 3 0 [] :: cel jb (JouC (dp d) fr bk (.slice none 0 0) (J.begin n.toNat)) 94 :: row vl 134 3 Z.length (gz Z) :: gp Z :: B) := hS
      have hS := hS.selB (A := [_, _, _, _, _]) (B := B) [2, 1, 0] rfl rfl
      obtain ⟨S', hS⟩ := JouR.cls (Z := []) (J := J.begin n.toNat) ⟨Nat.zero_le _, by show n.toNat ≤ _; omega, fun g hg => nomatch hg⟩ k2 k3 rfl hS
      (repeat (first | refine g_sq ?_ | refine g_rg ?_ | refine g_r0 ?_ | refine g_ok rfl rfl ?_ | refine g_no rfl ?_ | refine g_no0 rfl ?_ | refine g_bk ?_ | refine g_b ?_ | refine g_sk ?_ | refine g_cT rfl ?_ | refine g_cF rfl ?_ | refine g_x rfl ?_ | refine g_lb ?_))
      exact g_ret (q_1 rfl (h2 (by omega) _ _ hS))
  · (repeat (first | refine g_sq ?_ | refine g_rg ?_ | refine g_r0 ?_ | refine g_ok rfl rfl ?_ | refine g_no rfl ?_ | refine g_no0 rfl ?_ | refine g_bk ?_ | refine g_b ?_ | refine g_sk ?_ | refine g_cT rfl ?_ | refine g_cF rfl ?_ | refine g_x rfl ?_ | refine g_lb ?_))
    exact g_ret (q_1 rfl (h1 (.inl hq)))
end
end Go.Proofs.Ytegjocpjmfaigaa
