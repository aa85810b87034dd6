/- The document's journal as one resource; what can be asked of it. -/
import Derived.Test.YtegjocpjmfaigaaOb
import Derived.Test.YtegjocpjmfaigaaJwa
import Derived.Test.YtegjocpjmfaigaaRg
set_option linter.unusedSimpArgs false
set_option linter.unusedVariables false
namespace Go.Proofs.Ytegjocpjmfaigaa
open Go.En

def RjoB (jb d fr bk : Nat) (J : Jou) (x : Value × GZ) : Res := ((cel jb (JouC (dp d) fr bk x.1 J) 141).and ((row x.1 171 3 x.2.length (gz x.2)).and (gp x.2))).when (J.wf bk ∧ bk ≤ 4096 ∧ fr ≤ 4096 ∧ x.2.map Prod.fst = J.l)
/-- the document's journal -/
def RjoR (S : Nat → Prop) (jb d fr bk : Nat) (J : Jou) : Res := Ex S (RjoB jb d fr bk J)
section
variable {w w0 : World} {S0 S S1 : Nat → Prop} {K : Value → World → Prop} {jb d fr bk : Nat} {J : Jou} {D : Dev} {B L : List Res} {vl : Value} {Z : GZ}
theorem RjoR.opn (hS : St w0 S0 w (RjoR S jb d fr bk J :: B)) : ∃ vl Z, J.wf bk ∧ bk ≤ 4096 ∧ fr ≤ 4096 ∧ Z.map Prod.fst = J.l ∧ St w0 S0 w (cel jb (JouC (dp d) fr bk vl J) 141 :: row vl 171 3 Z.length (gz Z) :: gp Z :: B) := by
  obtain ⟨⟨vl, Z⟩, hS⟩ := hS.ex 0 rfl
  obtain ⟨⟨h1, h2, h3, h4⟩, hS⟩ := hS.cond 0 rfl
  refine ⟨vl, Z, h1, h2, h3, h4, ?_⟩
  have hS := (hS.split 0 rfl).front
  have hS := (hS.split 0 rfl).front
  exact hS.selB (A := [_, _, _]) (B := B) [2, 1, 0] rfl rfl
theorem RjoR.cls (h1 : J.wf bk) (h2 : bk ≤ 4096) (h3 : fr ≤ 4096) (h4 : Z.map Prod.fst = J.l) (hS : St w0 S0 w (cel jb (JouC (dp d) fr bk vl J) 141 :: row vl 171 3 Z.length (gz Z) :: gp Z :: B)) : ∃ S', St w0 S0 w (RjoR S' jb d fr bk J :: B) := by
  have hS := hS.merge 1 2 rfl rfl (by decide)
  have hS : St w0 S0 w (cel jb (JouC (dp d) fr bk vl J) 141 :: (row vl 171 3 Z.length (gz Z)).and (gp Z) :: emp :: B) := hS
  have hS := hS.merge 0 1 rfl rfl (by decide)
  have hS := hS.toWhen (p := J.wf bk ∧ bk ≤ 4096 ∧ fr ≤ 4096 ∧ Z.map Prod.fst = J.l) 0 rfl ⟨h1, h2, h3, h4⟩
  obtain ⟨S', hS⟩ := hS.toEx (F := RjoB jb d fr bk J) (x := (vl, Z)) 0 rfl
  refine ⟨S', ?_⟩
  have hS : St w0 S0 w (RjoR S' jb d fr bk J :: emp :: emp :: B) := hS
  exact St.sub (A := [RjoR S' jb d fr bk J]) ((List.sublist_cons_self _ _).trans (List.sublist_cons_self _ _)) hS
theorem RjoR.blk (hS : St w0 S0 w (RjoR S jb d fr bk J :: B)) : J.wf bk ∧ bk ≤ 4096 ∧ fr ≤ 4096 ∧ ∃ vl, Blk w jb (JouC (dp d) fr bk vl J) 141 := by
  obtain ⟨vl, Z, h1, h2, h3, _, hS⟩ := RjoR.opn hS
  exact ⟨h1, h2, h3, vl, hS.b 0 rfl⟩
theorem c99 (hS : St w0 S0 w (RjoR S jb d fr bk J :: B)) (h : K (.int .i64 J.used) w) : CK Try.prog 99 [dp jb] w K := by
  obtain ⟨vl, Z, h1, h2, h3, hZ, hS⟩ := RjoR.opn hS
  have hZl : Z.length = J.l.length := by rw [← hZ, List.length_map]
  have hu := h1.1
  have hlen : Z.length ≤ 4096 := by have := usedOf_len J.l; unfold Jou.used at hu; omega
  obtain ⟨a, c, rfl⟩ := hS.rlen 1 rfl
  refine call_k Try.func99 k99 Try.ntmps99 (Nat.le_of_ble_eq_true rfl) ?_
  (repeat (first | refine g_sq ?_ | refine g_rg ?_ | refine g_r0 ?_ | refine g_ok rfl rfl ?_ | refine g_no rfl ?_ | refine g_no0 rfl ?_ | refine g_bk ?_ | refine g_b ?_ | refine g_sk ?_ | refine g_cT rfl ?_ | refine g_cF rfl ?_ | refine g_x rfl ?_ | refine g_lb ?_))
  refine g_lp (ι := Nat) (fun k => [(0, dp jb), (3, .int .i64 (usedOf (J.l.take k))), (4, .int .i64 k)]) (fun k w' => k ≤ Z.length ∧ w = w') (fun k => Z.length - k) 0 ⟨rfl, rfl, rfl, trivial⟩ ⟨Nat.zero_le _, rfl⟩ ?_
  rintro k _ ⟨hk, rfl⟩
  (repeat (first | refine g_sq ?_ | refine g_rg ?_ | refine g_r0 ?_ | refine g_ok rfl rfl ?_ | refine g_no rfl ?_ | refine g_no0 rfl ?_ | refine g_bk ?_ | refine g_b ?_ | refine g_sk ?_ | refine g_cT rfl ?_ | refine g_cF rfl ?_ | refine g_x rfl ?_ | refine g_lb ?_))
  refine g_l1 rfl rfl (hS.b  0 rfl) rfl ?_
  (repeat (first | refine g_sq ?_ | refine g_rg ?_ | refine g_r0 ?_ | refine g_ok rfl rfl ?_ | refine g_no rfl ?_ | refine g_no0 rfl ?_ | refine g_bk ?_ | refine g_b ?_ | refine g_sk ?_ | refine g_cT rfl ?_ | refine g_cF rfl ?_ | refine g_x rfl ?_ | refine g_lb ?_))
  refine g_cd rfl (fun hc => ?_) (fun hc => ?_)
  all_goals simp only [cmv, decide_eq_true_eq, decide_eq_false_iff_not] at hc
  · have hlt : k < Z.length := by omega
    obtain ⟨b1, cap1, rest1, hv1, hc1, hB1, hl1⟩ := row_blk hS 1 rfl (by omega)
    cases hv1
    have hz : Z[k]? = some Z[k] := List.getElem?_eq_getElem hlt
    generalize Z[k] = z at hz
    have hg : J.l[k]? = some z.1 := by rw [← hZ, List.getElem?_map, hz]; rfl
    have hgl := (List.getElem?_eq_some_iff.1 hg).1
    have hst : usedOf (J.l.take (k + 1)) = usedOf (J.l.take k) + z.1.many := by
      rw [List.take_succ_eq_append_getElem hgl, usedOf_app, (List.getElem?_eq_some_iff.1 hg).2]
      simp [usedOf]
    have hle := usedOf_take J.l (k + 1)
    unfold Jou.used at hu
    (repeat (first | refine g_sq ?_ | refine g_rg ?_ | refine g_r0 ?_ | refine g_ok rfl rfl ?_ | refine g_no rfl ?_ | refine g_no0 rfl ?_ | refine g_bk ?_ | refine g_b ?_ | refine g_sk ?_ | refine g_cT rfl ?_ | refine g_cF rfl ?_ | refine g_x rfl ?_ | refine g_lb ?_))
    refine g_l1 rfl rfl (hS.b  0 rfl) rfl ?_
    (repeat (first | refine g_sq ?_ | refine g_rg ?_ | refine g_r0 ?_ | refine g_ok rfl rfl ?_ | refine g_no rfl ?_ | refine g_no0 rfl ?_ | refine g_bk ?_ | refine g_b ?_ | refine g_sk ?_ | refine g_cT rfl ?_ | refine g_cF rfl ?_ | refine g_x rfl ?_ | refine g_lb ?_))
    refine g_rq rfl rfl ⟨by omega, by omega⟩ ?_
    (repeat (first | refine g_sq ?_ | refine g_rg ?_ | refine g_r0 ?_ | refine g_ok rfl rfl ?_ | refine g_no rfl ?_ | refine g_no0 rfl ?_ | refine g_bk ?_ | refine g_b ?_ | refine g_sk ?_ | refine g_cT rfl ?_ | refine g_cF rfl ?_ | refine g_x rfl ?_ | refine g_lb ?_))
    refine g_l1 rfl rfl hB1 (gz_at (j := 2) hz rest1 (by decide)) ?_
    refine g_rq rfl rfl (in64 (by simp only [arv]; omega)) ?_
    rw [show arv BinOp.add (usedOf (J.l.take k) : Int) (z.1.many : Int) = ((usedOf (J.l.take (k + 1)) : Nat) : Int) by simp only [arv]; omega]
    (repeat (first | refine g_sq ?_ | refine g_rg ?_ | refine g_r0 ?_ | refine g_ok rfl rfl ?_ | refine g_no rfl ?_ | refine g_no0 rfl ?_ | refine g_bk ?_ | refine g_b ?_ | refine g_sk ?_ | refine g_cT rfl ?_ | refine g_cF rfl ?_ | refine g_x rfl ?_ | refine g_lb ?_))
    refine g_rq rfl rfl (in64 (by simp only [arv]; omega)) ?_
    (repeat (first | refine g_sq ?_ | refine g_rg ?_ | refine g_r0 ?_ | refine g_ok rfl rfl ?_ | refine g_no rfl ?_ | refine g_no0 rfl ?_ | refine g_bk ?_ | refine g_b ?_ | refine g_sk ?_ | refine g_cT rfl ?_ | refine g_cF rfl ?_ | refine g_x rfl ?_ | refine g_lb ?_))
    exact g_l (k + 1) ⟨rfl, rfl, rfl, trivial⟩ ⟨by omega, rfl⟩ (by omega)
  · have e : J.l.take k = J.l := List.take_of_length_le (by omega)
    rw [e]
    (repeat (first | refine g_sq ?_ | refine g_rg ?_ | refine g_r0 ?_ | refine g_ok rfl rfl ?_ | refine g_no rfl ?_ | refine g_no0 rfl ?_ | refine g_bk ?_ | refine g_b ?_ | refine g_sk ?_ | refine g_cT rfl ?_ | refine g_cF rfl ?_ | refine g_x rfl ?_ | refine g_lb ?_))
    exact g_ret (q_1 rfl h)
theorem c97 (hS : St w0 S0 w (RjoR S jb d fr bk J :: B)) (h : ∀ w', St w0 S0 w' (RjoR S jb d fr bk J :: B) → K (.tuple ⟨[.int .i64 J.first, .int .i64 J.last]⟩) w') : CK Try.prog 97 [dp jb] w K := by
  have hS0 := hS
  obtain ⟨vl, Z, h1, h2, h3, hZ, hS⟩ := RjoR.opn hS
  have hZl : Z.length = J.l.length := by rw [← hZ, List.length_map]
  have hlen : Z.length ≤ 4096 := by have := usedOf_len J.l; have hu := h1.1; unfold Jou.used at hu; omega
  obtain ⟨a, c, rfl⟩ := hS.rlen 1 rfl
  refine call_k Try.func97 k97 Try.ntmps97 (Nat.le_of_ble_eq_true rfl) ?_
  (repeat (first | refine g_sq ?_ | refine g_rg ?_ | refine g_r0 ?_ | refine g_ok rfl rfl ?_ | refine g_no rfl ?_ | refine g_no0 rfl ?_ | refine g_bk ?_ | refine g_b ?_ | refine g_sk ?_ | refine g_cT rfl ?_ | refine g_cF rfl ?_ | refine g_x rfl ?_ | refine g_lb ?_))
  refine g_l1 rfl rfl (hS.b  0 rfl) rfl ?_
  (repeat (first | refine g_sq ?_ | refine g_rg ?_ | refine g_r0 ?_ | refine g_ok rfl rfl ?_ | refine g_no rfl ?_ | refine g_no0 rfl ?_ | refine g_bk ?_ | refine g_b ?_ | refine g_sk ?_ | refine g_cT rfl ?_ | refine g_cF rfl ?_ | refine g_x rfl ?_ | refine g_lb ?_))
  refine g_cd rfl (fun hc => ?_) (fun hc => ?_)
  all_goals simp only [cmv, decide_eq_true_eq, decide_eq_false_iff_not] at hc
  · have hnil : J.l = [] := List.eq_nil_of_length_eq_zero (by omega)
    have h := h w hS0
    rw [show J.first = 0 by unfold Jou.first; rw [hnil], show J.last = 0 by unfold Jou.last; rw [hnil]; rfl] at h
    (repeat (first | refine g_sq ?_ | refine g_rg ?_ | refine g_r0 ?_ | refine g_ok rfl rfl ?_ | refine g_no rfl ?_ | refine g_no0 rfl ?_ | refine g_bk ?_ | refine g_b ?_ | refine g_sk ?_ | refine g_cT rfl ?_ | refine g_cF rfl ?_ | refine g_x rfl ?_ | refine g_lb ?_))
    exact g_ret (q_2 rfl rfl h)
  · (repeat (first | refine g_sq ?_ | refine g_rg ?_ | refine g_r0 ?_ | refine g_ok rfl rfl ?_ | refine g_no rfl ?_ | refine g_no0 rfl ?_ | refine g_bk ?_ | refine g_b ?_ | refine g_sk ?_ | refine g_cT rfl ?_ | refine g_cF rfl ?_ | refine g_x rfl ?_ | refine g_lb ?_))
    refine g_dr mixed ?_
    have hS := hS.drew
    obtain ⟨b1, cap1, rest1, hv1, hc1, hB1, hl1⟩ := row_blk hS 1 rfl (by omega)
    cases hv1
    have hz : Z[0]? = some (Z[0]'(by omega)) := List.getElem?_eq_getElem _
    have hy : Z[Z.length - 1]? = some (Z[Z.length - 1]'(by omega)) := List.getElem?_eq_getElem _
    generalize (Z[0]'(by omega)) = z at hz
    generalize (Z[Z.length - 1]'(by omega)) = y at hy
    have hf : J.first = z.1.n := by
      have hg : J.l[0]? = some z.1 := by rw [← hZ, List.getElem?_map, hz]; rfl
      unfold Jou.first
      cases hJ : J.l with
      | nil => rw [hJ] at hg; cases hg
      | cons g l => rw [hJ] at hg; cases hg; rfl
    have hla : J.last = y.1.n := by
      have hg : J.l[J.l.length - 1]? = some y.1 := by rw [← hZl, ← hZ, List.getElem?_map, hy]; rfl
      unfold Jou.last lastOf
      rw [List.getLast?_eq_getElem?, hg]
    (repeat (first | refine d_ok rfl rfl rfl ?_ | refine d_no rfl rfl ?_))
    refine d_l1 rfl rfl rfl (hS.b 0 rfl) rfl ?_
    refine d_rq rfl rfl rfl ⟨by decide, by omega⟩ ?_
    (repeat (first | refine d_ok rfl rfl rfl ?_ | refine d_no rfl rfl ?_))
    refine d_l1 rfl rfl rfl hB1 (gz_at (k := 0) (j := 0) hz rest1 (by decide)) ?_
    (repeat (first | refine d_ok rfl rfl rfl ?_ | refine d_no rfl rfl ?_))
    refine d_l1 rfl rfl rfl (hS.b 0 rfl) rfl ?_
    (repeat (first | refine d_ok rfl rfl rfl ?_ | refine d_no rfl rfl ?_))
    refine d_l1 rfl rfl rfl (hS.b 0 rfl) rfl ?_
    (repeat (first | refine d_ok rfl rfl rfl ?_ | refine d_no rfl rfl ?_))
    refine d_rq rfl rfl rfl (in64 (by simp only [arv]; omega)) ?_
    have e : arv BinOp.sub (Z.length : Int) 1 = ((Z.length - 1 : Nat) : Int) := by simp only [arv]; omega
    rw [e]
    refine d_rq rfl rfl rfl ⟨by omega, by omega⟩ ?_
    (repeat (first | refine d_ok rfl rfl rfl ?_ | refine d_no rfl rfl ?_))
    refine d_l1 rfl rfl rfl hB1 (gz_at (j := 0) hy rest1 (by decide)) ?_
    (repeat (first | refine d_ok rfl rfl rfl ?_ | refine d_no rfl rfl ?_))
    refine d_fin ?_
    have h := h _ hS0.drew
    rw [hf, hla] at h
    (repeat (first | refine g_sq ?_ | refine g_rg ?_ | refine g_r0 ?_ | refine g_ok rfl rfl ?_ | refine g_no rfl ?_ | refine g_no0 rfl ?_ | refine g_bk ?_ | refine g_b ?_ | refine g_sk ?_ | refine g_cT rfl ?_ | refine g_cF rfl ?_ | refine g_x rfl ?_ | refine g_lb ?_))
    exact g_ret (q_2 rfl rfl h)
theorem c96 {n : Int} (hS : St w0 S0 w (RjoR S jb d fr bk J :: B)) (h1 : (n < J.next ∨ (maxN : Int) < n) → K (.int .i64 151) w)
    (h2 : ¬ (n < J.next ∨ (maxN : Int) < n) → ∀ w' S', St w0 S0 w' (RjoR S' jb d fr bk (J.begin n.toNat) :: B) → K (.int .i64 0) w') : CK Try.prog 96 [dp jb, .int .i64 n] w K := by
  obtain ⟨vl, Z, k1, k2, k3, k4, hS⟩ := RjoR.opn hS
  have hmax : (maxN : Int) = 4611686018427387904 := rfl
  refine call_k Try.func96 k96 Try.ntmps96 (Nat.le_of_ble_eq_true rfl) ?_
  (repeat (first | refine g_sq ?_ | refine g_rg ?_ | refine g_r0 ?_ | refine g_ok rfl rfl ?_ | refine g_no rfl ?_ | refine g_no0 rfl ?_ | refine g_bk ?_ | refine g_b ?_ | refine g_sk ?_ | refine g_cT rfl ?_ | refine g_cF rfl ?_ | refine g_x rfl ?_ | refine g_lb ?_))
  refine g_l1 rfl rfl (hS.b  0 rfl) rfl ?_
  (repeat (first | refine g_sq ?_ | refine g_rg ?_ | refine g_r0 ?_ | refine g_ok rfl rfl ?_ | refine g_no rfl ?_ | refine g_no0 rfl ?_ | refine g_bk ?_ | refine g_b ?_ | refine g_sk ?_ | refine g_cT rfl ?_ | refine g_cF rfl ?_ | refine g_x rfl ?_ | refine g_lb ?_))
  generalize hq : cmv BinOp.lss n (J.next : Int) = q
  cases q
  all_goals simp only [cmv, decide_eq_true_eq, decide_eq_false_iff_not] at hq
  rotate_left
  · (repeat (first | refine g_sq ?_ | refine g_rg ?_ | refine g_r0 ?_ | refine g_ok rfl rfl ?_ | refine g_no rfl ?_ | refine g_no0 rfl ?_ | refine g_bk ?_ | refine g_b ?_ | refine g_sk ?_ | refine g_cT rfl ?_ | refine g_cF rfl ?_ | refine g_x rfl ?_ | refine g_lb ?_))
    exact g_ret (q_1 rfl (h1 (.inl hq)))
  (repeat (first | refine g_sq ?_ | refine g_rg ?_ | refine g_r0 ?_ | refine g_ok rfl rfl ?_ | refine g_no rfl ?_ | refine g_no0 rfl ?_ | refine g_bk ?_ | refine g_b ?_ | refine g_sk ?_ | refine g_cT rfl ?_ | refine g_cF rfl ?_ | refine g_x rfl ?_ | refine g_lb ?_))
  refine g_cd rfl (fun hc => ?_) (fun hc => ?_)
  all_goals simp only [cmv, decide_eq_true_eq, decide_eq_false_iff_not] at hc
  · (repeat (first | refine g_sq ?_ | refine g_rg ?_ | refine g_r0 ?_ | refine g_ok rfl rfl ?_ | refine g_no rfl ?_ | refine g_no0 rfl ?_ | refine g_bk ?_ | refine g_b ?_ | refine g_sk ?_ | refine g_cT rfl ?_ | refine g_cF rfl ?_ | refine g_x rfl ?_ | refine g_lb ?_))
    exact g_ret (q_1 rfl (h1 (.inr (by omega))))
  have hno : ¬ (n < J.next ∨ (maxN : Int) < n) := by omega
  have hn : ((n.toNat : Nat) : Int) = n := by omega
  (repeat (first | refine g_sq ?_ | refine g_rg ?_ | refine g_r0 ?_ | refine g_ok rfl rfl ?_ | refine g_no rfl ?_ | refine g_no0 rfl ?_ | refine g_bk ?_ | refine g_b ?_ | refine g_sk ?_ | refine g_cT rfl ?_ | refine g_cF rfl ?_ | refine g_x rfl ?_ | refine g_lb ?_))
  refine g_ef0 rfl (ef_st hS 0 rfl rfl rfl rfl (Nat.le_of_ble_eq_true rfl) rfl fun w hS => ?_)
  (repeat (first | refine g_sq ?_ | refine g_rg ?_ | refine g_r0 ?_ | refine g_ok rfl rfl ?_ | refine g_no rfl ?_ | refine g_no0 rfl ?_ | refine g_bk ?_ | refine g_b ?_ | refine g_sk ?_ | refine g_cT rfl ?_ | refine g_cF rfl ?_ | refine g_x rfl ?_ | refine g_lb ?_))
  refine g_ef0 rfl (ef_st hS 0 rfl rfl rfl rfl (Nat.le_of_ble_eq_true rfl) rfl fun w hS => ?_)
  have hS : St w0 S0 w (cel jb [dp d, .int .i64 fr, .int .i64 bk, .slice none 0 0, .int .i64 n, .bool J.shut] 141 :: row vl 171 3 Z.length (gz Z) :: gp Z :: B) := hS
  have hS := hS.selB (A := [_, _, _]) (B := B) [0] rfl rfl
  have hS := (pool_nil hS).front
  have hS := (hS.nilrow 171 3).front
  have hS := hS.selB (A := [_, _, _]) (B := B) [2, 0, 1] rfl rfl
  have e : JouC (dp d) fr bk (.slice none 0 0) (J.begin n.toNat) = [dp d, .int .i64 fr, .int .i64 bk, .slice none 0 0, .int .i64 n, .bool J.shut] := by
    show [dp d, .int .i64 fr, .int .i64 bk, .slice none 0 0, .int .i64 ((n.toNat : Nat) : Int), .bool J.shut] = _
    rw [hn]
  rw [← e] at hS
  obtain ⟨S', hS⟩ := RjoR.cls (Z := []) (J := J.begin n.toNat) ⟨Nat.zero_le _, by show n.toNat ≤ _; omega, fun g hg => nomatch hg⟩ k2 k3 rfl hS
  (repeat (first | refine g_sq ?_ | refine g_rg ?_ | refine g_r0 ?_ | refine g_ok rfl rfl ?_ | refine g_no rfl ?_ | refine g_no0 rfl ?_ | refine g_bk ?_ | refine g_b ?_ | refine g_sk ?_ | refine g_cT rfl ?_ | refine g_cF rfl ?_ | refine g_x rfl ?_ | refine g_lb ?_))
  exact g_ret (q_1 rfl (h2 hno _ _ hS))
theorem c98 (hS : St w0 S0 w (RjoR S jb d fr bk J :: B)) (h : ∀ w' S' v', St w0 S0 w' (RjoR S' jb d fr bk J :: B) → RdL v' (J.l.map Grp.b) w' → K v' w') : CK Try.prog 98 [dp jb] w K := by
  obtain ⟨vl, Z, k1, k2, k3, k4, hS⟩ := RjoR.opn hS
  have hZl : Z.length = J.l.length := by rw [← k4, List.length_map]
  have hlen : Z.length ≤ 4096 := by have := usedOf_len J.l; have := k1.1; unfold Jou.used at this; omega
  obtain ⟨a, c, rfl⟩ := hS.rlen 1 rfl
  have hsl := gp_form hS 2 rfl
  refine call_k Try.func98 k98 Try.ntmps98 (Nat.le_of_ble_eq_true rfl) ?_
  (repeat (first | refine g_sq ?_ | refine g_rg ?_ | refine g_r0 ?_ | refine g_ok rfl rfl ?_ | refine g_no rfl ?_ | refine g_no0 rfl ?_ | refine g_bk ?_ | refine g_b ?_ | refine g_sk ?_ | refine g_cT rfl ?_ | refine g_cF rfl ?_ | refine g_x rfl ?_ | refine g_lb ?_))
  have hS := (hS.nilrow 35 1).front
  refine g_lp (ι := Nat × Value) (fun x => [(0, dp jb), (3, x.2), (4, .int .i64 x.1)])
    (fun x w => x.1 ≤ Z.length ∧ St w0 S0 w (row x.2 35 1 x.1 ((Z.take x.1).map fun z => z.2) :: cel jb (JouC (dp d) fr bk (.slice a Z.length c) J) 141 :: row (.slice a Z.length c) 171 3 Z.length (gz Z) :: gp Z :: B)) (fun x => Z.length - x.1) (0, .slice none 0 0) ⟨rfl, rfl, rfl, trivial⟩ ⟨Nat.zero_le _, hS⟩ ?_
  clear hS
  rintro ⟨k, vo⟩ w ⟨hk, hS⟩
  simp only at hk hS
  (repeat (first | refine g_sq ?_ | refine g_rg ?_ | refine g_r0 ?_ | refine g_ok rfl rfl ?_ | refine g_no rfl ?_ | refine g_no0 rfl ?_ | refine g_bk ?_ | refine g_b ?_ | refine g_sk ?_ | refine g_cT rfl ?_ | refine g_cF rfl ?_ | refine g_x rfl ?_ | refine g_lb ?_))
  refine g_l1 rfl rfl (hS.b  1 rfl) rfl ?_
  (repeat (first | refine g_sq ?_ | refine g_rg ?_ | refine g_r0 ?_ | refine g_ok rfl rfl ?_ | refine g_no rfl ?_ | refine g_no0 rfl ?_ | refine g_bk ?_ | refine g_b ?_ | refine g_sk ?_ | refine g_cT rfl ?_ | refine g_cF rfl ?_ | refine g_x rfl ?_ | refine g_lb ?_))
  refine g_cd rfl (fun hc => ?_) (fun hc => ?_)
  all_goals simp only [cmv, decide_eq_true_eq, decide_eq_false_iff_not] at hc
  · have hlt : k < Z.length := by omega
    have hz : Z[k]? = some Z[k] := List.getElem?_eq_getElem hlt
    have hzm : Z[k] ∈ Z := List.getElem_mem hlt
    have htk : (Z.take (k + 1)).map (fun z => z.2) = (Z.take k).map (fun z => z.2) ++ [Z[k].2] := by
      rw [List.take_succ_eq_append_getElem hlt, List.map_append]; rfl
    generalize Z[k] = z at hz hzm htk
    obtain ⟨b1, cap1, rest1, hv1, hc1, hB1, hl1⟩ := row_blk hS 2 rfl (by omega)
    cases hv1
    obtain ⟨az, nz, cz, ez⟩ := hsl z hzm
    (repeat (first | refine g_sq ?_ | refine g_rg ?_ | refine g_r0 ?_ | refine g_ok rfl rfl ?_ | refine g_no rfl ?_ | refine g_no0 rfl ?_ | refine g_bk ?_ | refine g_b ?_ | refine g_sk ?_ | refine g_cT rfl ?_ | refine g_cF rfl ?_ | refine g_x rfl ?_ | refine g_lb ?_))
    refine g_l1 rfl rfl (hS.b  1 rfl) rfl ?_
    (repeat (first | refine g_sq ?_ | refine g_rg ?_ | refine g_r0 ?_ | refine g_ok rfl rfl ?_ | refine g_no rfl ?_ | refine g_no0 rfl ?_ | refine g_bk ?_ | refine g_b ?_ | refine g_sk ?_ | refine g_cT rfl ?_ | refine g_cF rfl ?_ | refine g_x rfl ?_ | refine g_lb ?_))
    refine g_rq rfl rfl ⟨by omega, by omega⟩ ?_
    (repeat (first | refine g_sq ?_ | refine g_rg ?_ | refine g_r0 ?_ | refine g_ok rfl rfl ?_ | refine g_no rfl ?_ | refine g_no0 rfl ?_ | refine g_bk ?_ | refine g_b ?_ | refine g_sk ?_ | refine g_cT rfl ?_ | refine g_cF rfl ?_ | refine g_x rfl ?_ | refine g_lb ?_))
    refine g_l1 (v := .slice az nz cz) rfl rfl hB1 (by rw [← ez]; exact gz_at (j := 1) hz rest1 (by decide)) ?_
    refine g_ef rfl (ef_bl (rs := [.slice az nz cz]) hS rfl fun g w hS => ?_)
    have hS := hS.front
    refine g_ef rfl (ef_ap (n := k) (m := 1) (ys := [.slice az nz cz]) hS 1 rfl rfl rfl (.inl ⟨35, .inr ⟨g, 0, 1, _, rfl, Nat.le_refl _, Nat.le_refl _, rfl, (hS.b 0 rfl).r⟩⟩) rfl (by omega) (by omega) fun vo1 w hS => ?_)
    (repeat (first | refine g_sq ?_ | refine g_rg ?_ | refine g_r0 ?_ | refine g_ok rfl rfl ?_ | refine g_no rfl ?_ | refine g_no0 rfl ?_ | refine g_bk ?_ | refine g_b ?_ | refine g_sk ?_ | refine g_cT rfl ?_ | refine g_cF rfl ?_ | refine g_x rfl ?_ | refine g_lb ?_))
    refine g_rq rfl rfl (in64 (by simp only [arv]; omega)) ?_
    (repeat (first | refine g_sq ?_ | refine g_rg ?_ | refine g_r0 ?_ | refine g_ok rfl rfl ?_ | refine g_no rfl ?_ | refine g_no0 rfl ?_ | refine g_bk ?_ | refine g_b ?_ | refine g_sk ?_ | refine g_cT rfl ?_ | refine g_cF rfl ?_ | refine g_x rfl ?_ | refine g_lb ?_))
    refine g_l (k + 1, vo1) ⟨rfl, rfl, rfl, trivial⟩ ⟨by simp only; omega, ?_⟩ (by simp only; omega)
    simp only
    rw [htk, ez]
    exact hS.selB (A := [_, _, _, _, _]) (B := B) [1, 2, 3, 4] rfl rfl
  · have e : k = Z.length := by omega
    subst e
    rw [List.take_length] at hS
    have hrd : RdL vo (J.l.map Grp.b) w := by
      refine ⟨35, Z.map fun z => (z.2, z.1.b), by rw [← k4, List.map_map, List.map_map]; rfl, ?_, fun p hp => ⟨5, hS.ok 3 _ rfl p hp⟩⟩
      rw [List.length_map, List.map_map]
      exact Ow.rd (hS.ok 0 _ rfl)
    have hS := hS.tail
    obtain ⟨S', hS⟩ := RjoR.cls k1 k2 k3 k4 hS
    (repeat (first | refine g_sq ?_ | refine g_rg ?_ | refine g_r0 ?_ | refine g_ok rfl rfl ?_ | refine g_no rfl ?_ | refine g_no0 rfl ?_ | refine g_bk ?_ | refine g_b ?_ | refine g_sk ?_ | refine g_cT rfl ?_ | refine g_cF rfl ?_ | refine g_x rfl ?_ | refine g_lb ?_))
    exact g_ret (q_1 rfl (h _ _ _ hS hrd))
end
end Go.Proofs.Ytegjocpjmfaigaa
