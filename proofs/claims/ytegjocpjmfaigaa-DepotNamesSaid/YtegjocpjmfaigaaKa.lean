/- Calls on a journal that was not made; bytes of texts. -/
import Derived.Test.YtegjocpjmfaigaaJn
import Derived.Test.YtegjocpjmfaigaaSn
set_option linter.unusedSimpArgs false
set_option linter.unusedVariables false
namespace Go.Proofs.Ytegjocpjmfaigaa
open Go.En

def zjou : List Value := [.pointer none, .int .i64 0, .int .i64 0, .slice none 0 0, .int .i64 0, .bool false]
/-- none, or one that was not made -/
def NoJou (p : Value) (L : List Res) : Prop := p = .pointer none ∨ ∃ (b i : Nat), p = dp b ∧ L[i]? = some (cel b zjou 94)
section
variable {w w0 : World} {S0 S : Nat → Prop} {K : Value → World → Prop} {L : List Res} {p : Value}
theorem v91 (hS : St w0 S0 w L) (hp : NoJou p L) (h : K (.bool true) w) : CK Try.prog 91 [p] w K := by
  refine call_k Try.func91 k91 Try.ntmps91 (Nat.le_of_ble_eq_true rfl) ?_
  rcases hp with rfl | ⟨b, i, rfl, hi⟩
  · (repeat (first | refine g_sq ?_ | refine g_rg ?_ | refine g_r0 ?_ | refine g_ok rfl rfl ?_ | refine g_no rfl ?_ | refine g_no0 rfl ?_ | refine g_bk ?_ | refine g_b ?_ | refine g_sk ?_ | refine g_cT rfl ?_ | refine g_cF rfl ?_ | refine g_x rfl ?_ | refine g_lb ?_))
    exact g_ret (q_1 rfl h)
  · (repeat (first | refine g_sq ?_ | refine g_rg ?_ | refine g_r0 ?_ | refine g_ok rfl rfl ?_ | refine g_no rfl ?_ | refine g_no0 rfl ?_ | refine g_bk ?_ | refine g_b ?_ | refine g_sk ?_ | refine g_cT rfl ?_ | refine g_cF rfl ?_ | refine g_x rfl ?_ | refine g_lb ?_))
    refine g_l1 rfl rfl (hS.b i hi) rfl ?_
    (repeat (first | refine g_sq ?_ | refine g_rg ?_ | refine g_r0 ?_ | refine g_ok rfl rfl ?_ | refine g_no rfl ?_ | refine g_no0 rfl ?_ | refine g_bk ?_ | refine g_b ?_ | refine g_sk ?_ | refine g_cT rfl ?_ | refine g_cF rfl ?_ | refine g_x rfl ?_ | refine g_lb ?_))
    exact g_ret (q_1 rfl h)
theorem v42 {u : Value} (hS : St w0 S0 w L) (hp : NoJou p L) (h : K (.int .i64 1) w) : CK Try.prog 42 [p, u] w K := by
  refine call_k Try.func42 k42 Try.ntmps42 (Nat.le_of_ble_eq_true rfl) ?_
  (repeat (first | refine g_sq ?_ | refine g_rg ?_ | refine g_r0 ?_ | refine g_ok rfl rfl ?_ | refine g_no rfl ?_ | refine g_no0 rfl ?_ | refine g_bk ?_ | refine g_b ?_ | refine g_sk ?_ | refine g_cT rfl ?_ | refine g_cF rfl ?_ | refine g_x rfl ?_ | refine g_lb ?_))
  refine g_cl rfl rfl (v91 hS hp ?_)
  (repeat (first | refine g_sq ?_ | refine g_rg ?_ | refine g_r0 ?_ | refine g_ok rfl rfl ?_ | refine g_no rfl ?_ | refine g_no0 rfl ?_ | refine g_bk ?_ | refine g_b ?_ | refine g_sk ?_ | refine g_cT rfl ?_ | refine g_cF rfl ?_ | refine g_x rfl ?_ | refine g_lb ?_))
  exact g_ret (q_1 rfl h)
theorem v48 {n : Int} (hS : St w0 S0 w L) (hp : NoJou p L) (h : K (.int .i64 1) w) : CK Try.prog 48 [p, .int .i64 n] w K := by
  refine call_k Try.func48 k48 Try.ntmps48 (Nat.le_of_ble_eq_true rfl) ?_
  (repeat (first | refine g_sq ?_ | refine g_rg ?_ | refine g_r0 ?_ | refine g_ok rfl rfl ?_ | refine g_no rfl ?_ | refine g_no0 rfl ?_ | refine g_bk ?_ | refine g_b ?_ | refine g_sk ?_ | refine g_cT rfl ?_ | refine g_cF rfl ?_ | refine g_x rfl ?_ | refine g_lb ?_))
  refine g_cl rfl rfl (v91 hS hp ?_)
  (repeat (first | refine g_sq ?_ | refine g_rg ?_ | refine g_r0 ?_ | refine g_ok rfl rfl ?_ | refine g_no rfl ?_ | refine g_no0 rfl ?_ | refine g_bk ?_ | refine g_b ?_ | refine g_sk ?_ | refine g_cT rfl ?_ | refine g_cF rfl ?_ | refine g_x rfl ?_ | refine g_lb ?_))
  exact g_ret (q_1 rfl h)
theorem v47 (hS : St w0 S0 w L) (hp : NoJou p L) (h : K (.slice none 0 0) w) : CK Try.prog 47 [p] w K := by
  refine call_k Try.func47 k47 Try.ntmps47 (Nat.le_of_ble_eq_true rfl) ?_
  (repeat (first | refine g_sq ?_ | refine g_rg ?_ | refine g_r0 ?_ | refine g_ok rfl rfl ?_ | refine g_no rfl ?_ | refine g_no0 rfl ?_ | refine g_bk ?_ | refine g_b ?_ | refine g_sk ?_ | refine g_cT rfl ?_ | refine g_cF rfl ?_ | refine g_x rfl ?_ | refine g_lb ?_))
  refine g_cl rfl rfl (v91 hS hp ?_)
  (repeat (first | refine g_sq ?_ | refine g_rg ?_ | refine g_r0 ?_ | refine g_ok rfl rfl ?_ | refine g_no rfl ?_ | refine g_no0 rfl ?_ | refine g_bk ?_ | refine g_b ?_ | refine g_sk ?_ | refine g_cT rfl ?_ | refine g_cF rfl ?_ | refine g_x rfl ?_ | refine g_lb ?_))
  exact g_ret (q_1 rfl h)
theorem v43 (hS : St w0 S0 w L) (hp : NoJou p L) (h : K (.int .i64 0) w) : CK Try.prog 43 [p] w K := by
  refine call_k Try.func43 k43 Try.ntmps43 (Nat.le_of_ble_eq_true rfl) ?_
  (repeat (first | refine g_sq ?_ | refine g_rg ?_ | refine g_r0 ?_ | refine g_ok rfl rfl ?_ | refine g_no rfl ?_ | refine g_no0 rfl ?_ | refine g_bk ?_ | refine g_b ?_ | refine g_sk ?_ | refine g_cT rfl ?_ | refine g_cF rfl ?_ | refine g_x rfl ?_ | refine g_lb ?_))
  refine g_cl rfl rfl (v91 hS hp ?_)
  (repeat (first | refine g_sq ?_ | refine g_rg ?_ | refine g_r0 ?_ | refine g_ok rfl rfl ?_ | refine g_no rfl ?_ | refine g_no0 rfl ?_ | refine g_bk ?_ | refine g_b ?_ | refine g_sk ?_ | refine g_cT rfl ?_ | refine g_cF rfl ?_ | refine g_x rfl ?_ | refine g_lb ?_))
  exact g_ret (q_1 rfl h)
theorem v41 (hS : St w0 S0 w L) (hp : NoJou p L) (h : K (.int .i64 0) w) : CK Try.prog 41 [p] w K := by
  refine call_k Try.func41 k41 Try.ntmps41 (Nat.le_of_ble_eq_true rfl) ?_
  (repeat (first | refine g_sq ?_ | refine g_rg ?_ | refine g_r0 ?_ | refine g_ok rfl rfl ?_ | refine g_no rfl ?_ | refine g_no0 rfl ?_ | refine g_bk ?_ | refine g_b ?_ | refine g_sk ?_ | refine g_cT rfl ?_ | refine g_cF rfl ?_ | refine g_x rfl ?_ | refine g_lb ?_))
  refine g_cl rfl rfl (v91 hS hp ?_)
  (repeat (first | refine g_sq ?_ | refine g_rg ?_ | refine g_r0 ?_ | refine g_ok rfl rfl ?_ | refine g_no rfl ?_ | refine g_no0 rfl ?_ | refine g_bk ?_ | refine g_b ?_ | refine g_sk ?_ | refine g_cT rfl ?_ | refine g_cF rfl ?_ | refine g_x rfl ?_ | refine g_lb ?_))
  exact g_ret (q_1 rfl h)
theorem v45 (hS : St w0 S0 w L) (hp : NoJou p L) (h : K (.int .i64 0) w) : CK Try.prog 45 [p] w K := by
  refine call_k Try.func45 k45 Try.ntmps45 (Nat.le_of_ble_eq_true rfl) ?_
  (repeat (first | refine g_sq ?_ | refine g_rg ?_ | refine g_r0 ?_ | refine g_ok rfl rfl ?_ | refine g_no rfl ?_ | refine g_no0 rfl ?_ | refine g_bk ?_ | refine g_b ?_ | refine g_sk ?_ | refine g_cT rfl ?_ | refine g_cF rfl ?_ | refine g_x rfl ?_ | refine g_lb ?_))
  refine g_cl rfl rfl (v91 hS hp ?_)
  (repeat (first | refine g_sq ?_ | refine g_rg ?_ | refine g_r0 ?_ | refine g_ok rfl rfl ?_ | refine g_no rfl ?_ | refine g_no0 rfl ?_ | refine g_bk ?_ | refine g_b ?_ | refine g_sk ?_ | refine g_cT rfl ?_ | refine g_cF rfl ?_ | refine g_x rfl ?_ | refine g_lb ?_))
  exact g_ret (q_1 rfl h)
theorem v49 (hS : St w0 S0 w L) (hp : NoJou p L) (h : K (.int .i64 0) w) : CK Try.prog 49 [p] w K := by
  refine call_k Try.func49 k49 Try.ntmps49 (Nat.le_of_ble_eq_true rfl) ?_
  (repeat (first | refine g_sq ?_ | refine g_rg ?_ | refine g_r0 ?_ | refine g_ok rfl rfl ?_ | refine g_no rfl ?_ | refine g_no0 rfl ?_ | refine g_bk ?_ | refine g_b ?_ | refine g_sk ?_ | refine g_cT rfl ?_ | refine g_cF rfl ?_ | refine g_x rfl ?_ | refine g_lb ?_))
  refine g_cl rfl rfl (v91 hS hp ?_)
  (repeat (first | refine g_sq ?_ | refine g_rg ?_ | refine g_r0 ?_ | refine g_ok rfl rfl ?_ | refine g_no rfl ?_ | refine g_no0 rfl ?_ | refine g_bk ?_ | refine g_b ?_ | refine g_sk ?_ | refine g_cT rfl ?_ | refine g_cF rfl ?_ | refine g_x rfl ?_ | refine g_lb ?_))
  exact g_ret (q_1 rfl h)
theorem v44 (hS : St w0 S0 w L) (hp : NoJou p L) (h : K (.int .i64 0) w) : CK Try.prog 44 [p] w K := by
  refine call_k Try.func44 k44 Try.ntmps44 (Nat.le_of_ble_eq_true rfl) ?_
  (repeat (first | refine g_sq ?_ | refine g_rg ?_ | refine g_r0 ?_ | refine g_ok rfl rfl ?_ | refine g_no rfl ?_ | refine g_no0 rfl ?_ | refine g_bk ?_ | refine g_b ?_ | refine g_sk ?_ | refine g_cT rfl ?_ | refine g_cF rfl ?_ | refine g_x rfl ?_ | refine g_lb ?_))
  refine g_cl rfl rfl (v91 hS hp ?_)
  (repeat (first | refine g_sq ?_ | refine g_rg ?_ | refine g_r0 ?_ | refine g_ok rfl rfl ?_ | refine g_no rfl ?_ | refine g_no0 rfl ?_ | refine g_bk ?_ | refine g_b ?_ | refine g_sk ?_ | refine g_cT rfl ?_ | refine g_cF rfl ?_ | refine g_x rfl ?_ | refine g_lb ?_))
  exact g_ret (q_1 rfl h)
theorem v39 {fr bk : Int} (hS : St w0 S0 w L) (hp : NoDev p L) (h : K (.tuple ⟨[.pointer none, .int .i64 1]⟩) w) : CK Try.prog 39 [p, .int .i64 fr, .int .i64 bk] w K := by
  refine call_k Try.func39 k39 Try.ntmps39 (Nat.le_of_ble_eq_true rfl) ?_
  (repeat (first | refine g_sq ?_ | refine g_rg ?_ | refine g_r0 ?_ | refine g_ok rfl rfl ?_ | refine g_no rfl ?_ | refine g_no0 rfl ?_ | refine g_bk ?_ | refine g_b ?_ | refine g_sk ?_ | refine g_cT rfl ?_ | refine g_cF rfl ?_ | refine g_x rfl ?_ | refine g_lb ?_))
  refine g_sc rfl ?_
  (repeat (first | refine g_sq ?_ | refine g_rg ?_ | refine g_r0 ?_ | refine g_ok rfl rfl ?_ | refine g_no rfl ?_ | refine g_no0 rfl ?_ | refine g_bk ?_ | refine g_b ?_ | refine g_sk ?_ | refine g_cT rfl ?_ | refine g_cF rfl ?_ | refine g_x rfl ?_ | refine g_lb ?_))
  refine g_cl rfl rfl (u36 hS hp ?_)
  (repeat (first | refine g_sq ?_ | refine g_rg ?_ | refine g_r0 ?_ | refine g_ok rfl rfl ?_ | refine g_no rfl ?_ | refine g_no0 rfl ?_ | refine g_bk ?_ | refine g_b ?_ | refine g_sk ?_ | refine g_cT rfl ?_ | refine g_cF rfl ?_ | refine g_x rfl ?_ | refine g_lb ?_))
  exact g_ret (q_2 rfl rfl h)
/-- bytes of texts -/
theorem b55 {v : Value} {E : Nat} {l : List (List UInt8)} (hr : Rd v E 1 l.length (sts l) w) (hn : l.length ≤ 1000) (h : ∀ w' S2 v', St w (fun _ => False) w' [BsR S2 v' l] → K v' w') : CK Try.prog 55 [v] w K := by
  have hro : ∀ {w' : World} {L' : List Res}, St w (fun _ => False) w' L' → Rd v E 1 l.length (sts l) w' := fun hS => hS.ro (r := rdR v E 1 l.length (sts l)) hr fun x hx => ⟨hr.lt x hx, fun h => h⟩
  obtain ⟨a, c, rfl⟩ := Rd.form hr
  refine call_k Try.func55 k55 Try.ntmps55 (Nat.le_of_ble_eq_true rfl) ?_
  (repeat (first | refine g_sq ?_ | refine g_rg ?_ | refine g_r0 ?_ | refine g_ok rfl rfl ?_ | refine g_no rfl ?_ | refine g_no0 rfl ?_ | refine g_bk ?_ | refine g_b ?_ | refine g_sk ?_ | refine g_cT rfl ?_ | refine g_cF rfl ?_ | refine g_x rfl ?_ | refine g_lb ?_))
  have hS := pool_nil ((St.nil w (fun _ => False)).nilrow 35 1)
  refine g_lp (ι := Nat × Value) (fun x => [(3, x.2), (6, .slice a l.length c), (7, .int .i64 l.length), (8, .int .i64 x.1)])
    (fun x w' => x.1 ≤ l.length ∧ ∃ Z : BZ, Z.map Prod.snd = l.take x.1 ∧ Z.length = x.1 ∧ St w (fun _ => False) w' [row x.2 35 1 Z.length (Z.map Prod.fst), pool Z]) (fun x => l.length - x.1) (0, .slice none 0 0) ⟨rfl, rfl, rfl, rfl, trivial⟩ ⟨Nat.zero_le _, [], rfl, rfl, hS⟩ ?_
  clear hS
  rintro ⟨k, vo⟩ w1 ⟨hk, Z, hZ, hZk, hS⟩
  simp only at hk hZ hZk hS
  (repeat (first | refine g_sq ?_ | refine g_rg ?_ | refine g_r0 ?_ | refine g_ok rfl rfl ?_ | refine g_no rfl ?_ | refine g_no0 rfl ?_ | refine g_bk ?_ | refine g_b ?_ | refine g_sk ?_ | refine g_cT rfl ?_ | refine g_cF rfl ?_ | refine g_x rfl ?_ | refine g_lb ?_))
  refine g_cd rfl (fun hc => ?_) (fun hc => ?_)
  all_goals simp only [cmv, decide_eq_true_eq, decide_eq_false_iff_not] at hc
  · obtain ⟨s, hs⟩ : ∃ s, l[k]? = some s := ⟨_, List.getElem?_eq_getElem (by omega)⟩
    obtain ⟨b1, o1, c1, l1, e1, _, hB1, hx1⟩ := (hro hS).cellr (k := k) (by omega)
    cases e1
    rw [sts_get hs] at hx1
    (repeat (first | refine g_sq ?_ | refine g_rg ?_ | refine g_r0 ?_ | refine g_ok rfl rfl ?_ | refine g_no rfl ?_ | refine g_no0 rfl ?_ | refine g_bk ?_ | refine g_b ?_ | refine g_sk ?_ | refine g_cT rfl ?_ | refine g_cF rfl ?_ | refine g_x rfl ?_ | refine g_lb ?_))
    refine g_rq rfl rfl ⟨by omega, by omega⟩ ?_
    refine g_l1r rfl rfl hB1 hx1 ?_
    (repeat (first | refine g_sq ?_ | refine g_rg ?_ | refine g_r0 ?_ | refine g_ok rfl rfl ?_ | refine g_no rfl ?_ | refine g_no0 rfl ?_ | refine g_bk ?_ | refine g_b ?_ | refine g_sk ?_ | refine g_cT rfl ?_ | refine g_cF rfl ?_ | refine g_x rfl ?_ | refine g_lb ?_))
    refine g_ef rfl (ef_sb hS rfl fun v' w1 hS hv' => ?_)
    have hS : St w (fun _ => False) w1 [row vo 35 1 Z.length (Z.map Prod.fst), pool Z, row v' 5 1 s.length (bys s)] := hS
    obtain ⟨a', c', rfl⟩ := hS.rlen 2 rfl
    refine g_ef rfl (ef_bl (rs := [.slice a' s.length c']) hS rfl fun g w1 hS => ?_)
    refine g_ef rfl (ef_ap (n := Z.length) (m := 1) (ys := [.slice a' s.length c']) hS 0 rfl rfl rfl (.inl ⟨35, .inr ⟨g, 0, 1, _, rfl, Nat.le_refl _, Nat.le_refl _, rfl, (hS.b 3 rfl).r⟩⟩) rfl (by omega) (by omega) fun vo1 w1 hS => ?_)
    have hS := hS.pool_add (M := Z) (v := .slice a' s.length c') (bs := s) 1 2 rfl rfl (by decide)
    (repeat (first | refine g_sq ?_ | refine g_rg ?_ | refine g_r0 ?_ | refine g_ok rfl rfl ?_ | refine g_no rfl ?_ | refine g_no0 rfl ?_ | refine g_bk ?_ | refine g_b ?_ | refine g_sk ?_ | refine g_cT rfl ?_ | refine g_cF rfl ?_ | refine g_x rfl ?_ | refine g_lb ?_))
    refine g_rq rfl rfl (in64 (by simp only [arv]; omega)) ?_
    (repeat (first | refine g_sq ?_ | refine g_rg ?_ | refine g_r0 ?_ | refine g_ok rfl rfl ?_ | refine g_no rfl ?_ | refine g_no0 rfl ?_ | refine g_bk ?_ | refine g_b ?_ | refine g_sk ?_ | refine g_cT rfl ?_ | refine g_cF rfl ?_ | refine g_x rfl ?_ | refine g_lb ?_))
    refine g_l (k + 1, vo1) ⟨rfl, rfl, rfl, rfl, trivial⟩ ⟨by simp only; omega, Z ++ [(.slice a' s.length c', s)], ?_, by simp [hZk], ?_⟩ (by simp only; omega)
    · have hl := (List.getElem?_eq_some_iff.1 hs).1
      simp only
      rw [List.map_append, hZ, List.take_succ_eq_append_getElem hl, (List.getElem?_eq_some_iff.1 hs).2]
      rfl
    · have e1 : (Z ++ [(Value.slice a' s.length c', s)]).length = Z.length + 1 := by simp
      have e2 : (Z ++ [(Value.slice a' s.length c', s)]).map Prod.fst = Z.map Prod.fst ++ [.slice a' s.length c'] := by simp
      rw [e1, e2]
      exact hS.sel [0, 1] rfl rfl
  · rw [List.take_of_length_le (by omega)] at hZ
    obtain ⟨S2, hS⟩ := BsR.cls hZ hS
    (repeat (first | refine g_sq ?_ | refine g_rg ?_ | refine g_r0 ?_ | refine g_ok rfl rfl ?_ | refine g_no rfl ?_ | refine g_no0 rfl ?_ | refine g_bk ?_ | refine g_b ?_ | refine g_sk ?_ | refine g_cT rfl ?_ | refine g_cF rfl ?_ | refine g_x rfl ?_ | refine g_lb ?_))
    exact g_ret (q_1 rfl (h _ _ _ hS))
theorem c55 {g : Nat} {l : List (List UInt8)} (hS : St w0 S0 w L) (hB : Blr w g (sts l) 9) (hn : l.length ≤ 1000) (h : ∀ w' S2 v', St w0 S0 w' (L ++ [BsR S2 v' l]) → K v' w') : CK Try.prog 55 [.slice (some ⟨g, 0, none⟩) l.length l.length] w K :=
  b55 (E := 9) (.inr ⟨g, 0, l.length, _, rfl, Nat.le_refl _, by rw [sts_len]; omega, by rw [List.drop_zero, List.take_of_length_le (by rw [sts_len]; omega)], hB⟩) hn fun w' S2 v' h' => h w' S2 v' (hS.call0.2 w' _ h')
end
end Go.Proofs.Ytegjocpjmfaigaa
