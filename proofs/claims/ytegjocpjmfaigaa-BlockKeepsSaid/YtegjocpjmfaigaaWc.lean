/- Walks of the device: a crash. -/
import Derived.Test.YtegjocpjmfaigaaWb
set_option linter.unusedSimpArgs false
set_option linter.unusedVariables false
namespace Go.Proofs.Ytegjocpjmfaigaa
open Go.En

/-- with how many bytes a fall keeps a write -/
def mny (f : Fal) (i : Nat) : Int := if (i : Int) < f.k then 128 else if (i : Int) = max 0 f.k then max 0 (min f.t 128) else 0

section
variable {w w0 : World} {S0 : Nat → Prop} {K : Value → World → Prop} {b b4 b5 l : Nat} {vc vw : Value} {D : Dev}
theorem wv_flat {ws : List (Int × List UInt8)} (hw : ∀ x ∈ ws, x.2.length = 128) : ∀ l ∈ ws.map wv, l.length = 129 := fun l hl => by
  simp only [List.mem_map] at hl
  obtain ⟨c, hcm, rfl⟩ := hl
  exact wv_len (hw c hcm)
theorem d126 {X : Nat → List Res} {f : Fal} (hw : ∀ x ∈ D.waits, x.2.length = 128) (hn : D.waits.length < 1152921504606846976)
    (hS : St w0 S0 w (cel b (DevC vc vw D) 65 :: cel b4 [dp b] 24 :: cel b5 [.int .i64 f.a, .int .i64 f.k, .int .i64 f.t] 37 :: row vw 124 129 D.waits.length (fw D.waits) :: X 0))
    (hy : ∀ (k : Nat) (x : Int × List UInt8) (w : World), D.waits[k]? = some x → St w0 S0 w (cel b (DevC vc vw D) 65 :: cel b4 [dp b] 24 :: cel b5 [.int .i64 f.a, .int .i64 f.k, .int .i64 f.t] 37 :: row vw 124 129 D.waits.length (fw D.waits) :: X k) →
      Yd Try.prog l [.agg ⟨wv x⟩, .int .i64 (mny f k)] w fun v w' => (v = .bool true ∧ St w0 S0 w' (cel b (DevC vc vw D) 65 :: cel b4 [dp b] 24 :: cel b5 [.int .i64 f.a, .int .i64 f.k, .int .i64 f.t] 37 :: row vw 124 129 D.waits.length (fw D.waits) :: X (k + 1))) ∨ (v = .bool false ∧ K (.tuple ⟨[]⟩) w'))
    (he : ∀ w, St w0 S0 w (cel b (DevC vc vw D) 65 :: cel b4 [dp b] 24 :: cel b5 [.int .i64 f.a, .int .i64 f.k, .int .i64 f.t] 37 :: row vw 124 129 D.waits.length (fw D.waits) :: X D.waits.length) → K (.tuple ⟨[]⟩) w) :
    CK Try.prog 126 [.func (.yield l) ⟨[]⟩ ⟨[]⟩, dp b4, dp b5] w K := by
  refine call_k Try.func126 k126 Try.ntmps126 (Nat.le_of_ble_eq_true rfl) ?_
  obtain ⟨a, c, rfl⟩ := hS.rlen 3 rfl
  (repeat (first | refine g_sq ?_ | refine g_rg ?_ | refine g_r0 ?_ | refine g_ok rfl rfl ?_ | refine g_no rfl ?_ | refine g_no0 rfl ?_ | refine g_bk ?_ | refine g_b ?_ | refine g_sk ?_ | refine g_cT rfl ?_ | refine g_cF rfl ?_ | refine g_x rfl ?_ | refine g_lb ?_))
  refine g_l1 rfl rfl (hS.b  1 rfl) rfl ?_
  (repeat (first | refine g_sq ?_ | refine g_rg ?_ | refine g_r0 ?_ | refine g_ok rfl rfl ?_ | refine g_no rfl ?_ | refine g_no0 rfl ?_ | refine g_bk ?_ | refine g_b ?_ | refine g_sk ?_ | refine g_cT rfl ?_ | refine g_cF rfl ?_ | refine g_x rfl ?_ | refine g_lb ?_))
  refine g_l1 rfl rfl (hS.b  0 rfl) rfl ?_
  (repeat (first | refine g_sq ?_ | refine g_rg ?_ | refine g_r0 ?_ | refine g_ok rfl rfl ?_ | refine g_no rfl ?_ | refine g_no0 rfl ?_ | refine g_bk ?_ | refine g_b ?_ | refine g_sk ?_ | refine g_cT rfl ?_ | refine g_cF rfl ?_ | refine g_x rfl ?_ | refine g_lb ?_))
  refine g_lp (ι := Nat) (fun k => [(0, .func (.yield l) ⟨[]⟩ ⟨[]⟩), (1, dp b4), (2, dp b5), (10, .slice a D.waits.length c), (11, .int .i64 D.waits.length), (12, .int .i64 k)])
    (fun k w => k ≤ D.waits.length ∧ St w0 S0 w (cel b (DevC vc (.slice a D.waits.length c) D) 65 :: cel b4 [dp b] 24 :: cel b5 [.int .i64 f.a, .int .i64 f.k, .int .i64 f.t] 37 :: row (.slice a D.waits.length c) 124 129 D.waits.length (fw D.waits) :: X k)) (fun k => D.waits.length - k) 0 ⟨rfl, rfl, rfl, rfl, rfl, rfl, trivial⟩ ⟨Nat.zero_le _, hS⟩ ?_
  clear hS
  rintro k w ⟨hk, hS⟩
  (repeat (first | refine g_sq ?_ | refine g_rg ?_ | refine g_r0 ?_ | refine g_ok rfl rfl ?_ | refine g_no rfl ?_ | refine g_no0 rfl ?_ | refine g_bk ?_ | refine g_b ?_ | refine g_sk ?_ | refine g_cT rfl ?_ | refine g_cF rfl ?_ | refine g_x rfl ?_ | refine g_lb ?_))
  refine g_cd rfl (fun hc => ?_) (fun hc => ?_)
  · have hlt : k < D.waits.length := by simp only [cmv, decide_eq_true_eq] at hc; omega
    obtain ⟨a', m', c', hv⟩ := hS.rowb 3 rfl (by omega)
    cases hv
    have ho := hS.ok 3 _ rfl
    rcases ho with ⟨hv, _⟩ | ⟨bw, cap, rest, hv, hcap, hxl, hl, hB⟩
    · cases hv
    cases hv
    (repeat (first | refine g_sq ?_ | refine g_rg ?_ | refine g_r0 ?_ | refine g_ok rfl rfl ?_ | refine g_no rfl ?_ | refine g_no0 rfl ?_ | refine g_bk ?_ | refine g_b ?_ | refine g_sk ?_ | refine g_cT rfl ?_ | refine g_cF rfl ?_ | refine g_x rfl ?_ | refine g_lb ?_))
    refine g_rq rfl rfl ⟨by omega, by omega⟩ ?_
    have hx := hlt
    have hfl := wv_flat hw
    refine g_lm rfl rfl hB ?_ ?_
    · show 0 + k * 129 + 129 ≤ _
      rw [hl]
      omega
    have e : List.take 129 (List.drop (0 + k * 129) (fw D.waits ++ rest)) = wv D.waits[k] := by
      rw [Nat.zero_add, fw, flat_get hfl (by simpa using hlt)]
      simp
    rw [show ((k : Int).toNat) = k from rfl, e]
    refine g_ef rfl (ef_al hS fun g w hS => ?_)
    have hS := hS.front
    (repeat (first | refine g_sq ?_ | refine g_rg ?_ | refine g_r0 ?_ | refine g_ok rfl rfl ?_ | refine g_no rfl ?_ | refine g_no0 rfl ?_ | refine g_bk ?_ | refine g_b ?_ | refine g_sk ?_ | refine g_cT rfl ?_ | refine g_cF rfl ?_ | refine g_x rfl ?_ | refine g_lb ?_))
    refine g_ef0 rfl (ef_st hS 0 rfl rfl rfl (wv_len (hw _ (List.getElem_mem hlt))) (by simp [zx]) (wv_one _) fun w hS => ?_)
    have hcs : spl (zx [(1, Value.int .i64 0), (128, Value.int .u8 0)]) 0 (wv D.waits[k]) = wv D.waits[k] := by
      have h1 := wv_len (hw _ (List.getElem_mem hlt))
      simp [spl, h1, zx]
    have hS : St w0 S0 w (cel g (wv D.waits[k]) 124 :: cel b (DevC vc (.slice (some ⟨bw, 0, none⟩) D.waits.length c) D) 65 :: cel b4 [dp b] 24 :: cel b5 [.int .i64 f.a, .int .i64 f.k, .int .i64 f.t] 37 :: row (.slice (some ⟨bw, 0, none⟩) D.waits.length c) 124 129 D.waits.length (fw D.waits) :: X k) := by
      rw [← hcs]; exact hS
    (repeat (first | refine g_sq ?_ | refine g_rg ?_ | refine g_r0 ?_ | refine g_ok rfl rfl ?_ | refine g_no rfl ?_ | refine g_no0 rfl ?_ | refine g_bk ?_ | refine g_b ?_ | refine g_sk ?_ | refine g_cT rfl ?_ | refine g_cF rfl ?_ | refine g_x rfl ?_ | refine g_lb ?_))
    refine g_at 3 [(0, .func (.yield l) ⟨[]⟩ ⟨[]⟩), (1, dp b4), (2, dp b5), (10, .slice (some ⟨bw, 0, none⟩) D.waits.length c), (11, .int .i64 D.waits.length), (12, .int .i64 k), (5, dp g), (6, .int .i64 (mny f k))] (fun w => St w0 S0 w (cel g (wv D.waits[k]) 124 :: cel b (DevC vc (.slice (some ⟨bw, 0, none⟩) D.waits.length c) D) 65 :: cel b4 [dp b] 24 :: cel b5 [.int .i64 f.a, .int .i64 f.k, .int .i64 f.t] 37 :: row (.slice (some ⟨bw, 0, none⟩) D.waits.length c) 124 129 D.waits.length (fw D.waits) :: X k)) rfl ?_ ?_
    · (repeat (first | refine g_sq ?_ | refine g_rg ?_ | refine g_r0 ?_ | refine g_ok rfl rfl ?_ | refine g_no rfl ?_ | refine g_no0 rfl ?_ | refine g_bk ?_ | refine g_b ?_ | refine g_sk ?_ | refine g_cT rfl ?_ | refine g_cF rfl ?_ | refine g_x rfl ?_ | refine g_lb ?_))
      refine g_l1 rfl rfl (hS.b  3 rfl) rfl ?_
      (repeat (first | refine g_sq ?_ | refine g_rg ?_ | refine g_r0 ?_ | refine g_ok rfl rfl ?_ | refine g_no rfl ?_ | refine g_no0 rfl ?_ | refine g_bk ?_ | refine g_b ?_ | refine g_sk ?_ | refine g_cT rfl ?_ | refine g_cF rfl ?_ | refine g_x rfl ?_ | refine g_lb ?_))
      refine g_cd rfl (fun h1 => ?_) (fun h1 => ?_)
      all_goals simp only [cmv, decide_eq_true_eq, decide_eq_false_iff_not] at h1
      · (repeat (first | refine g_sq ?_ | refine g_rg ?_ | refine g_r0 ?_ | refine g_ok rfl rfl ?_ | refine g_no rfl ?_ | refine g_no0 rfl ?_ | refine g_bk ?_ | refine g_b ?_ | refine g_sk ?_ | refine g_cT rfl ?_ | refine g_cF rfl ?_ | refine g_x rfl ?_ | refine g_lb ?_))
        refine g_j ⟨rfl, rfl, rfl, rfl, rfl, rfl, rfl, ?_, trivial⟩ hS
        simp only [mny, if_pos h1]
        rfl
      · (repeat (first | refine g_sq ?_ | refine g_rg ?_ | refine g_r0 ?_ | refine g_ok rfl rfl ?_ | refine g_no rfl ?_ | refine g_no0 rfl ?_ | refine g_bk ?_ | refine g_b ?_ | refine g_sk ?_ | refine g_cT rfl ?_ | refine g_cF rfl ?_ | refine g_x rfl ?_ | refine g_lb ?_))
        refine g_l1 rfl rfl (hS.b  3 rfl) rfl ?_
        (repeat (first | refine g_sq ?_ | refine g_rg ?_ | refine g_r0 ?_ | refine g_ok rfl rfl ?_ | refine g_no rfl ?_ | refine g_no0 rfl ?_ | refine g_bk ?_ | refine g_b ?_ | refine g_sk ?_ | refine g_cT rfl ?_ | refine g_cF rfl ?_ | refine g_x rfl ?_ | refine g_lb ?_))
        refine g_cd rfl (fun h2 => ?_) (fun h2 => ?_)
        all_goals simp only [cmv, decide_eq_true_eq, decide_eq_false_iff_not] at h2
        · (repeat (first | refine g_sq ?_ | refine g_rg ?_ | refine g_r0 ?_ | refine g_ok rfl rfl ?_ | refine g_no rfl ?_ | refine g_no0 rfl ?_ | refine g_bk ?_ | refine g_b ?_ | refine g_sk ?_ | refine g_cT rfl ?_ | refine g_cF rfl ?_ | refine g_x rfl ?_ | refine g_lb ?_))
          refine g_l1 rfl rfl (hS.b  3 rfl) rfl ?_
          (repeat (first | refine g_sq ?_ | refine g_rg ?_ | refine g_r0 ?_ | refine g_ok rfl rfl ?_ | refine g_no rfl ?_ | refine g_no0 rfl ?_ | refine g_bk ?_ | refine g_b ?_ | refine g_sk ?_ | refine g_cT rfl ?_ | refine g_cF rfl ?_ | refine g_x rfl ?_ | refine g_lb ?_))
          refine g_j ⟨rfl, rfl, rfl, rfl, rfl, rfl, rfl, ?_, trivial⟩ hS
          simp only [mny, if_neg h1, if_pos h2]
          rfl
        · (repeat (first | refine g_sq ?_ | refine g_rg ?_ | refine g_r0 ?_ | refine g_ok rfl rfl ?_ | refine g_no rfl ?_ | refine g_no0 rfl ?_ | refine g_bk ?_ | refine g_b ?_ | refine g_sk ?_ | refine g_cT rfl ?_ | refine g_cF rfl ?_ | refine g_x rfl ?_ | refine g_lb ?_))
          refine g_j ⟨rfl, rfl, rfl, rfl, rfl, rfl, rfl, ?_, trivial⟩ hS
          simp only [mny, if_neg h1, if_neg h2]
          rfl
    · clear hS
      intro T w hT hS
      refine g_wkc hT ?_
      (repeat (first | refine g_sq ?_ | refine g_rg ?_ | refine g_r0 ?_ | refine g_ok rfl rfl ?_ | refine g_no rfl ?_ | refine g_no0 rfl ?_ | refine g_bk ?_ | refine g_b ?_ | refine g_sk ?_ | refine g_cT rfl ?_ | refine g_cF rfl ?_ | refine g_x rfl ?_ | refine g_lb ?_))
      refine g_lm rfl rfl (hS.b 0 rfl) (by rw [wv_len (hw _ (List.getElem_mem hlt))]; decide) ?_
      rw [show List.take 129 (List.drop 0 (wv D.waits[k])) = wv D.waits[k] by rw [List.drop_zero, List.take_of_length_le (by rw [wv_len (hw _ (List.getElem_mem hlt))]; omega)]]
      (repeat (first | refine g_sq ?_ | refine g_rg ?_ | refine g_r0 ?_ | refine g_ok rfl rfl ?_ | refine g_no rfl ?_ | refine g_no0 rfl ?_ | refine g_bk ?_ | refine g_b ?_ | refine g_sk ?_ | refine g_cT rfl ?_ | refine g_cF rfl ?_ | refine g_x rfl ?_ | refine g_lb ?_))
      refine g_ef rfl (ef_yd rfl rfl ((hy k D.waits[k] w (List.getElem?_eq_getElem hlt) hS.tail).mono ?_))
      rintro v w' (⟨rfl, hS⟩ | ⟨rfl, hK⟩)
      · (repeat (first | refine g_sq ?_ | refine g_rg ?_ | refine g_r0 ?_ | refine g_ok rfl rfl ?_ | refine g_no rfl ?_ | refine g_no0 rfl ?_ | refine g_bk ?_ | refine g_b ?_ | refine g_sk ?_ | refine g_cT rfl ?_ | refine g_cF rfl ?_ | refine g_x rfl ?_ | refine g_lb ?_))
        refine g_rq rfl rfl (in64 (by simp only [arv]; omega)) ?_
        (repeat (first | refine g_sq ?_ | refine g_rg ?_ | refine g_r0 ?_ | refine g_ok rfl rfl ?_ | refine g_no rfl ?_ | refine g_no0 rfl ?_ | refine g_bk ?_ | refine g_b ?_ | refine g_sk ?_ | refine g_cT rfl ?_ | refine g_cF rfl ?_ | refine g_x rfl ?_ | refine g_lb ?_))
        exact g_l (k + 1) ⟨rfl, rfl, rfl, rfl, rfl, rfl, trivial⟩ ⟨by omega, hS⟩ (by omega)
      · (repeat (first | refine g_sq ?_ | refine g_rg ?_ | refine g_r0 ?_ | refine g_ok rfl rfl ?_ | refine g_no rfl ?_ | refine g_no0 rfl ?_ | refine g_bk ?_ | refine g_b ?_ | refine g_sk ?_ | refine g_cT rfl ?_ | refine g_cF rfl ?_ | refine g_x rfl ?_ | refine g_lb ?_))
        exact g_ret (q_0 hK)
  · have hlt : ¬ k < D.waits.length := by simp only [cmv, decide_eq_false_iff_not] at hc; omega
    have : k = D.waits.length := by omega
    subst this
    (repeat (first | refine g_sq ?_ | refine g_rg ?_ | refine g_r0 ?_ | refine g_ok rfl rfl ?_ | refine g_no rfl ?_ | refine g_no0 rfl ?_ | refine g_bk ?_ | refine g_b ?_ | refine g_sk ?_ | refine g_cT rfl ?_ | refine g_cF rfl ?_ | refine g_x rfl ?_ | refine g_lb ?_))
    exact q_n (he _ hS)
theorem d111 {L : List Res} {v : Value} (hS : St w0 S0 w L) (h : ∀ b4 b5 w', St w0 S0 w' (L ++ [cel b4 [dp b] 24] ++ [cel b5 v.cells.toList 37]) → K (.func (.func 126) ⟨[]⟩ ⟨[dp b4, dp b5]⟩) w') : CK Try.prog 111 [dp b, v] w K := by
  refine call_k Try.func111 k111 Try.ntmps111 (Nat.le_of_ble_eq_true rfl) ?_
  (repeat (first | refine g_sq ?_ | refine g_rg ?_ | refine g_r0 ?_ | refine g_ok rfl rfl ?_ | refine g_no rfl ?_ | refine g_no0 rfl ?_ | refine g_bk ?_ | refine g_b ?_ | refine g_sk ?_ | refine g_cT rfl ?_ | refine g_cF rfl ?_ | refine g_x rfl ?_ | refine g_lb ?_))
  refine g_ef rfl (ef_bx hS rfl fun b4 w hS => ?_)
  (repeat (first | refine g_sq ?_ | refine g_rg ?_ | refine g_r0 ?_ | refine g_ok rfl rfl ?_ | refine g_no rfl ?_ | refine g_no0 rfl ?_ | refine g_bk ?_ | refine g_b ?_ | refine g_sk ?_ | refine g_cT rfl ?_ | refine g_cF rfl ?_ | refine g_x rfl ?_ | refine g_lb ?_))
  refine g_ef rfl (ef_bx hS rfl fun b5 w hS => ?_)
  (repeat (first | refine g_sq ?_ | refine g_rg ?_ | refine g_r0 ?_ | refine g_ok rfl rfl ?_ | refine g_no rfl ?_ | refine g_no0 rfl ?_ | refine g_bk ?_ | refine g_b ?_ | refine g_sk ?_ | refine g_cT rfl ?_ | refine g_cF rfl ?_ | refine g_x rfl ?_ | refine g_lb ?_))
  exact g_ret (q_1 rfl (h _ _ _ hS))
end

/-- what a crash makes of the blocks -/
def crashC (f : Fal) : Nat → List (Int × List UInt8) → List (List UInt8) → List (List UInt8)
  | _, [], cs => cs
  | i, x :: xs, cs => if mny f i = 0 then cs else crashC f (i + 1) xs (putB cs x (mny f i).toNat)
theorem crash_app (f : Fal) : ∀ (xs ys : List (Int × List UInt8)) (i : Nat) (cs : List (List UInt8)), (∀ j, j < xs.length → mny f (i + j) ≠ 0) → crashC f i (xs ++ ys) cs = crashC f (i + xs.length) ys (crashC f i xs cs)
  | [], ys, i, cs, _ => rfl
  | x :: xs, ys, i, cs, h => by
    have h0 : mny f i ≠ 0 := h 0 (by simp)
    simp only [List.cons_append, crashC, if_neg h0, List.length_cons]
    rw [crash_app f xs ys (i + 1) _ (fun j hj => by have := h (j + 1) (by simpa using hj); rwa [show i + 1 + j = i + (j + 1) by omega])]
    congr 1
    omega
theorem crash_step {f : Fal} {ws : List (Int × List UInt8)} {cs : List (List UInt8)} {k : Nat} {x : Int × List UInt8} (h : ∀ j, j < k → mny f j ≠ 0) (hx : ws[k]? = some x) (h0 : mny f k ≠ 0) : crashC f 0 (ws.take (k + 1)) cs = putB (crashC f 0 (ws.take k) cs) x (mny f k).toNat := by
  have hlt := (List.getElem?_eq_some_iff.1 hx).1
  have hl : (ws.take k).length = k := by rw [List.length_take]; omega
  rw [List.take_add_one, hx, crash_app f _ _ 0 cs (fun j hj => by rw [Nat.zero_add]; exact h j (by omega)), hl]
  simp [crashC, h0]
theorem crash_stop {f : Fal} {ws : List (Int × List UInt8)} {cs : List (List UInt8)} {k : Nat} {x : Int × List UInt8} (h : ∀ j, j < k → mny f j ≠ 0) (hx : ws[k]? = some x) (h0 : mny f k = 0) : crashC f 0 ws cs = crashC f 0 (ws.take k) cs := by
  have hlt := (List.getElem?_eq_some_iff.1 hx).1
  have hl : (ws.take k).length = k := by rw [List.length_take]; omega
  conv => lhs; rw [← List.take_append_drop k ws]
  rw [crash_app f _ _ 0 cs (fun j hj => by rw [Nat.zero_add]; exact h j (by omega)), hl, List.drop_eq_getElem_cons hlt]
  simp [crashC, h0]
theorem putB_len (cs : List (List UInt8)) (x : Int × List UInt8) (m : Nat) : (putB cs x m).length = cs.length := by simp [putB]
theorem putB_mem {cs : List (List UInt8)} {x : Int × List UInt8} {m : Nat} (hc : ∀ c ∈ cs, c.length = 128) (hx : x.2.length = 128) (hlt : x.1.toNat < cs.length) (hm : m ≤ 128) : ∀ c ∈ putB cs x m, c.length = 128 := by
  intro c h
  simp only [putB] at h
  rcases List.mem_or_eq_of_mem_set h with h | h
  · exact hc c h
  · subst h
    simp only [List.length_append, List.length_take, List.length_drop, List.getD_eq_getElem?_getD, List.getElem?_eq_getElem hlt, Option.getD_some]
    rw [hc _ (List.getElem_mem hlt), hx]
    omega
theorem mny_le (f : Fal) (i : Nat) : 0 ≤ mny f i ∧ mny f i ≤ 128 := by
  unfold mny
  split
  · omega
  · split <;> omega
theorem crashC_len (f : Fal) : ∀ (ws : List (Int × List UInt8)) (i : Nat) (cs : List (List UInt8)), (crashC f i ws cs).length = cs.length
  | [], i, cs => rfl
  | x :: xs, i, cs => by
    simp only [crashC]
    split
    · rfl
    · rw [crashC_len f xs, putB_len]
theorem crashC_mem (f : Fal) : ∀ (ws : List (Int × List UInt8)) (i : Nat) (cs : List (List UInt8)), (∀ c ∈ cs, c.length = 128) → (∀ x ∈ ws, x.2.length = 128 ∧ 0 ≤ x.1 ∧ x.1 < cs.length) → ∀ c ∈ crashC f i ws cs, c.length = 128
  | [], i, cs, h, _ => h
  | x :: xs, i, cs, h, hw => by
    simp only [crashC]
    split
    · exact h
    · have hx := hw x (by simp)
      have hm := mny_le f i
      refine crashC_mem f xs _ _ (putB_mem h hx.1 (by omega) (by omega)) (fun y hy => ?_)
      rw [putB_len]
      exact hw y (by simp [hy])

end Go.Proofs.Ytegjocpjmfaigaa
