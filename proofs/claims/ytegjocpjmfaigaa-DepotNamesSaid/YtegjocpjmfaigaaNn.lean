/- The statement DepotNames: what is there, step by step; calls on a depot that was not made. -/
import Derived.Test.YtegjocpjmfaigaaNg
set_option linter.unusedSimpArgs false
set_option linter.unusedVariables false
namespace Go.Proofs.Ytegjocpjmfaigaa
open Go.En

def yD0 : Dev := Dev.new 16
def yP0 : Dep := openP yD0
def three' : List UInt8 := [116, 104, 114, 101, 101]
def y1 := yP0.compactF yD0 one'
def y2 := y1.1.appendF y1.2.1 [97]
def y3 := y2.1.appendF y2.2.1 []
def yQ : Dep := openP y3.2.1
def y5 := yQ.compactF y3.2.1 (List.replicate 1016 0)
def yD5 : Dev := arm' y5.2.1 ⟨4, 0, 110⟩
def y6 := y5.1.compactF yD5 two'
def y7 := y6.1.appendF y6.2.1 []
def y8 := y7.1.compactF y7.2.1 []
def yD9 : Dev := y8.2.1.boot
def yR : Dep := openP yD9
def yD10 : Dev := arm' yD9 ⟨4, 1, 0⟩
def y11 := yR.compactF yD10 two'
def yD11 : Dev := y11.2.1.boot
def yS : Dep := openP yD11
def y13 := yS.appendF yD11 [98]
def y14 := y13.1.compactF y13.2.1 three'
def yU : Dep := openP y14.2.1
theorem p0 : yP0.area = 0 ∧ yP0.number = 0 ∧ yP0.left = 8 ∧ yP0.bk = 8 := by decide +kernel
theorem p1 : y1.2.2 = 0 ∧ y1.2.1.waits.length = 0 := by decide +kernel
theorem p2 : y2.2.2 = 0 ∧ y2.2.1.waits.length = 0 := by decide +kernel
theorem p3 : y3.2.2 = 0 ∧ y3.2.1.waits.length = 0 ∧ y3.2.1.down = false ∧ y3.2.1.cells.length = 16 := by decide +kernel
theorem pQ : yQ.list = [one', [97], []] ∧ yQ.number = 3 ∧ yQ.area = 1 ∧ yQ.left = 3 := by decide +kernel
theorem p5 : y5.2.2 = 150 ∧ y5.2.1.down = false := by decide +kernel
theorem p5w : yD5.waits.length = 0 := by decide +kernel
theorem p6 : y6.2.2 = 141 ∧ y6.2.1.waits.length = 0 := by decide +kernel
theorem p7 : y7.2.2 = 141 ∧ y7.2.1.waits.length = 0 := by decide +kernel
theorem p8 : y8.2.2 = 141 ∧ y8.2.1.down = true ∧ y8.2.1.cells.length = 16 := by decide +kernel
theorem pR : yR.list = [one', [97], []] ∧ yR.area = 1 := by decide +kernel
theorem p10w : yD10.waits.length = 0 ∧ yD10.down = false := by decide +kernel
theorem p11 : y11.2.2 = 141 ∧ y11.2.1.cells.length = 16 := by decide +kernel
theorem p13 : y13.2.2 = 0 ∧ y13.2.1.waits.length = 0 := by decide +kernel
theorem p14 : y14.2.2 = 0 ∧ y14.2.1.down = false ∧ y14.2.1.cells.length = 16 := by decide +kernel
theorem pU : yU.list = [three'] ∧ yU.area = 1 ∧ yU.number = 6 := by decide +kernel
def zdep : List Value := [.pointer none, .int .i64 0, .pointer none, .pointer none, .int .i64 0, .bool false]
/-- none, or one that was not made -/
def NoDep (p : Value) (L : List Res) : Prop := p = .pointer none ∨ ∃ (b i : Nat), p = dp b ∧ L[i]? = some (cel b zdep 113)
section
variable {w w0 : World} {S0 S S1 : Nat → Prop} {K : Value → World → Prop} {L B : List Res} {p : Value} {pb d : Nat} {P : Dep} {D : Dev}
theorem v100 (hS : St w0 S0 w L) (hp : NoDep p L) (h : K (.bool true) w) : CK Try.prog 100 [p] w K := by
  refine call_k Try.func100 k100 Try.ntmps100 (Nat.le_of_ble_eq_true rfl) ?_
  rcases hp with rfl | ⟨b, i, rfl, hi⟩
  · (repeat (first | refine g_sq ?_ | refine g_rg ?_ | refine g_r0 ?_ | refine g_ok rfl rfl ?_ | refine g_no rfl ?_ | refine g_no0 rfl ?_ | refine g_bk ?_ | refine g_b ?_ | refine g_sk ?_ | refine g_cT rfl ?_ | refine g_cF rfl ?_ | refine g_x rfl ?_ | refine g_lb ?_))
    exact g_ret (q_1 rfl h)
  · (repeat (first | refine g_sq ?_ | refine g_rg ?_ | refine g_r0 ?_ | refine g_ok rfl rfl ?_ | refine g_no rfl ?_ | refine g_no0 rfl ?_ | refine g_bk ?_ | refine g_b ?_ | refine g_sk ?_ | refine g_cT rfl ?_ | refine g_cF rfl ?_ | refine g_x rfl ?_ | refine g_lb ?_))
    refine g_l1 rfl rfl (hS.b i hi) rfl ?_
    (repeat (first | refine g_sq ?_ | refine g_rg ?_ | refine g_r0 ?_ | refine g_ok rfl rfl ?_ | refine g_no rfl ?_ | refine g_no0 rfl ?_ | refine g_bk ?_ | refine g_b ?_ | refine g_sk ?_ | refine g_cT rfl ?_ | refine g_cF rfl ?_ | refine g_x rfl ?_ | refine g_lb ?_))
    exact g_ret (q_1 rfl h)
theorem v63 {u : Value} (hS : St w0 S0 w L) (hp : NoDep p L) (h : K (.int .i64 1) w) : CK Try.prog 63 [p, u] w K := by
  refine call_k Try.func63 k63 Try.ntmps63 (Nat.le_of_ble_eq_true rfl) ?_
  (repeat (first | refine g_sq ?_ | refine g_rg ?_ | refine g_r0 ?_ | refine g_ok rfl rfl ?_ | refine g_no rfl ?_ | refine g_no0 rfl ?_ | refine g_bk ?_ | refine g_b ?_ | refine g_sk ?_ | refine g_cT rfl ?_ | refine g_cF rfl ?_ | refine g_x rfl ?_ | refine g_lb ?_))
  refine g_cl rfl rfl (v100 hS hp ?_)
  (repeat (first | refine g_sq ?_ | refine g_rg ?_ | refine g_r0 ?_ | refine g_ok rfl rfl ?_ | refine g_no rfl ?_ | refine g_no0 rfl ?_ | refine g_bk ?_ | refine g_b ?_ | refine g_sk ?_ | refine g_cT rfl ?_ | refine g_cF rfl ?_ | refine g_x rfl ?_ | refine g_lb ?_))
  exact g_ret (q_1 rfl h)
theorem v65 {u : Value} (hS : St w0 S0 w L) (hp : NoDep p L) (h : K (.int .i64 1) w) : CK Try.prog 65 [p, u] w K := by
  refine call_k Try.func65 k65 Try.ntmps65 (Nat.le_of_ble_eq_true rfl) ?_
  (repeat (first | refine g_sq ?_ | refine g_rg ?_ | refine g_r0 ?_ | refine g_ok rfl rfl ?_ | refine g_no rfl ?_ | refine g_no0 rfl ?_ | refine g_bk ?_ | refine g_b ?_ | refine g_sk ?_ | refine g_cT rfl ?_ | refine g_cF rfl ?_ | refine g_x rfl ?_ | refine g_lb ?_))
  refine g_cl rfl rfl (v100 hS hp ?_)
  (repeat (first | refine g_sq ?_ | refine g_rg ?_ | refine g_r0 ?_ | refine g_ok rfl rfl ?_ | refine g_no rfl ?_ | refine g_no0 rfl ?_ | refine g_bk ?_ | refine g_b ?_ | refine g_sk ?_ | refine g_cT rfl ?_ | refine g_cF rfl ?_ | refine g_x rfl ?_ | refine g_lb ?_))
  exact g_ret (q_1 rfl h)
theorem v64 {u : Value} (hS : St w0 S0 w L) (hp : NoDep p L) (h : K (.bool false) w) : CK Try.prog 64 [p, u] w K := by
  refine call_k Try.func64 k64 Try.ntmps64 (Nat.le_of_ble_eq_true rfl) ?_
  (repeat (first | refine g_sq ?_ | refine g_rg ?_ | refine g_r0 ?_ | refine g_ok rfl rfl ?_ | refine g_no rfl ?_ | refine g_no0 rfl ?_ | refine g_bk ?_ | refine g_b ?_ | refine g_sk ?_ | refine g_cT rfl ?_ | refine g_cF rfl ?_ | refine g_x rfl ?_ | refine g_lb ?_))
  refine g_cl rfl rfl (v100 hS hp ?_)
  (repeat (first | refine g_sq ?_ | refine g_rg ?_ | refine g_r0 ?_ | refine g_ok rfl rfl ?_ | refine g_no rfl ?_ | refine g_no0 rfl ?_ | refine g_bk ?_ | refine g_b ?_ | refine g_sk ?_ | refine g_cT rfl ?_ | refine g_cF rfl ?_ | refine g_x rfl ?_ | refine g_lb ?_))
  exact g_ret (q_1 rfl h)
theorem v59 (hS : St w0 S0 w L) (hp : NoDep p L) (h : K (.int .i64 0) w) : CK Try.prog 59 [p] w K := by
  refine call_k Try.func59 k59 Try.ntmps59 (Nat.le_of_ble_eq_true rfl) ?_
  (repeat (first | refine g_sq ?_ | refine g_rg ?_ | refine g_r0 ?_ | refine g_ok rfl rfl ?_ | refine g_no rfl ?_ | refine g_no0 rfl ?_ | refine g_bk ?_ | refine g_b ?_ | refine g_sk ?_ | refine g_cT rfl ?_ | refine g_cF rfl ?_ | refine g_x rfl ?_ | refine g_lb ?_))
  refine g_cl rfl rfl (v100 hS hp ?_)
  (repeat (first | refine g_sq ?_ | refine g_rg ?_ | refine g_r0 ?_ | refine g_ok rfl rfl ?_ | refine g_no rfl ?_ | refine g_no0 rfl ?_ | refine g_bk ?_ | refine g_b ?_ | refine g_sk ?_ | refine g_cT rfl ?_ | refine g_cF rfl ?_ | refine g_x rfl ?_ | refine g_lb ?_))
  exact g_ret (q_1 rfl h)
theorem v60 (hS : St w0 S0 w L) (hp : NoDep p L) (h : K (.int .i64 0) w) : CK Try.prog 60 [p] w K := by
  refine call_k Try.func60 k60 Try.ntmps60 (Nat.le_of_ble_eq_true rfl) ?_
  (repeat (first | refine g_sq ?_ | refine g_rg ?_ | refine g_r0 ?_ | refine g_ok rfl rfl ?_ | refine g_no rfl ?_ | refine g_no0 rfl ?_ | refine g_bk ?_ | refine g_b ?_ | refine g_sk ?_ | refine g_cT rfl ?_ | refine g_cF rfl ?_ | refine g_x rfl ?_ | refine g_lb ?_))
  refine g_cl rfl rfl (v100 hS hp ?_)
  (repeat (first | refine g_sq ?_ | refine g_rg ?_ | refine g_r0 ?_ | refine g_ok rfl rfl ?_ | refine g_no rfl ?_ | refine g_no0 rfl ?_ | refine g_bk ?_ | refine g_b ?_ | refine g_sk ?_ | refine g_cT rfl ?_ | refine g_cF rfl ?_ | refine g_x rfl ?_ | refine g_lb ?_))
  exact g_ret (q_1 rfl h)
theorem v61 (hS : St w0 S0 w L) (hp : NoDep p L) (h : K (.int .i64 0) w) : CK Try.prog 61 [p] w K := by
  refine call_k Try.func61 k61 Try.ntmps61 (Nat.le_of_ble_eq_true rfl) ?_
  (repeat (first | refine g_sq ?_ | refine g_rg ?_ | refine g_r0 ?_ | refine g_ok rfl rfl ?_ | refine g_no rfl ?_ | refine g_no0 rfl ?_ | refine g_bk ?_ | refine g_b ?_ | refine g_sk ?_ | refine g_cT rfl ?_ | refine g_cF rfl ?_ | refine g_x rfl ?_ | refine g_lb ?_))
  refine g_cl rfl rfl (v100 hS hp ?_)
  (repeat (first | refine g_sq ?_ | refine g_rg ?_ | refine g_r0 ?_ | refine g_ok rfl rfl ?_ | refine g_no rfl ?_ | refine g_no0 rfl ?_ | refine g_bk ?_ | refine g_b ?_ | refine g_sk ?_ | refine g_cT rfl ?_ | refine g_cF rfl ?_ | refine g_x rfl ?_ | refine g_lb ?_))
  exact g_ret (q_1 rfl h)
theorem v66 (hS : St w0 S0 w L) (hp : NoDep p L) (h : K (.slice none 0 0) w) : CK Try.prog 66 [p] w K := by
  refine call_k Try.func66 k66 Try.ntmps66 (Nat.le_of_ble_eq_true rfl) ?_
  (repeat (first | refine g_sq ?_ | refine g_rg ?_ | refine g_r0 ?_ | refine g_ok rfl rfl ?_ | refine g_no rfl ?_ | refine g_no0 rfl ?_ | refine g_bk ?_ | refine g_b ?_ | refine g_sk ?_ | refine g_cT rfl ?_ | refine g_cF rfl ?_ | refine g_x rfl ?_ | refine g_lb ?_))
  refine g_cl rfl rfl (v100 hS hp ?_)
  (repeat (first | refine g_sq ?_ | refine g_rg ?_ | refine g_r0 ?_ | refine g_ok rfl rfl ?_ | refine g_no rfl ?_ | refine g_no0 rfl ?_ | refine g_bk ?_ | refine g_b ?_ | refine g_sk ?_ | refine g_cT rfl ?_ | refine g_cF rfl ?_ | refine g_x rfl ?_ | refine g_lb ?_))
  exact g_ret (q_1 rfl h)
theorem v68 (hS : St w0 S0 w L) (hp : NoDep p L) (h : K (.tuple ⟨[.slice none 0 0, .bool false]⟩) w) : CK Try.prog 68 [p] w K := by
  refine call_k Try.func68 k68 Try.ntmps68 (Nat.le_of_ble_eq_true rfl) ?_
  (repeat (first | refine g_sq ?_ | refine g_rg ?_ | refine g_r0 ?_ | refine g_ok rfl rfl ?_ | refine g_no rfl ?_ | refine g_no0 rfl ?_ | refine g_bk ?_ | refine g_b ?_ | refine g_sk ?_ | refine g_cT rfl ?_ | refine g_cF rfl ?_ | refine g_x rfl ?_ | refine g_lb ?_))
  refine g_cl rfl rfl (v100 hS hp ?_)
  (repeat (first | refine g_sq ?_ | refine g_rg ?_ | refine g_r0 ?_ | refine g_ok rfl rfl ?_ | refine g_no rfl ?_ | refine g_no0 rfl ?_ | refine g_bk ?_ | refine g_b ?_ | refine g_sk ?_ | refine g_cT rfl ?_ | refine g_cF rfl ?_ | refine g_x rfl ?_ | refine g_lb ?_))
  exact g_ret (q_2 rfl rfl h)
theorem v67 (hS : St w0 S0 w L) (hp : NoDev p L) (h : K (.tuple ⟨[.pointer none, .int .i64 1]⟩) w) : CK Try.prog 67 [p] w K := by
  refine call_k Try.func67 k67 Try.ntmps67 (Nat.le_of_ble_eq_true rfl) ?_
  (repeat (first | refine g_sq ?_ | refine g_rg ?_ | refine g_r0 ?_ | refine g_ok rfl rfl ?_ | refine g_no rfl ?_ | refine g_no0 rfl ?_ | refine g_bk ?_ | refine g_b ?_ | refine g_sk ?_ | refine g_cT rfl ?_ | refine g_cF rfl ?_ | refine g_x rfl ?_ | refine g_lb ?_))
  refine g_cl rfl rfl (u36 hS hp ?_)
  (repeat (first | refine g_sq ?_ | refine g_rg ?_ | refine g_r0 ?_ | refine g_ok rfl rfl ?_ | refine g_no rfl ?_ | refine g_no0 rfl ?_ | refine g_bk ?_ | refine g_b ?_ | refine g_sk ?_ | refine g_cT rfl ?_ | refine g_cF rfl ?_ | refine g_x rfl ?_ | refine g_lb ?_))
  exact g_ret (q_2 rfl rfl h)
theorem c63F {g i : Nat} {bs : List UInt8} (hl : bs.length ≤ 1000000) (hwt : D.waits.length = 0) (hS : St w0 S0 w (DepR S pb d P :: DevR S1 d D :: B)) (hi : 2 ≤ i) (hg : (DepR S pb d P :: DevR S1 d D :: B)[i]? = some (cel g (bys bs) 5))
    (h : ∀ w' S' S1', St w0 S0 w' (DepR S' pb d (P.appendF D bs).1 :: DevR S1' d (P.appendF D bs).2.1 :: B) → K (.int .i64 (P.appendF D bs).2.2) w') : CK Try.prog 63 [dp pb, .slice (some ⟨g, 0, none⟩) bs.length bs.length] w K := by
  rw [← depF] at h
  exact c63 hl (by omega) (.inr ⟨g, 0, bs.length, _, rfl, Nat.le_refl _, by simp, by rw [List.drop_zero, Nat.mul_one, List.take_of_length_le (by simp)], (hS.b i hg).r⟩) (fun x hx => ⟨fun h => hS.dis 0 i _ _ rfl hg (by omega) x h hx.1, fun h => hS.dis 1 i _ _ rfl hg (by omega) x h hx.1⟩) hS h
theorem c65F {g i : Nat} {bs : List UInt8} (hl : bs.length ≤ 1000000) (hwt : D.waits.length = 0) (hS : St w0 S0 w (DepR S pb d P :: DevR S1 d D :: B)) (hi : 2 ≤ i) (hg : (DepR S pb d P :: DevR S1 d D :: B)[i]? = some (cel g (bys bs) 5))
    (h : ∀ w' S' S1', St w0 S0 w' (DepR S' pb d (P.compactF D bs).1 :: DevR S1' d (P.compactF D bs).2.1 :: B) → K (.int .i64 (P.compactF D bs).2.2) w') : CK Try.prog 65 [dp pb, .slice (some ⟨g, 0, none⟩) bs.length bs.length] w K := by
  rw [← depC] at h
  exact c65 hl (by omega) (.inr ⟨g, 0, bs.length, _, rfl, Nat.le_refl _, by simp, by rw [List.drop_zero, Nat.mul_one, List.take_of_length_le (by simp)], (hS.b i hg).r⟩) (fun x hx => ⟨fun h => hS.dis 0 i _ _ rfl hg (by omega) x h hx.1, fun h => hS.dis 1 i _ _ rfl hg (by omega) x h hx.1⟩) hS h
theorem c63N (hwt : D.waits.length = 0) (hS : St w0 S0 w (DepR S pb d P :: DevR S1 d D :: B)) (h : ∀ w' S' S1', St w0 S0 w' (DepR S' pb d (P.appendF D []).1 :: DevR S1' d (P.appendF D []).2.1 :: B) → K (.int .i64 (P.appendF D []).2.2) w') : CK Try.prog 63 [dp pb, .slice none 0 0] w K := by
  rw [← depF] at h
  exact c63 (E := 5) (by decide) (by omega) (.inl ⟨⟨none, rfl⟩, rfl, rfl⟩) (fun x hx => nomatch hx) hS h
theorem c65N (hwt : D.waits.length = 0) (hS : St w0 S0 w (DepR S pb d P :: DevR S1 d D :: B)) (h : ∀ w' S' S1', St w0 S0 w' (DepR S' pb d (P.compactF D []).1 :: DevR S1' d (P.compactF D []).2.1 :: B) → K (.int .i64 (P.compactF D []).2.2) w') : CK Try.prog 65 [dp pb, .slice none 0 0] w K := by
  rw [← depC] at h
  exact c65 (E := 5) (by decide) (by omega) (.inl ⟨⟨none, rfl⟩, rfl, rfl⟩) (fun x hx => nomatch hx) hS h
theorem b69 {v : Value} {E : Nat} {l : List (List UInt8)} (hr : Rd v E 1 l.length (sts l) w) (hn : l.length ≤ 1000) (h : ∀ w' S2 v', St w (fun _ => False) w' [BsR S2 v' l] → K v' w') : CK Try.prog 69 [v] w K := by
  have hro : ∀ {w' : World} {L' : List Res}, St w (fun _ => False) w' L' → Rd v E 1 l.length (sts l) w' := fun hS => hS.ro (r := rdR v E 1 l.length (sts l)) hr fun x hx => ⟨hr.lt x hx, fun h => h⟩
  obtain ⟨a, c, rfl⟩ := Rd.form hr
  refine call_k Try.func69 k69 Try.ntmps69 (Nat.le_of_ble_eq_true rfl) ?_
  (repeat (first | refine g_sq ?_ | refine g_rg ?_ | refine g_r0 ?_ | refine g_ok rfl rfl ?_ | refine g_no rfl ?_ | refine g_no0 rfl ?_ | refine g_bk ?_ | refine g_b ?_ | refine g_sk ?_ | refine g_cT rfl ?_ | refine g_cF rfl ?_ | refine g_x rfl ?_ | refine g_lb ?_))
  have hS := pool_nil ((St.nil w (fun _ => False)).nilrow 35 1)
  refine g_lp (ι := Nat × Value) (fun x => [(3, x.2), (6, .slice a l.length c), (7, .int .i64 l.length), (8, .int .i64 x.1)])
    (fun x w' => x.1 ≤ l.length ∧ ∃ Z : BZ, Z.map Prod.snd = l.take x.1 ∧ Z.length = x.1 ∧ St w (fun _ => False) w' [row x.2 35 1 Z.length (Z.map Prod.fst), pool Z]) (fun x => l.length - x.1) (0, .slice none 0 0) ⟨rfl, rfl, rfl, rfl, trivial⟩ ⟨Nat.zero_le _, [], rfl, rfl, hS⟩ ?_
  clear hS
  rintro ⟨k, vo⟩ w1 ⟨hk, Z, hZ, hZk, hS⟩
  simp only at hk hZ hZk hS
  (repeat (first | refine g_sq ?_ | refine g_rg ?_ | refine g_r0 ?_ | refine g_ok rfl rfl ?_ | refine g_no rfl ?_ | refine g_no0 rfl ?_ | refine g_bk ?_ | refine g_b ?_ | refine g_sk ?_ | refine g_cT rfl ?_ | refine g_cF rfl ?_ | refine g_x rfl ?_ | refine g_lb ?_))
  refine g_cd rfl (fun hc => ?_) (fun hc => ?_)
  all_goals simp only [cmv, decide_eq_true_eq, decide_eq_false_iff_not] at hc
  · obtain ⟨s, hs⟩ : ∃ s, l[k]? = some s := ⟨_, List.getElem?_eq_getElem (by omega)⟩
    obtain ⟨b1, o1, c1, l1, e1, _, hB1, hx1⟩ := (hro hS).cellr (k := k) (by omega)
    cases e1
    rw [sts_get hs] at hx1
    (repeat (first | refine g_sq ?_ | refine g_rg ?_ | refine g_r0 ?_ | refine g_ok rfl rfl ?_ | refine g_no rfl ?_ | refine g_no0 rfl ?_ | refine g_bk ?_ | refine g_b ?_ | refine g_sk ?_ | refine g_cT rfl ?_ | refine g_cF rfl ?_ | refine g_x rfl ?_ | refine g_lb ?_))
    refine g_rq rfl rfl ⟨by omega, by omega⟩ ?_
    refine g_l1r rfl rfl hB1 hx1 ?_
    (repeat (first | refine g_sq ?_ | refine g_rg ?_ | refine g_r0 ?_ | refine g_ok rfl rfl ?_ | refine g_no rfl ?_ | refine g_no0 rfl ?_ | refine g_bk ?_ | refine g_b ?_ | refine g_sk ?_ | refine g_cT rfl ?_ | refine g_cF rfl ?_ | refine g_x rfl ?_ | refine g_lb ?_))
    refine g_ef rfl (ef_sb hS rfl fun v' w1 hS hv' => ?_)
    have hS : St w (fun _ => False) w1 [row vo 35 1 Z.length (Z.map Prod.fst), pool Z, row v' 5 1 s.length (bys s)] := hS
    obtain ⟨a', c', rfl⟩ := hS.rlen 2 rfl
    refine g_ef rfl (ef_bl (rs := [.slice a' s.length c']) hS rfl fun g w1 hS => ?_)
    refine g_ef rfl (ef_ap (n := Z.length) (m := 1) (ys := [.slice a' s.length c']) hS 0 rfl rfl rfl (.inl ⟨35, .inr ⟨g, 0, 1, _, rfl, Nat.le_refl _, Nat.le_refl _, rfl, (hS.b 3 rfl).r⟩⟩) rfl (by omega) (by omega) fun vo1 w1 hS => ?_)
    have hS := hS.pool_add (M := Z) (v := .slice a' s.length c') (bs := s) 1 2 rfl rfl (by decide)
    (repeat (first | refine g_sq ?_ | refine g_rg ?_ | refine g_r0 ?_ | refine g_ok rfl rfl ?_ | refine g_no rfl ?_ | refine g_no0 rfl ?_ | refine g_bk ?_ | refine g_b ?_ | refine g_sk ?_ | refine g_cT rfl ?_ | refine g_cF rfl ?_ | refine g_x rfl ?_ | refine g_lb ?_))
    refine g_rq rfl rfl (in64 (by simp only [arv]; omega)) ?_
    (repeat (first | refine g_sq ?_ | refine g_rg ?_ | refine g_r0 ?_ | refine g_ok rfl rfl ?_ | refine g_no rfl ?_ | refine g_no0 rfl ?_ | refine g_bk ?_ | refine g_b ?_ | refine g_sk ?_ | refine g_cT rfl ?_ | refine g_cF rfl ?_ | refine g_x rfl ?_ | refine g_lb ?_))
    refine g_l (k + 1, vo1) ⟨rfl, rfl, rfl, rfl, trivial⟩ ⟨by simp only; omega, Z ++ [(.slice a' s.length c', s)], ?_, by simp [hZk], ?_⟩ (by simp only; omega)
    · have hl := (List.getElem?_eq_some_iff.1 hs).1
      simp only
      rw [List.map_append, hZ, List.take_succ_eq_append_getElem hl, (List.getElem?_eq_some_iff.1 hs).2]
      rfl
    · have e1 : (Z ++ [(Value.slice a' s.length c', s)]).length = Z.length + 1 := by simp
      have e2 : (Z ++ [(Value.slice a' s.length c', s)]).map Prod.fst = Z.map Prod.fst ++ [.slice a' s.length c'] := by simp
      rw [e1, e2]
      exact hS.sel [0, 1] rfl rfl
  · rw [List.take_of_length_le (by omega)] at hZ
    obtain ⟨S2, hS⟩ := BsR.cls hZ hS
    (repeat (first | refine g_sq ?_ | refine g_rg ?_ | refine g_r0 ?_ | refine g_ok rfl rfl ?_ | refine g_no rfl ?_ | refine g_no0 rfl ?_ | refine g_bk ?_ | refine g_b ?_ | refine g_sk ?_ | refine g_cT rfl ?_ | refine g_cF rfl ?_ | refine g_x rfl ?_ | refine g_lb ?_))
    exact g_ret (q_1 rfl (h _ _ _ hS))
theorem c69 {g : Nat} {l : List (List UInt8)} (hS : St w0 S0 w L) (hB : Blr w g (sts l) 9) (hn : l.length ≤ 1000) (h : ∀ w' S2 v', St w0 S0 w' (L ++ [BsR S2 v' l]) → K v' w') : CK Try.prog 69 [.slice (some ⟨g, 0, none⟩) l.length l.length] w K :=
  b69 (E := 9) (.inr ⟨g, 0, l.length, _, rfl, Nat.le_refl _, by rw [sts_len]; omega, by rw [List.drop_zero, List.take_of_length_le (by rw [sts_len]; omega)], hB⟩) hn fun w' S2 v' h' => h w' S2 v' (hS.call0.2 w' _ h')
end
end Go.Proofs.Ytegjocpjmfaigaa
