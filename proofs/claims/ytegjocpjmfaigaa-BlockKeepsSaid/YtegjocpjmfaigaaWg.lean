/- Walks of the device: boots, arms, crashes, syncs. -/
import Derived.Test.YtegjocpjmfaigaaWf
set_option linter.unusedSimpArgs false
set_option linter.unusedVariables false
namespace Go.Proofs.Ytegjocpjmfaigaa
open Go.En

def Dev.boot (D : Dev) : Dev := { D with waits := [], down := false }
def Dev.arm (D : Dev) (f : Fal) : Dev := { D with fall := f, since := 0 }
def putAll (cs : List (List UInt8)) (ws : List (Int × List UInt8)) : List (List UInt8) := ws.foldl (fun cs x => putB cs x 128) cs
def Dev.sync1 (D : Dev) : Dev := { D with cells := putAll D.cells D.waits, waits := [] }
theorem Dev.wf.boot {D : Dev} (h : D.wf) : D.boot.wf := ⟨h.1, h.2.1, (fun x hx => nomatch hx), Nat.lt_of_le_of_lt (Nat.zero_le _) h.2.2.2⟩
theorem putAll_len : ∀ (ws : List (Int × List UInt8)) (cs : List (List UInt8)), (putAll cs ws).length = cs.length
  | [], cs => rfl
  | x :: ws, cs => (putAll_len ws (putB cs x 128)).trans (putB_len _ _ _)
theorem putAll_mem : ∀ (ws : List (Int × List UInt8)) (cs : List (List UInt8)), (∀ c ∈ cs, c.length = 128) → (∀ x ∈ ws, x.2.length = 128 ∧ 0 ≤ x.1 ∧ x.1 < cs.length) → ∀ c ∈ putAll cs ws, c.length = 128
  | [], cs, h, _ => h
  | x :: ws, cs, h, hw => by
    have hx := hw x (by simp)
    refine putAll_mem ws _ (putB_mem h hx.1 (by omega) (by omega)) (fun y hy => ?_)
    rw [putB_len]
    exact hw y (by simp [hy])
theorem putAll_step {ws : List (Int × List UInt8)} {cs : List (List UInt8)} {k : Nat} {x : Int × List UInt8} (hx : ws[k]? = some x) : putAll cs (ws.take (k + 1)) = putB (putAll cs (ws.take k)) x 128 := by
  rw [List.take_add_one, hx, putAll, List.foldl_append]
  rfl
theorem Dev.wf.sync1 {D : Dev} (h : D.wf) : D.sync1.wf :=
  ⟨fun e => h.1 (List.length_eq_zero_iff.1 (by rw [← putAll_len D.waits D.cells]; exact List.length_eq_zero_iff.2 e)), putAll_mem _ _ h.2.1 h.2.2.1, (fun x hx => nomatch hx), Nat.lt_of_le_of_lt (Nat.zero_le _) h.2.2.2⟩

section
variable {w w0 : World} {S0 S : Nat → Prop} {K : Value → World → Prop} {b : Nat} {D : Dev} {B : List Res}
theorem b29 (hS : St w0 S0 w [DevR S b D]) (h : ∀ w' S', St w0 S0 w' [DevR S' b D.boot] → K (.int .i64 0) w') : CK Try.prog 29 [dp b] w K := by
  obtain ⟨hw, bc, cap, rest, a, c, h1, h2, hS⟩ := DevR.opn hS
  obtain ⟨n, hn⟩ : ∃ n, D.cells.length = n + 1 := ⟨D.cells.length - 1, by have := List.length_pos_iff.2 hw.1; omega⟩
  refine call_k Try.func29 k29 Try.ntmps29 (Nat.le_of_ble_eq_true rfl) ?_
  (repeat (first | refine g_sq ?_ | refine g_rg ?_ | refine g_r0 ?_ | refine g_ok rfl rfl ?_ | refine g_no rfl ?_ | refine g_no0 rfl ?_ | refine g_bk ?_ | refine g_b ?_ | refine g_sk ?_ | refine g_cT rfl ?_ | refine g_cF rfl ?_ | refine g_x rfl ?_ | refine g_lb ?_))
  refine g_cl rfl rfl (d85 (hS.b 0 rfl) ?_)
  rw [show decide (D.cells.length = 0) = false by rw [hn]; rfl]
  (repeat (first | refine g_sq ?_ | refine g_rg ?_ | refine g_r0 ?_ | refine g_ok rfl rfl ?_ | refine g_no rfl ?_ | refine g_no0 rfl ?_ | refine g_bk ?_ | refine g_b ?_ | refine g_sk ?_ | refine g_cT rfl ?_ | refine g_cF rfl ?_ | refine g_x rfl ?_ | refine g_lb ?_))
  refine g_ef0 rfl (ef_st hS 0 rfl rfl rfl rfl (Nat.le_of_ble_eq_true rfl) rfl fun w hS => ?_)
  (repeat (first | refine g_sq ?_ | refine g_rg ?_ | refine g_r0 ?_ | refine g_ok rfl rfl ?_ | refine g_no rfl ?_ | refine g_no0 rfl ?_ | refine g_bk ?_ | refine g_b ?_ | refine g_sk ?_ | refine g_cT rfl ?_ | refine g_cF rfl ?_ | refine g_x rfl ?_ | refine g_lb ?_))
  refine g_ef0 rfl (ef_st hS 0 rfl rfl rfl rfl (Nat.le_of_ble_eq_true rfl) rfl fun w hS => ?_)
  (repeat (first | refine g_sq ?_ | refine g_rg ?_ | refine g_r0 ?_ | refine g_ok rfl rfl ?_ | refine g_no rfl ?_ | refine g_no0 rfl ?_ | refine g_bk ?_ | refine g_b ?_ | refine g_sk ?_ | refine g_cT rfl ?_ | refine g_cF rfl ?_ | refine g_x rfl ?_ | refine g_lb ?_))
  refine g_ret (q_1 rfl ?_)
  have hS := (hS.nilrow 124 129).sel [0, 1, 3] rfl rfl
  obtain ⟨S', hS⟩ := DevR.cls' (D := D.boot) (vw := .slice none 0 0) (cap := cap) (rest := rest) (bc := bc) (b := b) (B := []) hw.boot h1 h2 hS
  exact h _ _ hS
theorem c29 (hS : St w0 S0 w (DevR S b D :: B)) (h : ∀ w' S', St w0 S0 w' (DevR S' b D.boot :: B) → K (.int .i64 0) w') : CK Try.prog 29 [dp b] w K := CK.dev hS b29 h
theorem n29 (h : K (.int .i64 1) w) : CK Try.prog 29 [.pointer none] w K := by
  refine call_k Try.func29 k29 Try.ntmps29 (Nat.le_of_ble_eq_true rfl) ?_
  (repeat (first | refine g_sq ?_ | refine g_rg ?_ | refine g_r0 ?_ | refine g_ok rfl rfl ?_ | refine g_no rfl ?_ | refine g_no0 rfl ?_ | refine g_bk ?_ | refine g_b ?_ | refine g_sk ?_ | refine g_cT rfl ?_ | refine g_cF rfl ?_ | refine g_x rfl ?_ | refine g_lb ?_))
  refine g_cl rfl rfl (n85 ?_)
  (repeat (first | refine g_sq ?_ | refine g_rg ?_ | refine g_r0 ?_ | refine g_ok rfl rfl ?_ | refine g_no rfl ?_ | refine g_no0 rfl ?_ | refine g_bk ?_ | refine g_b ?_ | refine g_sk ?_ | refine g_cT rfl ?_ | refine g_cF rfl ?_ | refine g_x rfl ?_ | refine g_lb ?_))
  exact g_ret (q_1 rfl h)

theorem b32 {f : Fal} (hS : St w0 S0 w [DevR S b D]) (h : ∀ w' S', St w0 S0 w' [DevR S' b (if D.down then D else D.arm f)] → K (.int .i64 (if D.down then 141 else 0)) w') : CK Try.prog 32 [dp b, falV f] w K := by
  refine call_k Try.func32 k32 Try.ntmps32 (Nat.le_of_ble_eq_true rfl) ?_
  (repeat (first | refine g_sq ?_ | refine g_rg ?_ | refine g_r0 ?_ | refine g_ok rfl rfl ?_ | refine g_no rfl ?_ | refine g_no0 rfl ?_ | refine g_bk ?_ | refine g_b ?_ | refine g_sk ?_ | refine g_cT rfl ?_ | refine g_cF rfl ?_ | refine g_x rfl ?_ | refine g_lb ?_))
  refine g_ef rfl (ef_bx hS rfl fun b3 w hS => ?_)
  (repeat (first | refine g_sq ?_ | refine g_rg ?_ | refine g_r0 ?_ | refine g_ok rfl rfl ?_ | refine g_no rfl ?_ | refine g_no0 rfl ?_ | refine g_bk ?_ | refine g_b ?_ | refine g_sk ?_ | refine g_cT rfl ?_ | refine g_cF rfl ?_ | refine g_x rfl ?_ | refine g_lb ?_))
  refine g_cl rfl rfl (d78' hS ?_)
  generalize hd : D.down = dn
  rw [hd] at h
  cases dn
  · simp only [Bool.false_eq_true, if_false] at h ⊢
    obtain ⟨hw, bc, cap, rest, a, c, h1, h2, hS⟩ := DevR.opn (B := [_]) hS
    (repeat (first | refine g_sq ?_ | refine g_rg ?_ | refine g_r0 ?_ | refine g_ok rfl rfl ?_ | refine g_no rfl ?_ | refine g_no0 rfl ?_ | refine g_bk ?_ | refine g_b ?_ | refine g_sk ?_ | refine g_cT rfl ?_ | refine g_cF rfl ?_ | refine g_x rfl ?_ | refine g_lb ?_))
    refine g_lm rfl rfl (hS.b 3 rfl) (Nat.le_of_ble_eq_true rfl) ?_
    (repeat (first | refine g_sq ?_ | refine g_rg ?_ | refine g_r0 ?_ | refine g_ok rfl rfl ?_ | refine g_no rfl ?_ | refine g_no0 rfl ?_ | refine g_bk ?_ | refine g_b ?_ | refine g_sk ?_ | refine g_cT rfl ?_ | refine g_cF rfl ?_ | refine g_x rfl ?_ | refine g_lb ?_))
    refine g_ef0 rfl (ef_st hS 0 rfl rfl rfl rfl (Nat.le_of_ble_eq_true rfl) rfl fun w hS => ?_)
    (repeat (first | refine g_sq ?_ | refine g_rg ?_ | refine g_r0 ?_ | refine g_ok rfl rfl ?_ | refine g_no rfl ?_ | refine g_no0 rfl ?_ | refine g_bk ?_ | refine g_b ?_ | refine g_sk ?_ | refine g_cT rfl ?_ | refine g_cF rfl ?_ | refine g_x rfl ?_ | refine g_lb ?_))
    refine g_ef0 rfl (ef_st hS 0 rfl rfl rfl rfl (Nat.le_of_ble_eq_true rfl) rfl fun w hS => ?_)
    (repeat (first | refine g_sq ?_ | refine g_rg ?_ | refine g_r0 ?_ | refine g_ok rfl rfl ?_ | refine g_no rfl ?_ | refine g_no0 rfl ?_ | refine g_bk ?_ | refine g_b ?_ | refine g_sk ?_ | refine g_cT rfl ?_ | refine g_cF rfl ?_ | refine g_x rfl ?_ | refine g_lb ?_))
    refine g_ret (q_1 rfl ?_)
    have hS := hS.sel [0, 1, 2] rfl rfl
    obtain ⟨S', hS⟩ := DevR.cls' (D := D.arm f) (cap := cap) (rest := rest) (bc := bc) (b := b) (B := []) hw h1 h2 hS
    exact h _ _ hS
  · simp only [if_true] at h ⊢
    (repeat (first | refine g_sq ?_ | refine g_rg ?_ | refine g_r0 ?_ | refine g_ok rfl rfl ?_ | refine g_no rfl ?_ | refine g_no0 rfl ?_ | refine g_bk ?_ | refine g_b ?_ | refine g_sk ?_ | refine g_cT rfl ?_ | refine g_cF rfl ?_ | refine g_x rfl ?_ | refine g_lb ?_))
    exact g_ret (q_1 rfl (h _ _ (hS.sel [0] rfl rfl)))
theorem c32 {f : Fal} (hS : St w0 S0 w (DevR S b D :: B)) (h : ∀ w' S', St w0 S0 w' (DevR S' b (if D.down then D else D.arm f) :: B) → K (.int .i64 (if D.down then 141 else 0)) w') : CK Try.prog 32 [dp b, falV f] w K := CK.dev hS b32 h
theorem b27 {f : Fal} (hS : St w0 S0 w [DevR S b D]) (h : ∀ w' S', St w0 S0 w' [DevR S' b (if D.down then D else D.crash f)] → K (.int .i64 (if D.down then 141 else 0)) w') : CK Try.prog 27 [dp b, falV f] w K := by
  refine call_k Try.func27 k27 Try.ntmps27 (Nat.le_of_ble_eq_true rfl) ?_
  (repeat (first | refine g_sq ?_ | refine g_rg ?_ | refine g_r0 ?_ | refine g_ok rfl rfl ?_ | refine g_no rfl ?_ | refine g_no0 rfl ?_ | refine g_bk ?_ | refine g_b ?_ | refine g_sk ?_ | refine g_cT rfl ?_ | refine g_cF rfl ?_ | refine g_x rfl ?_ | refine g_lb ?_))
  refine g_ef rfl (ef_bx hS rfl fun b3 w hS => ?_)
  (repeat (first | refine g_sq ?_ | refine g_rg ?_ | refine g_r0 ?_ | refine g_ok rfl rfl ?_ | refine g_no rfl ?_ | refine g_no0 rfl ?_ | refine g_bk ?_ | refine g_b ?_ | refine g_sk ?_ | refine g_cT rfl ?_ | refine g_cF rfl ?_ | refine g_x rfl ?_ | refine g_lb ?_))
  refine g_cl rfl rfl (d78' hS ?_)
  generalize hd : D.down = dn
  rw [hd] at h
  cases dn
  · simp only [Bool.false_eq_true, if_false] at h ⊢
    (repeat (first | refine g_sq ?_ | refine g_rg ?_ | refine g_r0 ?_ | refine g_ok rfl rfl ?_ | refine g_no rfl ?_ | refine g_no0 rfl ?_ | refine g_bk ?_ | refine g_b ?_ | refine g_sk ?_ | refine g_cT rfl ?_ | refine g_cF rfl ?_ | refine g_x rfl ?_ | refine g_lb ?_))
    refine g_lm rfl rfl (hS.b 1 rfl) (Nat.le_of_ble_eq_true rfl) ?_
    refine g_cl rfl rfl (c84 (f := f) (B := [_]) hS fun w S' hS => ?_)
    (repeat (first | refine g_sq ?_ | refine g_rg ?_ | refine g_r0 ?_ | refine g_ok rfl rfl ?_ | refine g_no rfl ?_ | refine g_no0 rfl ?_ | refine g_bk ?_ | refine g_b ?_ | refine g_sk ?_ | refine g_cT rfl ?_ | refine g_cF rfl ?_ | refine g_x rfl ?_ | refine g_lb ?_))
    exact g_ret (q_1 rfl (h _ _ (hS.sel [0] rfl rfl)))
  · simp only [if_true] at h ⊢
    (repeat (first | refine g_sq ?_ | refine g_rg ?_ | refine g_r0 ?_ | refine g_ok rfl rfl ?_ | refine g_no rfl ?_ | refine g_no0 rfl ?_ | refine g_bk ?_ | refine g_b ?_ | refine g_sk ?_ | refine g_cT rfl ?_ | refine g_cF rfl ?_ | refine g_x rfl ?_ | refine g_lb ?_))
    exact g_ret (q_1 rfl (h _ _ (hS.sel [0] rfl rfl)))
theorem c27 {f : Fal} (hS : St w0 S0 w (DevR S b D :: B)) (h : ∀ w' S', St w0 S0 w' (DevR S' b (if D.down then D else D.crash f) :: B) → K (.int .i64 (if D.down then 141 else 0)) w') : CK Try.prog 27 [dp b, falV f] w K := CK.dev hS b27 h

/-- what a sync comes to -/
def Dev.sync (D : Dev) : Dev × Int := if D.down then (D, 141) else if D.oper.2 = 0 then (D.oper.1.sync1, 0) else D.oper
theorem b24 (hS : St w0 S0 w [DevR S b D]) (h : ∀ w' S', St w0 S0 w' [DevR S' b D.sync.1] → K (.int .i64 D.sync.2) w') : CK Try.prog 24 [dp b] w K := by
  refine call_k Try.func24 k24 Try.ntmps24 (Nat.le_of_ble_eq_true rfl) ?_
  (repeat (first | refine g_sq ?_ | refine g_rg ?_ | refine g_r0 ?_ | refine g_ok rfl rfl ?_ | refine g_no rfl ?_ | refine g_no0 rfl ?_ | refine g_bk ?_ | refine g_b ?_ | refine g_sk ?_ | refine g_cT rfl ?_ | refine g_cF rfl ?_ | refine g_x rfl ?_ | refine g_lb ?_))
  refine g_cl rfl rfl (d78' hS ?_)
  generalize hd : D.down = dn
  cases dn
  · simp only [Bool.false_eq_true, if_false]
    (repeat (first | refine g_sq ?_ | refine g_rg ?_ | refine g_r0 ?_ | refine g_ok rfl rfl ?_ | refine g_no rfl ?_ | refine g_no0 rfl ?_ | refine g_bk ?_ | refine g_b ?_ | refine g_sk ?_ | refine g_cT rfl ?_ | refine g_cF rfl ?_ | refine g_x rfl ?_ | refine g_lb ?_))
    refine g_cl rfl rfl (c81 hS fun w S' hS => ?_)
    (repeat (first | refine g_sq ?_ | refine g_rg ?_ | refine g_r0 ?_ | refine g_ok rfl rfl ?_ | refine g_no rfl ?_ | refine g_no0 rfl ?_ | refine g_bk ?_ | refine g_b ?_ | refine g_sk ?_ | refine g_cT rfl ?_ | refine g_cF rfl ?_ | refine g_x rfl ?_ | refine g_lb ?_))
    refine g_cd rfl (fun hc => ?_) (fun hc => ?_)
    all_goals simp only [cmv, Bool.not_eq_true', Bool.not_eq_false', decide_eq_true_eq, decide_eq_false_iff_not] at hc
    · have e : D.sync = D.oper := by simp [Dev.sync, hd, hc]
      rw [e] at h
      (repeat (first | refine g_sq ?_ | refine g_rg ?_ | refine g_r0 ?_ | refine g_ok rfl rfl ?_ | refine g_no rfl ?_ | refine g_no0 rfl ?_ | refine g_bk ?_ | refine g_b ?_ | refine g_sk ?_ | refine g_cT rfl ?_ | refine g_cF rfl ?_ | refine g_x rfl ?_ | refine g_lb ?_))
      exact g_ret (q_1 rfl (h _ _ hS))
    · have e : D.sync = (D.oper.1.sync1, 0) := by simp [Dev.sync, hd, hc]
      rw [e] at h
      generalize D.oper.1 = D1 at h hS
      obtain ⟨hw, bc, cap, rest, a, c, h1, h2, hS⟩ := DevR.opn hS
      (repeat (first | refine g_sq ?_ | refine g_rg ?_ | refine g_r0 ?_ | refine g_ok rfl rfl ?_ | refine g_no rfl ?_ | refine g_no0 rfl ?_ | refine g_bk ?_ | refine g_b ?_ | refine g_sk ?_ | refine g_cT rfl ?_ | refine g_cF rfl ?_ | refine g_x rfl ?_ | refine g_lb ?_))
      refine g_l1 rfl rfl (hS.b  0 rfl) rfl ?_
      (repeat (first | refine g_sq ?_ | refine g_rg ?_ | refine g_r0 ?_ | refine g_ok rfl rfl ?_ | refine g_no rfl ?_ | refine g_no0 rfl ?_ | refine g_bk ?_ | refine g_b ?_ | refine g_sk ?_ | refine g_cT rfl ?_ | refine g_cF rfl ?_ | refine g_x rfl ?_ | refine g_lb ?_))
      refine g_lp (ι := Nat) (fun k => [(0, dp b), (20, .slice a D1.waits.length c), (21, .int .i64 D1.waits.length), (22, .int .i64 k)])
        (fun k w => k ≤ D1.waits.length ∧ St w0 S0 w [cel b (DevC (.slice (some ⟨bc, 0, none⟩) D1.cells.length cap) (.slice a D1.waits.length c) D1) 65, cel bc (fc (putAll D1.cells (D1.waits.take k)) ++ rest) 122, row (.slice a D1.waits.length c) 124 129 D1.waits.length (fw D1.waits)]) (fun k => D1.waits.length - k) 0 ⟨rfl, rfl, rfl, rfl, trivial⟩ ⟨Nat.zero_le _, hS⟩ ?_
      clear hS
      rintro k w ⟨hk, hS⟩
      have hwn := hw.2.2.2
      (repeat (first | refine g_sq ?_ | refine g_rg ?_ | refine g_r0 ?_ | refine g_ok rfl rfl ?_ | refine g_no rfl ?_ | refine g_no0 rfl ?_ | refine g_bk ?_ | refine g_b ?_ | refine g_sk ?_ | refine g_cT rfl ?_ | refine g_cF rfl ?_ | refine g_x rfl ?_ | refine g_lb ?_))
      refine g_cd rfl (fun hc => ?_) (fun hc => ?_)
      all_goals simp only [cmv, decide_eq_true_eq, decide_eq_false_iff_not] at hc
      · have hlt : k < D1.waits.length := by omega
        have hx : D1.waits[k]? = some D1.waits[k] := List.getElem?_eq_getElem hlt
        have hxw := hw.2.2.1 _ (List.getElem_mem hlt)
        obtain ⟨a', m', c', hv⟩ := hS.rowb 2 rfl (by omega)
        cases hv
        rcases hS.ok 2 _ rfl with ⟨hv, _⟩ | ⟨bw, capw, restw, hv, hcap, hxl, hl, hB⟩
        · cases hv
        cases hv
        (repeat (first | refine g_sq ?_ | refine g_rg ?_ | refine g_r0 ?_ | refine g_ok rfl rfl ?_ | refine g_no rfl ?_ | refine g_no0 rfl ?_ | refine g_bk ?_ | refine g_b ?_ | refine g_sk ?_ | refine g_cT rfl ?_ | refine g_cF rfl ?_ | refine g_x rfl ?_ | refine g_lb ?_))
        refine g_rq rfl rfl ⟨by omega, by omega⟩ ?_
        refine g_lm rfl rfl hB ?_ ?_
        · show 0 + k * 129 + 129 ≤ _
          rw [hl]
          omega
        have e : List.take 129 (List.drop (0 + k * 129) (fw D1.waits ++ restw)) = wv D1.waits[k] := by
          rw [Nat.zero_add, fw, flat_get (wv_flat fun x hx => (hw.2.2.1 x hx).1) (by simpa using hlt)]
          simp
        rw [show ((k : Int).toNat) = k from rfl, e]
        refine g_ef rfl (ef_al hS fun g w hS => ?_)
        refine g_ef0 rfl (ef_st hS 3 rfl rfl rfl (wv_len hxw.1) (by simp [zx]) (wv_one _) fun w hS => ?_)
        have hS := hS.ceq 3 rfl (spl_wv hxw.1)
        (repeat (first | refine g_sq ?_ | refine g_rg ?_ | refine g_r0 ?_ | refine g_ok rfl rfl ?_ | refine g_no rfl ?_ | refine g_no0 rfl ?_ | refine g_bk ?_ | refine g_b ?_ | refine g_sk ?_ | refine g_cT rfl ?_ | refine g_cF rfl ?_ | refine g_x rfl ?_ | refine g_lb ?_))
        refine g_lm rfl rfl (hS.b 3 rfl) (by rw [wv_len hxw.1]; decide) ?_
        rw [take_wv hxw.1]
        have hcl : (putAll D1.cells (D1.waits.take k)).length = D1.cells.length := putAll_len _ _
        have hS := hS.sel [0, 1, 2] rfl rfl
        rw [← hcl] at hS
        refine g_cl rfl rfl (CK.fr (A := [_, _]) hS (fun hS h => d82 hS (putAll_mem _ _ hw.2.1 (fun y hy => hw.2.2.1 y (List.mem_of_mem_take hy))) hxw.1 (by rw [hcl]; exact hxw.2) ⟨by decide, by decide⟩ h) fun w hS => ?_)
        (repeat (first | refine g_sq ?_ | refine g_rg ?_ | refine g_r0 ?_ | refine g_ok rfl rfl ?_ | refine g_no rfl ?_ | refine g_no0 rfl ?_ | refine g_bk ?_ | refine g_b ?_ | refine g_sk ?_ | refine g_cT rfl ?_ | refine g_cF rfl ?_ | refine g_x rfl ?_ | refine g_lb ?_))
        refine g_rq rfl rfl (in64 (by simp only [arv]; omega)) ?_
        (repeat (first | refine g_sq ?_ | refine g_rg ?_ | refine g_r0 ?_ | refine g_ok rfl rfl ?_ | refine g_no rfl ?_ | refine g_no0 rfl ?_ | refine g_bk ?_ | refine g_b ?_ | refine g_sk ?_ | refine g_cT rfl ?_ | refine g_cF rfl ?_ | refine g_x rfl ?_ | refine g_lb ?_))
        refine g_l (k + 1) ⟨rfl, rfl, rfl, rfl, trivial⟩ ⟨by omega, ?_⟩ (by omega)
        rw [putAll_step hx]
        rw [hcl] at hS
        exact hS
      · have : k = D1.waits.length := by omega
        subst this
        rw [List.take_length] at hS
        (repeat (first | refine g_sq ?_ | refine g_rg ?_ | refine g_r0 ?_ | refine g_ok rfl rfl ?_ | refine g_no rfl ?_ | refine g_no0 rfl ?_ | refine g_bk ?_ | refine g_b ?_ | refine g_sk ?_ | refine g_cT rfl ?_ | refine g_cF rfl ?_ | refine g_x rfl ?_ | refine g_lb ?_))
        refine g_ef0 rfl (ef_st hS 0 rfl rfl rfl rfl (Nat.le_of_ble_eq_true rfl) rfl fun w hS => ?_)
        (repeat (first | refine g_sq ?_ | refine g_rg ?_ | refine g_r0 ?_ | refine g_ok rfl rfl ?_ | refine g_no rfl ?_ | refine g_no0 rfl ?_ | refine g_bk ?_ | refine g_b ?_ | refine g_sk ?_ | refine g_cT rfl ?_ | refine g_cF rfl ?_ | refine g_x rfl ?_ | refine g_lb ?_))
        refine g_ret (q_1 rfl ?_)
        have hS := (hS.nilrow 124 129).sel [0, 1, 3] rfl rfl
        have hl : D1.sync1.cells.length = D1.cells.length := putAll_len _ _
        have hw' := hw.sync1
        obtain ⟨S', hS⟩ := DevR.cls' (D := D1.sync1) (vw := .slice none 0 0) (cap := cap) (rest := rest) (bc := bc) (b := b) (B := []) hw' (by rw [hl]; exact h1)
          (by rw [← h2, List.length_append, List.length_append, fc_len hw'.2.1, fc_len hw.2.1, hl]) (by rw [hl]; exact hS)
        exact h _ _ hS
  · simp only [if_true]
    have e : D.sync = (D, 141) := by simp [Dev.sync, hd]
    rw [e] at h
    (repeat (first | refine g_sq ?_ | refine g_rg ?_ | refine g_r0 ?_ | refine g_ok rfl rfl ?_ | refine g_no rfl ?_ | refine g_no0 rfl ?_ | refine g_bk ?_ | refine g_b ?_ | refine g_sk ?_ | refine g_cT rfl ?_ | refine g_cF rfl ?_ | refine g_x rfl ?_ | refine g_lb ?_))
    exact g_ret (q_1 rfl (h _ _ hS))
theorem c24 (hS : St w0 S0 w (DevR S b D :: B)) (h : ∀ w' S', St w0 S0 w' (DevR S' b D.sync.1 :: B) → K (.int .i64 D.sync.2) w') : CK Try.prog 24 [dp b] w K := CK.dev hS b24 h
end
end Go.Proofs.Ytegjocpjmfaigaa
