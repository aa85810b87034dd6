/- A device's depot is opened. -/
import Derived.Test.YtegjocpjmfaigaaNc
set_option linter.unusedSimpArgs false
set_option linter.unusedVariables false
namespace Go.Proofs.Ytegjocpjmfaigaa
open Go.En

def openP (D : Dev) : Dep := ⟨fun t => openJ D (frm t (D.cells.length / 2)) (D.cells.length / 2), if (openJ D 0 (D.cells.length / 2)).first < (openJ D (D.cells.length / 2) (D.cells.length / 2)).first then 2 else if 0 < (openJ D 0 (D.cells.length / 2)).first then 1 else 0, D.cells.length / 2, false⟩
theorem first_ne {J : Jou} {n : Nat} (h : n < J.first) : J.l ≠ [] := by
  intro e
  unfold Jou.first at h
  rw [e] at h
  cases h
theorem openP_ne (D : Dev) : (openP D).area ≠ 0 → ((openP D).j (openP D).liv).l ≠ [] := by
  unfold Dep.liv openP
  simp only
  split
  · rename_i h; intro _; exact first_ne h
  · split
    · rename_i h; intro _; exact first_ne h
    · intro h; exact absurd rfl h
section
variable {w w0 : World} {S0 S S1 : Nat → Prop} {K : Value → World → Prop} {pb d : Nat} {D : Dev} {B L : List Res}
def OpI (w0 : World) (S0 : Nat → Prop) (d pb : Nat) (D : Dev) (k : Nat) (w : World) : Prop :=
  let bk := D.cells.length / 2
  (k = 0 ∧ ∃ S1, St w0 S0 w [DevR S1 d D, cel pb [.pointer none, .int .i64 0, .pointer none, .pointer none, .int .i64 bk, .bool false] 113]) ∨
  (k = 1 ∧ ∃ S S1 p0, St w0 S0 w [DevR S1 d D, cel pb [if 0 < (openJ D 0 bk).first then dp p0 else .pointer none, .int .i64 ((if 0 < (openJ D 0 bk).first then 1 else 0 : Nat) : Int), dp p0, .pointer none, .int .i64 bk, .bool false] 113, JouR S p0 d 0 bk (openJ D 0 bk)]) ∨
  (k = 2 ∧ D.down = false ∧ ∃ S S1 S2 p, St w0 S0 w [DevR S1 d D, cel pb (DepC (openP D) p) 113, JouR S (p false) d 0 bk (openJ D 0 bk), JouR S2 (p true) d bk bk (openJ D bk bk)])
set_option maxRecDepth 100000 in
theorem b67 (hl : D.cells.length ≤ 4096) (hS : St w0 S0 w [DevR S1 d D]) (h1 : D.cells.length < 4 → K (.tuple ⟨[.pointer none, .int .i64 160]⟩) w) (h2 : 4 ≤ D.cells.length → D.down = true → ∀ w' S1, St w0 S0 w' [DevR S1 d D] → K (.tuple ⟨[.pointer none, .int .i64 141]⟩) w')
    (h3 : 4 ≤ D.cells.length → D.down = false → ∀ w' S S1 pb, St w0 S0 w' [DepR S pb d (openP D), DevR S1 d D] → K (.tuple ⟨[dp pb, .int .i64 0]⟩) w') : CK Try.prog 67 [dp d] w K := by
  obtain ⟨hwf, bc, nc, cap, a, c, en, hB⟩ := DevR.blk hS
  refine call_k Try.func67 k67 Try.ntmps67 (Nat.le_of_ble_eq_true rfl) ?_
  (repeat (first | refine g_sq ?_ | refine g_rg ?_ | refine g_r0 ?_ | refine g_ok rfl rfl ?_ | refine g_no rfl ?_ | refine g_no0 rfl ?_ | refine g_bk ?_ | refine g_b ?_ | refine g_sk ?_ | refine g_cT rfl ?_ | refine g_cF rfl ?_ | refine g_x rfl ?_ | refine g_lb ?_))
  refine g_cl rfl rfl (d36 hS ?_)
  (repeat (first | refine g_sq ?_ | refine g_rg ?_ | refine g_r0 ?_ | refine g_ok rfl rfl ?_ | refine g_no rfl ?_ | refine g_no0 rfl ?_ | refine g_bk ?_ | refine g_b ?_ | refine g_sk ?_ | refine g_cT rfl ?_ | refine g_cF rfl ?_ | refine g_x rfl ?_ | refine g_lb ?_))
  refine g_cd rfl (fun hz => ?_) (fun hz => ?_)
  · simp only [cmv, decide_eq_true_eq] at hz; omega
  (repeat (first | refine g_sq ?_ | refine g_rg ?_ | refine g_r0 ?_ | refine g_ok rfl rfl ?_ | refine g_no rfl ?_ | refine g_no0 rfl ?_ | refine g_bk ?_ | refine g_b ?_ | refine g_sk ?_ | refine g_cT rfl ?_ | refine g_cF rfl ?_ | refine g_x rfl ?_ | refine g_lb ?_))
  refine g_cd rfl (fun hz4 => ?_) (fun hz4 => ?_)
  all_goals simp only [cmv, decide_eq_true_eq, decide_eq_false_iff_not] at hz4
  · (repeat (first | refine g_sq ?_ | refine g_rg ?_ | refine g_r0 ?_ | refine g_ok rfl rfl ?_ | refine g_no rfl ?_ | refine g_no0 rfl ?_ | refine g_bk ?_ | refine g_b ?_ | refine g_sk ?_ | refine g_cT rfl ?_ | refine g_cF rfl ?_ | refine g_x rfl ?_ | refine g_lb ?_))
    exact g_ret (q_2 rfl rfl (h1 (by omega)))
  have h4 : 4 ≤ D.cells.length := by omega
  have h2 := h2 h4
  have h3 := h3 h4
  (repeat (first | refine g_sq ?_ | refine g_rg ?_ | refine g_r0 ?_ | refine g_ok rfl rfl ?_ | refine g_no rfl ?_ | refine g_no0 rfl ?_ | refine g_bk ?_ | refine g_b ?_ | refine g_sk ?_ | refine g_cT rfl ?_ | refine g_cF rfl ?_ | refine g_x rfl ?_ | refine g_lb ?_))
  refine g_cl rfl rfl (d36 hS ?_)
  (repeat (first | refine g_sq ?_ | refine g_rg ?_ | refine g_r0 ?_ | refine g_ok rfl rfl ?_ | refine g_no rfl ?_ | refine g_no0 rfl ?_ | refine g_bk ?_ | refine g_b ?_ | refine g_sk ?_ | refine g_cT rfl ?_ | refine g_cF rfl ?_ | refine g_x rfl ?_ | refine g_lb ?_))
  refine g_rq rfl rfl (by decide) ?_
  have hq : (D.cells.length : Int).tdiv 2 = ((D.cells.length / 2 : Nat) : Int) := by
    rw [Int.tdiv_eq_ediv_of_nonneg (by omega)]; omega
  rw [hq, wrap_in (k := .i64) (in64 (by omega))]
  (repeat (first | refine g_sq ?_ | refine g_rg ?_ | refine g_r0 ?_ | refine g_ok rfl rfl ?_ | refine g_no rfl ?_ | refine g_no0 rfl ?_ | refine g_bk ?_ | refine g_b ?_ | refine g_sk ?_ | refine g_cT rfl ?_ | refine g_cF rfl ?_ | refine g_x rfl ?_ | refine g_lb ?_))
  refine g_ef rfl (ef_bx hS rfl fun pb w hS => ?_)
  have hS : St w0 S0 w [DevR S1 d D, cel pb [.pointer none, .int .i64 0, .pointer none, .pointer none, .int .i64 ((D.cells.length / 2 : Nat) : Int), .bool false] 113] := hS
  have hbk : ∃ n, n = D.cells.length / 2 := ⟨_, rfl⟩
  obtain ⟨bk, hbk⟩ := hbk
  have hb0 : 2 ≤ bk ∧ bk ≤ 2048 ∧ 2 * bk ≤ D.cells.length := by omega
  (repeat (first | refine g_sq ?_ | refine g_rg ?_ | refine g_r0 ?_ | refine g_ok rfl rfl ?_ | refine g_no rfl ?_ | refine g_no0 rfl ?_ | refine g_bk ?_ | refine g_b ?_ | refine g_sk ?_ | refine g_cT rfl ?_ | refine g_cF rfl ?_ | refine g_x rfl ?_ | refine g_lb ?_))
  refine g_lp (ι := Nat) (fun k => [(0, dp d), (5, dp pb), (22, .int .i64 k)]) (fun k w => OpI w0 S0 d pb D k w) (fun k => 2 - k) 0 ⟨rfl, rfl, rfl, trivial⟩ (.inl ⟨rfl, S1, hS⟩) ?_
  clear hS hB
  rintro k w hI
  rcases hI with ⟨rfl, S1, hS⟩ | ⟨rfl, S, S1, p0, hS⟩ | ⟨rfl, hdn, S, S1, S2, p, hS⟩
  · -- the first area
    (repeat (first | refine g_sq ?_ | refine g_rg ?_ | refine g_r0 ?_ | refine g_ok rfl rfl ?_ | refine g_no rfl ?_ | refine g_no0 rfl ?_ | refine g_bk ?_ | refine g_b ?_ | refine g_sk ?_ | refine g_cT rfl ?_ | refine g_cF rfl ?_ | refine g_x rfl ?_ | refine g_lb ?_))
    (repeat (first | refine g_sq ?_ | refine g_rg ?_ | refine g_r0 ?_ | refine g_ok rfl rfl ?_ | refine g_no rfl ?_ | refine g_no0 rfl ?_ | refine g_bk ?_ | refine g_b ?_ | refine g_sk ?_ | refine g_cT rfl ?_ | refine g_cF rfl ?_ | refine g_x rfl ?_ | refine g_lb ?_))
    refine g_dr mixed ?_
    have hS := hS.drew
    rw [← hbk] at hS
    (repeat (first | refine d_ok rfl rfl rfl ?_ | refine d_no rfl rfl ?_))
    refine d_l1 rfl rfl rfl (hS.b 1 rfl) rfl ?_
    refine d_rq rfl rfl rfl (in64 (by simp only [arv]; omega)) ?_
    rw [show arv BinOp.mul ((0 : Nat) : Int) (bk : Int) = 0 by simp only [arv]; omega]
    (repeat (first | refine d_ok rfl rfl rfl ?_ | refine d_no rfl rfl ?_))
    refine d_l1 rfl rfl rfl (hS.b 1 rfl) rfl ?_
    refine d_cl rfl rfl rfl (c39 (fr := 0) (bk := (bk : Int)) hl hS (fun hb => absurd hb (by unfold badA; omega)) (fun _ hd => ⟨rc_0, ?_⟩) (fun _ hd w S S1 jb hS => ⟨rc_0, ?_⟩))
    · (repeat (first | refine d_ok rfl rfl rfl ?_ | refine d_no rfl rfl ?_))
      refine d_fin ?_
      (repeat (first | refine g_sq ?_ | refine g_rg ?_ | refine g_r0 ?_ | refine g_ok rfl rfl ?_ | refine g_no rfl ?_ | refine g_no0 rfl ?_ | refine g_bk ?_ | refine g_b ?_ | refine g_sk ?_ | refine g_cT rfl ?_ | refine g_cF rfl ?_ | refine g_x rfl ?_ | refine g_lb ?_))
      (repeat (first | refine g_sq ?_ | refine g_rg ?_ | refine g_r0 ?_ | refine g_ok rfl rfl ?_ | refine g_no rfl ?_ | refine g_no0 rfl ?_ | refine g_bk ?_ | refine g_b ?_ | refine g_sk ?_ | refine g_cT rfl ?_ | refine g_cF rfl ?_ | refine g_x rfl ?_ | refine g_lb ?_))
      exact g_ret (q_2 rfl rfl (h2 hd _ _ (hS.sel [0] rfl rfl)))
    · rw [show (0 : Int).toNat = 0 from rfl, Int.toNat_natCast] at hS
      (repeat (first | refine d_ok rfl rfl rfl ?_ | refine d_no rfl rfl ?_))
      refine d_fin ?_
      (repeat (first | refine g_sq ?_ | refine g_rg ?_ | refine g_r0 ?_ | refine g_ok rfl rfl ?_ | refine g_no rfl ?_ | refine g_no0 rfl ?_ | refine g_bk ?_ | refine g_b ?_ | refine g_sk ?_ | refine g_cT rfl ?_ | refine g_cF rfl ?_ | refine g_x rfl ?_ | refine g_lb ?_))
      (repeat (first | refine g_sq ?_ | refine g_rg ?_ | refine g_r0 ?_ | refine g_ok rfl rfl ?_ | refine g_no rfl ?_ | refine g_no0 rfl ?_ | refine g_bk ?_ | refine g_b ?_ | refine g_sk ?_ | refine g_cT rfl ?_ | refine g_cF rfl ?_ | refine g_x rfl ?_ | refine g_lb ?_))
      refine g_rq rfl rfl (by decide) ?_
      refine g_ef0 rfl (ef_st hS 2 rfl rfl rfl rfl (Nat.le_of_ble_eq_true rfl) rfl fun w hS => ?_)
      (repeat (first | refine g_sq ?_ | refine g_rg ?_ | refine g_r0 ?_ | refine g_ok rfl rfl ?_ | refine g_no rfl ?_ | refine g_no0 rfl ?_ | refine g_bk ?_ | refine g_b ?_ | refine g_sk ?_ | refine g_cT rfl ?_ | refine g_cF rfl ?_ | refine g_x rfl ?_ | refine g_lb ?_))
      refine g_dr mixed ?_
      have hS := hS.drew
      (repeat (first | refine d_ok rfl rfl rfl ?_ | refine d_no rfl rfl ?_))
      refine d_l1 rfl rfl rfl (hS.b 2 rfl) rfl ?_
      refine d_cl rfl rfl rfl (c49 hS ⟨rc_1 rfl rfl rfl rfl (hS.b 2 rfl) rfl rc_0, ?_⟩)
      refine d_cl rfl rfl rfl (v49 hS (.inl rfl) ⟨rc_0, ?_⟩)
      (repeat (first | refine d_ok rfl rfl rfl ?_ | refine d_no rfl rfl ?_))
      refine d_fin ?_
      refine g_cd rfl (fun hy => ?_) (fun hy => ?_)
      all_goals simp only [cmv, decide_eq_true_eq, decide_eq_false_iff_not] at hy
      · have hy : 0 < (openJ D 0 bk).first := by omega
        (repeat (first | refine g_sq ?_ | refine g_rg ?_ | refine g_r0 ?_ | refine g_ok rfl rfl ?_ | refine g_no rfl ?_ | refine g_no0 rfl ?_ | refine g_bk ?_ | refine g_b ?_ | refine g_sk ?_ | refine g_cT rfl ?_ | refine g_cF rfl ?_ | refine g_x rfl ?_ | refine g_lb ?_))
        refine g_rq rfl rfl (in64 (by decide)) ?_
        (repeat (first | refine g_sq ?_ | refine g_rg ?_ | refine g_r0 ?_ | refine g_ok rfl rfl ?_ | refine g_no rfl ?_ | refine g_no0 rfl ?_ | refine g_bk ?_ | refine g_b ?_ | refine g_sk ?_ | refine g_cT rfl ?_ | refine g_cF rfl ?_ | refine g_x rfl ?_ | refine g_lb ?_))
        refine g_ef0 rfl (ef_st hS 2 rfl rfl rfl rfl (Nat.le_of_ble_eq_true rfl) rfl fun w hS => ?_)
        (repeat (first | refine g_sq ?_ | refine g_rg ?_ | refine g_r0 ?_ | refine g_ok rfl rfl ?_ | refine g_no rfl ?_ | refine g_no0 rfl ?_ | refine g_bk ?_ | refine g_b ?_ | refine g_sk ?_ | refine g_cT rfl ?_ | refine g_cF rfl ?_ | refine g_x rfl ?_ | refine g_lb ?_))
        refine g_rq rfl rfl (in64 (by decide)) ?_
        (repeat (first | refine g_sq ?_ | refine g_rg ?_ | refine g_r0 ?_ | refine g_ok rfl rfl ?_ | refine g_no rfl ?_ | refine g_no0 rfl ?_ | refine g_bk ?_ | refine g_b ?_ | refine g_sk ?_ | refine g_cT rfl ?_ | refine g_cF rfl ?_ | refine g_x rfl ?_ | refine g_lb ?_))
        refine g_l 1 ⟨rfl, rfl, rfl, trivial⟩ (.inr (.inl ⟨rfl, S, S1, jb, ?_⟩)) (by decide)
        rw [← hbk, if_pos hy, if_pos hy]
        exact hS.sel [1, 2, 0] rfl rfl
      · have hy : ¬ 0 < (openJ D 0 bk).first := by omega
        (repeat (first | refine g_sq ?_ | refine g_rg ?_ | refine g_r0 ?_ | refine g_ok rfl rfl ?_ | refine g_no rfl ?_ | refine g_no0 rfl ?_ | refine g_bk ?_ | refine g_b ?_ | refine g_sk ?_ | refine g_cT rfl ?_ | refine g_cF rfl ?_ | refine g_x rfl ?_ | refine g_lb ?_))
        refine g_rq rfl rfl (in64 (by decide)) ?_
        (repeat (first | refine g_sq ?_ | refine g_rg ?_ | refine g_r0 ?_ | refine g_ok rfl rfl ?_ | refine g_no rfl ?_ | refine g_no0 rfl ?_ | refine g_bk ?_ | refine g_b ?_ | refine g_sk ?_ | refine g_cT rfl ?_ | refine g_cF rfl ?_ | refine g_x rfl ?_ | refine g_lb ?_))
        refine g_l 1 ⟨rfl, rfl, rfl, trivial⟩ (.inr (.inl ⟨rfl, S, S1, jb, ?_⟩)) (by decide)
        rw [← hbk, if_neg hy, if_neg hy]
        exact hS.sel [1, 2, 0] rfl rfl
  · -- the second area
    (repeat (first | refine g_sq ?_ | refine g_rg ?_ | refine g_r0 ?_ | refine g_ok rfl rfl ?_ | refine g_no rfl ?_ | refine g_no0 rfl ?_ | refine g_bk ?_ | refine g_b ?_ | refine g_sk ?_ | refine g_cT rfl ?_ | refine g_cF rfl ?_ | refine g_x rfl ?_ | refine g_lb ?_))
    (repeat (first | refine g_sq ?_ | refine g_rg ?_ | refine g_r0 ?_ | refine g_ok rfl rfl ?_ | refine g_no rfl ?_ | refine g_no0 rfl ?_ | refine g_bk ?_ | refine g_b ?_ | refine g_sk ?_ | refine g_cT rfl ?_ | refine g_cF rfl ?_ | refine g_x rfl ?_ | refine g_lb ?_))
    refine g_dr mixed ?_
    have hS := hS.drew
    rw [← hbk] at hS
    (repeat (first | refine d_ok rfl rfl rfl ?_ | refine d_no rfl rfl ?_))
    refine d_l1 rfl rfl rfl (hS.b 1 rfl) rfl ?_
    refine d_rq rfl rfl rfl (in64 (by simp only [arv]; omega)) ?_
    rw [show arv BinOp.mul ((1 : Nat) : Int) (bk : Int) = (bk : Int) by simp only [arv]; omega]
    (repeat (first | refine d_ok rfl rfl rfl ?_ | refine d_no rfl rfl ?_))
    refine d_l1 rfl rfl rfl (hS.b 1 rfl) rfl ?_
    refine d_cl rfl rfl rfl (c39 (fr := (bk : Int)) (bk := (bk : Int)) hl hS (fun hb => absurd hb (by unfold badA; omega)) (fun _ hd => ⟨rc_0, ?_⟩) (fun _ hd w S3 S1 jb hS => ⟨rc_0, ?_⟩))
    · (repeat (first | refine d_ok rfl rfl rfl ?_ | refine d_no rfl rfl ?_))
      refine d_fin ?_
      (repeat (first | refine g_sq ?_ | refine g_rg ?_ | refine g_r0 ?_ | refine g_ok rfl rfl ?_ | refine g_no rfl ?_ | refine g_no0 rfl ?_ | refine g_bk ?_ | refine g_b ?_ | refine g_sk ?_ | refine g_cT rfl ?_ | refine g_cF rfl ?_ | refine g_x rfl ?_ | refine g_lb ?_))
      (repeat (first | refine g_sq ?_ | refine g_rg ?_ | refine g_r0 ?_ | refine g_ok rfl rfl ?_ | refine g_no rfl ?_ | refine g_no0 rfl ?_ | refine g_bk ?_ | refine g_b ?_ | refine g_sk ?_ | refine g_cT rfl ?_ | refine g_cF rfl ?_ | refine g_x rfl ?_ | refine g_lb ?_))
      exact g_ret (q_2 rfl rfl (h2 hd _ _ (hS.sel [0] rfl rfl)))
    · rw [Int.toNat_natCast] at hS
      (repeat (first | refine d_ok rfl rfl rfl ?_ | refine d_no rfl rfl ?_))
      refine d_fin ?_
      (repeat (first | refine g_sq ?_ | refine g_rg ?_ | refine g_r0 ?_ | refine g_ok rfl rfl ?_ | refine g_no rfl ?_ | refine g_no0 rfl ?_ | refine g_bk ?_ | refine g_b ?_ | refine g_sk ?_ | refine g_cT rfl ?_ | refine g_cF rfl ?_ | refine g_x rfl ?_ | refine g_lb ?_))
      (repeat (first | refine g_sq ?_ | refine g_rg ?_ | refine g_r0 ?_ | refine g_ok rfl rfl ?_ | refine g_no rfl ?_ | refine g_no0 rfl ?_ | refine g_bk ?_ | refine g_b ?_ | refine g_sk ?_ | refine g_cT rfl ?_ | refine g_cF rfl ?_ | refine g_x rfl ?_ | refine g_lb ?_))
      refine g_rq rfl rfl (by decide) ?_
      refine g_ef0 rfl (ef_st hS 2 rfl rfl rfl rfl (Nat.le_of_ble_eq_true rfl) rfl fun w hS => ?_)
      (repeat (first | refine g_sq ?_ | refine g_rg ?_ | refine g_r0 ?_ | refine g_ok rfl rfl ?_ | refine g_no rfl ?_ | refine g_no0 rfl ?_ | refine g_bk ?_ | refine g_b ?_ | refine g_sk ?_ | refine g_cT rfl ?_ | refine g_cF rfl ?_ | refine g_x rfl ?_ | refine g_lb ?_))
      refine g_dr mixed ?_
      have hS := hS.drew
      have key : ∀ {K : Value → World → Prop} {L : List Res} {w : World}, St w0 S0 w (JouR S p0 d 0 bk (openJ D 0 bk) :: L) → K (.int .i64 ((openJ D 0 bk).first : Int)) w → CK Try.prog 49 [if 0 < (openJ D 0 bk).first then dp p0 else .pointer none] w K := by
        intro K L w hS h
        by_cases hy : 0 < (openJ D 0 bk).first
        · rw [if_pos hy]; exact c49 hS h
        · rw [if_neg hy]
          rw [show (openJ D 0 bk).first = 0 by omega] at h
          exact v49 hS (.inl rfl) h
      (repeat (first | refine d_ok rfl rfl rfl ?_ | refine d_no rfl rfl ?_))
      refine d_l1 rfl rfl rfl (hS.b 2 rfl) rfl ?_
      refine d_cl rfl rfl rfl (c49 hS ⟨rc_1 rfl rfl rfl rfl (hS.b 2 rfl) rfl rc_0, ?_⟩)
      refine d_cl rfl rfl rfl (key (hS.sel [3] rfl rfl) ⟨rc_0, ?_⟩)
      (repeat (first | refine d_ok rfl rfl rfl ?_ | refine d_no rfl rfl ?_))
      refine d_fin ?_
      have fin : ∀ {w : World} {v : Value} {n : Nat}, v = (if (openP D).area = 0 then .pointer none else dp ((fun t : Bool => if t then jb else p0) (openP D).liv)) → n = (openP D).area → St w0 S0 w [JouR S3 jb d bk bk (openJ D bk bk), DevR S1 d D, cel pb [v, .int .i64 n, dp p0, dp jb, .int .i64 bk, .bool false] 113, JouR S p0 d 0 bk (openJ D 0 bk)] → OpI w0 S0 d pb D 2 w := by
        intro w v n hv hn hS
        subst hv hn
        have hC : DepC (openP D) (fun t : Bool => if t then jb else p0) = [if (openP D).area = 0 then .pointer none else dp ((fun t : Bool => if t then jb else p0) (openP D).liv), .int .i64 (openP D).area, dp p0, dp jb, .int .i64 bk, .bool false] := by
          rw [hbk]; rfl
        rw [← hC] at hS
        refine .inr (.inr ⟨rfl, hd, S, S1, S3, fun t : Bool => if t then jb else p0, ?_⟩)
        rw [← hbk]
        exact hS.sel [1, 2, 3, 0] rfl rfl
      have hA : (openP D).area = if (openJ D 0 bk).first < (openJ D bk bk).first then 2 else if 0 < (openJ D 0 bk).first then 1 else 0 := by rw [hbk]; rfl
      refine g_cd rfl (fun hy => ?_) (fun hy => ?_)
      all_goals simp only [cmv, decide_eq_true_eq, decide_eq_false_iff_not] at hy
      · have hy : (openJ D 0 bk).first < (openJ D bk bk).first := by omega
        rw [if_pos hy] at hA
        (repeat (first | refine g_sq ?_ | refine g_rg ?_ | refine g_r0 ?_ | refine g_ok rfl rfl ?_ | refine g_no rfl ?_ | refine g_no0 rfl ?_ | refine g_bk ?_ | refine g_b ?_ | refine g_sk ?_ | refine g_cT rfl ?_ | refine g_cF rfl ?_ | refine g_x rfl ?_ | refine g_lb ?_))
        refine g_rq rfl rfl (in64 (by decide)) ?_
        (repeat (first | refine g_sq ?_ | refine g_rg ?_ | refine g_r0 ?_ | refine g_ok rfl rfl ?_ | refine g_no rfl ?_ | refine g_no0 rfl ?_ | refine g_bk ?_ | refine g_b ?_ | refine g_sk ?_ | refine g_cT rfl ?_ | refine g_cF rfl ?_ | refine g_x rfl ?_ | refine g_lb ?_))
        refine g_ef0 rfl (ef_st hS 2 rfl rfl rfl rfl (Nat.le_of_ble_eq_true rfl) rfl fun w hS => ?_)
        (repeat (first | refine g_sq ?_ | refine g_rg ?_ | refine g_r0 ?_ | refine g_ok rfl rfl ?_ | refine g_no rfl ?_ | refine g_no0 rfl ?_ | refine g_bk ?_ | refine g_b ?_ | refine g_sk ?_ | refine g_cT rfl ?_ | refine g_cF rfl ?_ | refine g_x rfl ?_ | refine g_lb ?_))
        refine g_rq rfl rfl (in64 (by decide)) ?_
        (repeat (first | refine g_sq ?_ | refine g_rg ?_ | refine g_r0 ?_ | refine g_ok rfl rfl ?_ | refine g_no rfl ?_ | refine g_no0 rfl ?_ | refine g_bk ?_ | refine g_b ?_ | refine g_sk ?_ | refine g_cT rfl ?_ | refine g_cF rfl ?_ | refine g_x rfl ?_ | refine g_lb ?_))
        refine g_l 2 ⟨rfl, rfl, rfl, trivial⟩ (fin (v := dp jb) (n := 2) ?_ hA.symm hS) (by decide)
        rw [if_neg (by omega), show (openP D).liv = true by unfold Dep.liv; rw [hA]; rfl]
        rfl
      · have hy : ¬ (openJ D 0 bk).first < (openJ D bk bk).first := by omega
        rw [if_neg hy] at hA
        (repeat (first | refine g_sq ?_ | refine g_rg ?_ | refine g_r0 ?_ | refine g_ok rfl rfl ?_ | refine g_no rfl ?_ | refine g_no0 rfl ?_ | refine g_bk ?_ | refine g_b ?_ | refine g_sk ?_ | refine g_cT rfl ?_ | refine g_cF rfl ?_ | refine g_x rfl ?_ | refine g_lb ?_))
        refine g_rq rfl rfl (in64 (by decide)) ?_
        (repeat (first | refine g_sq ?_ | refine g_rg ?_ | refine g_r0 ?_ | refine g_ok rfl rfl ?_ | refine g_no rfl ?_ | refine g_no0 rfl ?_ | refine g_bk ?_ | refine g_b ?_ | refine g_sk ?_ | refine g_cT rfl ?_ | refine g_cF rfl ?_ | refine g_x rfl ?_ | refine g_lb ?_))
        refine g_l 2 ⟨rfl, rfl, rfl, trivial⟩ (fin ?_ hA.symm hS) (by decide)
        by_cases h0 : 0 < (openJ D 0 bk).first
        · rw [if_pos h0] at hA ⊢
          rw [if_neg (by omega), show (openP D).liv = false by unfold Dep.liv; rw [hA]; rfl]
          rfl
        · rw [if_neg h0] at hA ⊢
          rw [if_pos hA]
  · -- the end
    (repeat (first | refine g_sq ?_ | refine g_rg ?_ | refine g_r0 ?_ | refine g_ok rfl rfl ?_ | refine g_no rfl ?_ | refine g_no0 rfl ?_ | refine g_bk ?_ | refine g_b ?_ | refine g_sk ?_ | refine g_cT rfl ?_ | refine g_cF rfl ?_ | refine g_x rfl ?_ | refine g_lb ?_))
    (repeat (first | refine g_sq ?_ | refine g_rg ?_ | refine g_r0 ?_ | refine g_ok rfl rfl ?_ | refine g_no rfl ?_ | refine g_no0 rfl ?_ | refine g_bk ?_ | refine g_b ?_ | refine g_sk ?_ | refine g_cT rfl ?_ | refine g_cF rfl ?_ | refine g_x rfl ?_ | refine g_lb ?_))
    have hS := hS.sel [1, 2, 3, 0] rfl rfl
    obtain ⟨S', hS⟩ := DepR.cls (P := openP D) false ⟨by show 2 ≤ D.cells.length / 2; omega, by show D.cells.length / 2 ≤ 2048; omega, by unfold openP; simp only; split; exact Nat.le_refl _; split <;> decide, openP_ne D⟩ rfl rfl rfl hS
    exact g_ret (q_2 rfl rfl (h3 hdn _ _ _ _ hS))
end
end Go.Proofs.Ytegjocpjmfaigaa
