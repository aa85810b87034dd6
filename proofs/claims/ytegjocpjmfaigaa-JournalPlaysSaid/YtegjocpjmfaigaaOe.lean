/- The document's journal is opened. -/
import Derived.Test.YtegjocpjmfaigaaOd
import Derived.Test.YtegjocpjmfaigaaJl
set_option linter.unusedSimpArgs false
set_option linter.unusedVariables false
namespace Go.Proofs.Ytegjocpjmfaigaa
open Go.En

theorem arr_area {D : Dev} {fr bk : Nat} (hw : D.wf) (hF : Fine D fr bk) : arr (putAll D.cells D.waits) fr bk = area D fr bk := by
  rw [putAll_all hw hF.1]
  have hl : D.all.length = D.cells.length := by unfold Dev.all; rw [hF.1]; simp
  refine List.ext_getElem? fun k => ?_
  by_cases hk : k < bk
  · rw [arr_get hk, area_get D hk, all_get hF.1 (by have := hF.2; omega)]
  · rw [List.getElem?_eq_none (by rw [arr_len (by rw [hl]; exact hF.2)]; omega), List.getElem?_eq_none (by rw [area_len]; omega)]
theorem great_take {l : List (List UInt8)} {k : Nat} {b : List UInt8} (h : l[k]? = some b) : great (l.take (k + 1)) = max (great (l.take k)) (numd b) := by
  have h1 := (List.getElem?_eq_some_iff.1 h).1
  rw [List.take_succ_eq_append_getElem h1, (List.getElem?_eq_some_iff.1 h).2, great, great, List.foldl_append]
  rfl
section
variable {w w0 : World} {S0 S S1 : Nat → Prop} {K : Value → World → Prop} {b jb d : Nat} {J : Jou} {D : Dev} {B L : List Res} {vl v : Value} {Z : GZ}
set_option maxRecDepth 100000 in
theorem b77k {vC vL : Value} {A : List (Value × List UInt8)} {W : List (Int × Value × List UInt8)} (hx : (⟨vC, vL, A, W⟩ : RI).fits D) (hl : D.cells.length ≤ 4096) (hS : St w0 S0 w [cel b (RefC vC vL D) 57, row vC 35 1 A.length (A.map (·.1)), row vL 147 2 W.length (lw W), pool (A ++ W.map (·.2))])
    (h : ∀ w' b2 vC2 vL2, St w0 S0 w' [cel b (RefC vC vL D) 57, row vC 35 1 A.length (A.map (·.1)), row vL 147 2 W.length (lw W), pool (A ++ W.map (·.2)), cel b2 (RefC vC2 vL2 D) 57, row vC2 35 1 A.length (A.map (·.1)), row vL2 147 2 W.length (lw W)] → K (dp b2) w') : CK Try.prog 77 [dp b] w K := by
  have hcl : A.length = D.cells.length := hx.cl
  have hwl : W.length = D.waits.length := hx.wl
  have hwn := hx.1.2.2.2
  have hpool := hS.ok 3 _ rfl
  have hA1 : ∀ y ∈ A, ∃ a n c, y.1 = .slice a n c := fun y hy => by
    obtain ⟨a, c, e⟩ := Rd.form (hpool y (List.mem_append_left _ hy)); exact ⟨_, _, _, e⟩
  have hW1 : ∀ y ∈ W, ∃ a n c, y.2.1 = .slice a n c := fun y hy => by
    obtain ⟨a, c, e⟩ := Rd.form (hpool y.2 (List.mem_append_right _ (List.mem_map.2 ⟨y, hy, rfl⟩))); exact ⟨_, _, _, e⟩
  clear hpool
  refine call_k Try.func77 k77 Try.ntmps77 (Nat.le_of_ble_eq_true rfl) ?_
  (repeat (first | refine g_sq ?_ | refine g_rg ?_ | refine g_r0 ?_ | refine g_ok rfl rfl ?_ | refine g_no rfl ?_ | refine g_no0 rfl ?_ | refine g_bk ?_ | refine g_b ?_ | refine g_sk ?_ | refine g_cT rfl ?_ | refine g_cF rfl ?_ | refine g_x rfl ?_ | refine g_lb ?_))
  refine g_dr mixed ?_
  have hS := hS.drew
  (repeat (first | refine d_ok rfl rfl rfl ?_ | refine d_no rfl rfl ?_))
  refine d_l1 rfl rfl rfl (hS.b 0 rfl) rfl ?_
  (repeat (first | refine d_ok rfl rfl rfl ?_ | refine d_no rfl rfl ?_))
  refine d_l1 rfl rfl rfl (hS.b 0 rfl) rfl ?_
  (repeat (first | refine d_ok rfl rfl rfl ?_ | refine d_no rfl rfl ?_))
  refine d_l1 rfl rfl rfl (hS.b 0 rfl) rfl ?_
  (repeat (first | refine d_ok rfl rfl rfl ?_ | refine d_no rfl rfl ?_))
  refine d_lm rfl rfl rfl (hS.b 0 rfl) (Nat.le_of_ble_eq_true rfl) ?_
  (repeat (first | refine d_ok rfl rfl rfl ?_ | refine d_no rfl rfl ?_))
  refine d_e rfl rfl ?_
  refine ef_bx hS rfl fun g w hS => ⟨rc_0, ?_⟩
  (repeat (first | refine d_ok rfl rfl rfl ?_ | refine d_no rfl rfl ?_))
  refine d_fin ?_
  refine g_sq ?_
  refine g_dr mixed ?_
  have hS := (hS.drew).nilrow 35 1
  (repeat (first | refine d_ok rfl rfl rfl ?_ | refine d_no rfl rfl ?_))
  refine d_l1 rfl rfl rfl (hS.b 4 rfl) rfl ?_
  (repeat (first | refine d_ok rfl rfl rfl ?_ | refine d_no rfl rfl ?_))
  refine d_l1 rfl rfl rfl (hS.b 0 rfl) rfl ?_
  refine d_e rfl rfl ?_
  refine ef_ap (n := 0) (m := A.length) (xs := []) hS 5 rfl rfl rfl (.inl ⟨35, Ow.rd (hS.ok 1 _ rfl)⟩) (cA_one hA1) (by omega) (by omega) fun v1 w hS => ⟨rc_0, ?_⟩
  rw [show 0 + A.length = A.length from Nat.zero_add _, List.nil_append] at hS
  obtain ⟨a1, c1, rfl⟩ := hS.rlen 5 rfl
  (repeat (first | refine d_ok rfl rfl rfl ?_ | refine d_no rfl rfl ?_))
  refine d_e0 rfl rfl ?_
  refine ef_st hS 4 rfl rfl rfl rfl (Nat.le_of_ble_eq_true rfl) rfl fun w hS => ⟨rc_0, ?_⟩
  refine d_fin ?_
  refine g_sq ?_
  refine g_dr mixed ?_
  have hS := (hS.drew).nilrow 147 2
  (repeat (first | refine d_ok rfl rfl rfl ?_ | refine d_no rfl rfl ?_))
  refine d_l1 rfl rfl rfl (hS.b 4 rfl) rfl ?_
  (repeat (first | refine d_ok rfl rfl rfl ?_ | refine d_no rfl rfl ?_))
  refine d_l1 rfl rfl rfl (hS.b 0 rfl) rfl ?_
  refine d_e rfl rfl ?_
  refine ef_ap (n := 0) (m := W.length) (xs := []) hS 6 rfl rfl rfl (.inl ⟨147, Ow.rd (hS.ok 2 _ rfl)⟩) (lw_one hW1) (by omega) (by omega) fun v2 w hS => ⟨rc_0, ?_⟩
  rw [show 0 + W.length = W.length from Nat.zero_add _, List.nil_append] at hS
  obtain ⟨a2, c2, rfl⟩ := hS.rlen 6 rfl
  (repeat (first | refine d_ok rfl rfl rfl ?_ | refine d_no rfl rfl ?_))
  refine d_e0 rfl rfl ?_
  refine ef_st hS 4 rfl rfl rfl rfl (Nat.le_of_ble_eq_true rfl) rfl fun w hS => ⟨rc_0, ?_⟩
  refine d_fin ?_
  (repeat (first | refine g_sq ?_ | refine g_rg ?_ | refine g_r0 ?_ | refine g_ok rfl rfl ?_ | refine g_no rfl ?_ | refine g_no0 rfl ?_ | refine g_bk ?_ | refine g_b ?_ | refine g_sk ?_ | refine g_cT rfl ?_ | refine g_cF rfl ?_ | refine g_x rfl ?_ | refine g_lb ?_))
  exact g_ret (q_1 rfl (h _ _ _ _ hS))
set_option maxRecDepth 100000 in
set_option maxHeartbeats 1000000 in
theorem b94 {fr bk : Int} (hl : D.cells.length ≤ 4096) (hS : St w0 S0 w [RefR S1 d D]) (h1 : badA D fr bk → K (.tuple ⟨[.pointer none, .int .i64 151]⟩) w) (h2 : ¬ badA D fr bk → D.down = true → K (.tuple ⟨[.pointer none, .int .i64 141]⟩) w)
    (h3 : ¬ badA D fr bk → D.down = false → ∀ w' S S1 jb, St w0 S0 w' [RjoR S jb d fr.toNat bk.toNat (openJ D fr.toNat bk.toNat), RefR S1 d D] → K (.tuple ⟨[dp jb, .int .i64 0]⟩) w') : CK Try.prog 94 [dp d, .int .i64 fr, .int .i64 bk] w K := by
  obtain ⟨x, hx, hS⟩ := RefR.opn hS
  obtain ⟨vC, vL, A, W⟩ := x
  have hcl : A.length = D.cells.length := hx.cl
  have hwl : W.length = D.waits.length := hx.wl
  have hwf := hx.1
  have hn0 := List.length_pos_iff.2 hwf.1
  have hwn := hwf.2.2.2
  obtain ⟨aC, cC, rfl⟩ : ∃ aC cC, vC = .slice aC A.length cC := hS.rlen 1 rfl
  obtain ⟨aL, cL, rfl⟩ : ∃ aL cL, vL = .slice aL W.length cL := hS.rlen 2 rfl
  refine call_k Try.func94 k94 Try.ntmps94 (Nat.le_of_ble_eq_true rfl) ?_
  (repeat (first | refine g_sq ?_ | refine g_rg ?_ | refine g_r0 ?_ | refine g_ok rfl rfl ?_ | refine g_no rfl ?_ | refine g_no0 rfl ?_ | refine g_bk ?_ | refine g_b ?_ | refine g_sk ?_ | refine g_cT rfl ?_ | refine g_cF rfl ?_ | refine g_x rfl ?_ | refine g_lb ?_))
  generalize hq1 : cmv BinOp.lss fr 0 = q1
  cases q1
  all_goals simp only [cmv, decide_eq_true_eq, decide_eq_false_iff_not] at hq1
  rotate_left
  · (repeat (first | refine g_sq ?_ | refine g_rg ?_ | refine g_r0 ?_ | refine g_ok rfl rfl ?_ | refine g_no rfl ?_ | refine g_no0 rfl ?_ | refine g_bk ?_ | refine g_b ?_ | refine g_sk ?_ | refine g_cT rfl ?_ | refine g_cF rfl ?_ | refine g_x rfl ?_ | refine g_lb ?_))
    exact g_ret (q_2 rfl rfl (h1 (.inl hq1)))
  (repeat (first | refine g_sq ?_ | refine g_rg ?_ | refine g_r0 ?_ | refine g_ok rfl rfl ?_ | refine g_no rfl ?_ | refine g_no0 rfl ?_ | refine g_bk ?_ | refine g_b ?_ | refine g_sk ?_ | refine g_cT rfl ?_ | refine g_cF rfl ?_ | refine g_x rfl ?_ | refine g_lb ?_))
  generalize hq2 : cmv BinOp.lss bk 2 = q2
  cases q2
  all_goals simp only [cmv, decide_eq_true_eq, decide_eq_false_iff_not] at hq2
  rotate_left
  · (repeat (first | refine g_sq ?_ | refine g_rg ?_ | refine g_r0 ?_ | refine g_ok rfl rfl ?_ | refine g_no rfl ?_ | refine g_no0 rfl ?_ | refine g_bk ?_ | refine g_b ?_ | refine g_sk ?_ | refine g_cT rfl ?_ | refine g_cF rfl ?_ | refine g_x rfl ?_ | refine g_lb ?_))
    exact g_ret (q_2 rfl rfl (h1 (.inr (.inl hq2))))
  (repeat (first | refine g_sq ?_ | refine g_rg ?_ | refine g_r0 ?_ | refine g_ok rfl rfl ?_ | refine g_no rfl ?_ | refine g_no0 rfl ?_ | refine g_bk ?_ | refine g_b ?_ | refine g_sk ?_ | refine g_cT rfl ?_ | refine g_cF rfl ?_ | refine g_x rfl ?_ | refine g_lb ?_))
  refine g_l1 rfl rfl (hS.b  0 rfl) rfl ?_
  (repeat (first | refine g_sq ?_ | refine g_rg ?_ | refine g_r0 ?_ | refine g_ok rfl rfl ?_ | refine g_no rfl ?_ | refine g_no0 rfl ?_ | refine g_bk ?_ | refine g_b ?_ | refine g_sk ?_ | refine g_cT rfl ?_ | refine g_cF rfl ?_ | refine g_x rfl ?_ | refine g_lb ?_))
  generalize hq3 : cmv BinOp.gtr bk (A.length : Int) = q3
  cases q3
  all_goals simp only [cmv, decide_eq_true_eq, decide_eq_false_iff_not] at hq3
  rotate_left
  · (repeat (first | refine g_sq ?_ | refine g_rg ?_ | refine g_r0 ?_ | refine g_ok rfl rfl ?_ | refine g_no rfl ?_ | refine g_no0 rfl ?_ | refine g_bk ?_ | refine g_b ?_ | refine g_sk ?_ | refine g_cT rfl ?_ | refine g_cF rfl ?_ | refine g_x rfl ?_ | refine g_lb ?_))
    exact g_ret (q_2 rfl rfl (h1 (.inr (.inr (.inl (by omega))))))
  (repeat (first | refine g_sq ?_ | refine g_rg ?_ | refine g_r0 ?_ | refine g_ok rfl rfl ?_ | refine g_no rfl ?_ | refine g_no0 rfl ?_ | refine g_bk ?_ | refine g_b ?_ | refine g_sk ?_ | refine g_cT rfl ?_ | refine g_cF rfl ?_ | refine g_x rfl ?_ | refine g_lb ?_))
  refine g_l1 rfl rfl (hS.b  0 rfl) rfl ?_
  (repeat (first | refine g_sq ?_ | refine g_rg ?_ | refine g_r0 ?_ | refine g_ok rfl rfl ?_ | refine g_no rfl ?_ | refine g_no0 rfl ?_ | refine g_bk ?_ | refine g_b ?_ | refine g_sk ?_ | refine g_cT rfl ?_ | refine g_cF rfl ?_ | refine g_x rfl ?_ | refine g_lb ?_))
  refine g_rq rfl rfl (in64 (by simp only [arv]; omega)) ?_
  (repeat (first | refine g_sq ?_ | refine g_rg ?_ | refine g_r0 ?_ | refine g_ok rfl rfl ?_ | refine g_no rfl ?_ | refine g_no0 rfl ?_ | refine g_bk ?_ | refine g_b ?_ | refine g_sk ?_ | refine g_cT rfl ?_ | refine g_cF rfl ?_ | refine g_x rfl ?_ | refine g_lb ?_))
  refine g_cd rfl (fun hz => ?_) (fun hz => ?_)
  all_goals simp only [cmv, decide_eq_true_eq, decide_eq_false_iff_not] at hz
  all_goals simp only [arv] at hz
  · (repeat (first | refine g_sq ?_ | refine g_rg ?_ | refine g_r0 ?_ | refine g_ok rfl rfl ?_ | refine g_no rfl ?_ | refine g_no0 rfl ?_ | refine g_bk ?_ | refine g_b ?_ | refine g_sk ?_ | refine g_cT rfl ?_ | refine g_cF rfl ?_ | refine g_x rfl ?_ | refine g_lb ?_))
    exact g_ret (q_2 rfl rfl (h1 (.inr (.inr (.inr (by omega))))))
  have hbad : ¬ badA D fr bk := by unfold badA; omega
  (repeat (first | refine g_sq ?_ | refine g_rg ?_ | refine g_r0 ?_ | refine g_ok rfl rfl ?_ | refine g_no rfl ?_ | refine g_no0 rfl ?_ | refine g_bk ?_ | refine g_b ?_ | refine g_sk ?_ | refine g_cT rfl ?_ | refine g_cF rfl ?_ | refine g_x rfl ?_ | refine g_lb ?_))
  refine g_l1 rfl rfl (hS.b  0 rfl) rfl ?_
  refine g_r0 ?_
  refine g_cd (t := D.down) rfl (fun hy => ?_) (fun hy => ?_)
  · (repeat (first | refine g_sq ?_ | refine g_rg ?_ | refine g_r0 ?_ | refine g_ok rfl rfl ?_ | refine g_no rfl ?_ | refine g_no0 rfl ?_ | refine g_bk ?_ | refine g_b ?_ | refine g_sk ?_ | refine g_cT rfl ?_ | refine g_cF rfl ?_ | refine g_x rfl ?_ | refine g_lb ?_))
    exact g_ret (q_2 rfl rfl (h2 hbad hy))
  have h3 := h3 hbad hy
  obtain ⟨f, rfl⟩ : ∃ f : Nat, fr = (f : Int) := ⟨fr.toNat, by omega⟩
  obtain ⟨k, rfl⟩ : ∃ k : Nat, bk = (k : Int) := ⟨bk.toNat, by omega⟩
  rw [Int.toNat_natCast, Int.toNat_natCast] at h3
  have hF : Fine D f k := ⟨hy, by omega⟩
  clear h1 h2
  (repeat (first | refine g_sq ?_ | refine g_rg ?_ | refine g_r0 ?_ | refine g_ok rfl rfl ?_ | refine g_no rfl ?_ | refine g_no0 rfl ?_ | refine g_bk ?_ | refine g_b ?_ | refine g_sk ?_ | refine g_cT rfl ?_ | refine g_cF rfl ?_ | refine g_x rfl ?_ | refine g_lb ?_))
  refine g_cl rfl rfl (b77k hx hl hS fun w b2 vC2 vL2 hS => ?_)
  (repeat (first | refine g_sq ?_ | refine g_rg ?_ | refine g_r0 ?_ | refine g_ok rfl rfl ?_ | refine g_no rfl ?_ | refine g_no0 rfl ?_ | refine g_bk ?_ | refine g_b ?_ | refine g_sk ?_ | refine g_cT rfl ?_ | refine g_cF rfl ?_ | refine g_x rfl ?_ | refine g_lb ?_))
  refine g_ef rfl (ef_bx hS rfl fun jb w hS => ?_)
  have hS : St w0 S0 w [cel d (RefC (.slice aC A.length cC) (.slice aL W.length cL) D) 57, row (.slice aC A.length cC) 35 1 A.length (A.map (·.1)), row (.slice aL W.length cL) 147 2 W.length (lw W), pool (A ++ W.map (·.2)), cel b2 (RefC vC2 vL2 D) 57, row vC2 35 1 A.length (A.map (·.1)), row vL2 147 2 W.length (lw W), cel jb (JouC (dp b2) f k (.slice none 0 0) ⟨[], 1, false⟩) 141] := hS
  have hS := pool_nil (hS.nilrow 171 3)
  have hS := hS.sel [7, 8, 9, 4, 5, 3, 0, 1, 2] rfl rfl
  obtain ⟨S, hS⟩ := RjoR.cls (Z := []) (J := ⟨[], 1, false⟩) ⟨Nat.zero_le _, by decide, fun g hg => nomatch hg⟩ (by omega) (by omega) rfl hS
  -- what was written and not synced
  (repeat (first | refine g_sq ?_ | refine g_rg ?_ | refine g_r0 ?_ | refine g_ok rfl rfl ?_ | refine g_no rfl ?_ | refine g_no0 rfl ?_ | refine g_bk ?_ | refine g_b ?_ | refine g_sk ?_ | refine g_cT rfl ?_ | refine g_cF rfl ?_ | refine g_x rfl ?_ | refine g_lb ?_))
  refine g_atx (ι := List (Value × List UInt8)) 2 (fun _ => [(0, dp d), (1, .int .i64 f), (2, .int .i64 k), (8, dp jb)])
    (fun X w => X.length = D.cells.length ∧ X.map (·.2) = putAll D.cells D.waits ∧ (∀ p ∈ X, p ∈ A ++ W.map (·.2)) ∧
      St w0 S0 w [RjoR S jb b2 f k ⟨[], 1, false⟩, cel b2 (RefC vC2 vL2 D) 57, row vC2 35 1 X.length (X.map (·.1)), pool (A ++ W.map (·.2)), cel d (RefC (.slice aC A.length cC) (.slice aL W.length cL) D) 57, row (.slice aC A.length cC) 35 1 A.length (A.map (·.1)), row (.slice aL W.length cL) 147 2 W.length (lw W)]) rfl ?_ ?_
  · (repeat (first | refine g_sq ?_ | refine g_rg ?_ | refine g_r0 ?_ | refine g_ok rfl rfl ?_ | refine g_no rfl ?_ | refine g_no0 rfl ?_ | refine g_bk ?_ | refine g_b ?_ | refine g_sk ?_ | refine g_cT rfl ?_ | refine g_cF rfl ?_ | refine g_x rfl ?_ | refine g_lb ?_))
    refine g_lp (ι := Nat × List (Value × List UInt8)) (fun x => [(0, dp d), (1, .int .i64 f), (2, .int .i64 k), (8, dp jb), (9, .int .i64 x.1)])
      (fun x w => x.1 ≤ W.length ∧ x.2.length = D.cells.length ∧ x.2.map (·.2) = putAll D.cells (D.waits.take x.1) ∧ (∀ p ∈ x.2, p ∈ A ++ W.map (·.2)) ∧
        St w0 S0 w [RjoR S jb b2 f k ⟨[], 1, false⟩, cel b2 (RefC vC2 vL2 D) 57, row vC2 35 1 x.2.length (x.2.map (·.1)), pool (A ++ W.map (·.2)), cel d (RefC (.slice aC A.length cC) (.slice aL W.length cL) D) 57, row (.slice aC A.length cC) 35 1 A.length (A.map (·.1)), row (.slice aL W.length cL) 147 2 W.length (lw W)]) (fun x => W.length - x.1) (0, A)
      ⟨rfl, rfl, rfl, rfl, rfl, trivial⟩ ⟨Nat.zero_le _, hcl, hx.2.1, fun p hp => List.mem_append_left _ hp, hS⟩ ?_
    clear hS
    rintro ⟨i, X⟩ w ⟨hi, hX, hXc, hXm, hS⟩
    simp only at hi hX hXc hXm hS
    (repeat (first | refine g_sq ?_ | refine g_rg ?_ | refine g_r0 ?_ | refine g_ok rfl rfl ?_ | refine g_no rfl ?_ | refine g_no0 rfl ?_ | refine g_bk ?_ | refine g_b ?_ | refine g_sk ?_ | refine g_cT rfl ?_ | refine g_cF rfl ?_ | refine g_x rfl ?_ | refine g_lb ?_))
    refine g_l1 rfl rfl (hS.b  4 rfl) rfl ?_
    (repeat (first | refine g_sq ?_ | refine g_rg ?_ | refine g_r0 ?_ | refine g_ok rfl rfl ?_ | refine g_no rfl ?_ | refine g_no0 rfl ?_ | refine g_bk ?_ | refine g_b ?_ | refine g_sk ?_ | refine g_cT rfl ?_ | refine g_cF rfl ?_ | refine g_x rfl ?_ | refine g_lb ?_))
    refine g_cd rfl (fun hc => ?_) (fun hc => ?_)
    all_goals simp only [cmv, decide_eq_true_eq, decide_eq_false_iff_not] at hc
    · have hltk : i < W.length := by omega
      have hy' : W[i]? = some W[i] := List.getElem?_eq_getElem hltk
      generalize W[i] = y at hy'
      have hyd : D.waits[i]? = some (y.1, y.2.2) := by rw [← hx.2.2, List.getElem?_map, hy']; rfl
      have hyw := hwf.2.2.1 _ (List.mem_of_getElem? hyd)
      have hlt : y.1.toNat < X.length := by have := hyw.2; simp only at this; omega
      have hym : y.2 ∈ A ++ W.map (·.2) := List.mem_append_right _ (List.mem_map.2 ⟨y, List.mem_of_getElem? hy', rfl⟩)
      have hry : Rd y.2.1 5 1 128 (bys y.2.2) w := by
        have := hS.ok 3 _ rfl y.2 hym
        rwa [hyw.1] at this
      obtain ⟨bL, capL, restL, hvL, hcL, hBL, hlL⟩ := row_blk hS 6 rfl (by omega)
      cases hvL
      obtain ⟨g1, g2⟩ := lw_get restL hy'
      obtain ⟨aC2, mC2, cC2, rfl⟩ := hS.rowb 2 rfl (by omega)
      obtain ⟨bC2, capC2, restC2, hv2, hc2, hB2, hl2⟩ := row_blk hS 2 rfl (by omega)
      cases hv2
      obtain ⟨by', oy, cy, ly, ey, _⟩ := Rd.block hry (by decide)
      (repeat (first | refine g_sq ?_ | refine g_rg ?_ | refine g_r0 ?_ | refine g_ok rfl rfl ?_ | refine g_no rfl ?_ | refine g_no0 rfl ?_ | refine g_bk ?_ | refine g_b ?_ | refine g_sk ?_ | refine g_cT rfl ?_ | refine g_cF rfl ?_ | refine g_x rfl ?_ | refine g_lb ?_))
      refine g_dr mixed ?_
      have hS := hS.drew
      have hBL : Blk w.drew bL (lw W ++ restL) 147 := hBL
      obtain ⟨_, _, _, vl, hB⟩ := RjoR.blk hS
      (repeat (first | refine d_ok rfl rfl rfl ?_ | refine d_no rfl rfl ?_))
      refine d_l1 rfl rfl rfl hB rfl ?_
      (repeat (first | refine d_ok rfl rfl rfl ?_ | refine d_no rfl rfl ?_))
      refine d_l1 rfl rfl rfl (hS.b 1 rfl) rfl ?_
      (repeat (first | refine d_ok rfl rfl rfl ?_ | refine d_no rfl rfl ?_))
      refine d_l1 rfl rfl rfl (hS.b 4 rfl) rfl ?_
      (repeat (first | refine d_ok rfl rfl rfl ?_ | refine d_no rfl rfl ?_))
      refine d_rq rfl rfl rfl ⟨by omega, by omega⟩ ?_
      (repeat (first | refine d_ok rfl rfl rfl ?_ | refine d_no rfl rfl ?_))
      refine d_l1 (v := .int .i64 y.1) rfl rfl rfl hBL (by rw [Nat.zero_add, Nat.add_zero]; exact g1) ?_
      (repeat (first | refine d_ok rfl rfl rfl ?_ | refine d_no rfl rfl ?_))
      refine d_l1 rfl rfl rfl (hS.b 4 rfl) rfl ?_
      (repeat (first | refine d_ok rfl rfl rfl ?_ | refine d_no rfl rfl ?_))
      refine d_rq rfl rfl rfl ⟨by omega, by omega⟩ ?_
      (repeat (first | refine d_ok rfl rfl rfl ?_ | refine d_no rfl rfl ?_))
      refine d_l1 (v := .slice (some ⟨by', oy, none⟩) 128 cy) rfl rfl rfl hBL (by rw [Nat.zero_add, ← ey]; exact g2) ?_
      refine d_rq rfl rfl rfl ⟨hyw.2.1, by have := hyw.2; simp only at this; omega⟩ ?_
      obtain ⟨_, capC', restC', hv, h1C, h2C, hS⟩ := hS.open_row 2 rfl ⟨_, _, _, rfl⟩
      cases hv
      refine d_e0 rfl rfl ?_
      refine ef_st hS 2 rfl rfl rfl rfl (by simp only [Nat.zero_add, List.length_append, List.length_map]; omega) rfl fun w1 hS => ⟨rc_0, ?_⟩
      refine d_fin ?_
      have hset : spl (X.map (·.1) ++ restC') (0 + y.1.toNat * 1) [.slice (some ⟨by', oy, none⟩) 128 cy] = (X.set y.1.toNat y.2).map (·.1) ++ restC' := by
        rw [List.map_set, Nat.zero_add, Nat.mul_one, ← List.set_append_left _ _ (by simpa using hlt), ey]
        rw [List.set_eq_take_append_cons_drop, if_pos (by simp; omega)]
        simp [spl]
      have hS := hS.ceq 2 rfl hset
      have hS := hS.close_row (sz := 1) (n := X.length) (cap := cC2) 2 rfl h1C (by simp) (List.prefix_append _ _) (by rw [← h2C]; simp)
      (repeat (first | refine g_sq ?_ | refine g_rg ?_ | refine g_r0 ?_ | refine g_ok rfl rfl ?_ | refine g_no rfl ?_ | refine g_no0 rfl ?_ | refine g_bk ?_ | refine g_b ?_ | refine g_sk ?_ | refine g_cT rfl ?_ | refine g_cF rfl ?_ | refine g_x rfl ?_ | refine g_lb ?_))
      refine g_rq rfl rfl (in64 (by simp only [arv]; omega)) ?_
      (repeat (first | refine g_sq ?_ | refine g_rg ?_ | refine g_r0 ?_ | refine g_ok rfl rfl ?_ | refine g_no rfl ?_ | refine g_no0 rfl ?_ | refine g_bk ?_ | refine g_b ?_ | refine g_sk ?_ | refine g_cT rfl ?_ | refine g_cF rfl ?_ | refine g_x rfl ?_ | refine g_lb ?_))
      refine g_l (i + 1, X.set y.1.toNat y.2) ⟨rfl, rfl, rfl, rfl, rfl, trivial⟩ ⟨by simp only; omega, by simpa using hX, ?_, ?_, ?_⟩ (by simp only; omega)
      · have hal : y.1.toNat < (X.map (·.2)).length := by simpa using hlt
        rw [putAll_step hyd, List.map_set, ← hXc]
        exact (putB_all (x := (y.1, y.2.2)) hyw.1 hal (by rw [hXc]; exact putAll_mem _ _ hwf.2.1 (fun z hz => hwf.2.2.1 z (List.mem_of_mem_take hz)))).symm
      · intro p hp
        rcases List.mem_or_eq_of_mem_set hp with hp | hp
        · exact hXm p hp
        · subst hp; exact hym
      · simp only [List.length_set]
        exact hS
    · have : i = W.length := by omega
      subst this
      rw [hwl, List.take_length] at hXc
      (repeat (first | refine g_sq ?_ | refine g_rg ?_ | refine g_r0 ?_ | refine g_ok rfl rfl ?_ | refine g_no rfl ?_ | refine g_no0 rfl ?_ | refine g_bk ?_ | refine g_b ?_ | refine g_sk ?_ | refine g_cT rfl ?_ | refine g_cF rfl ?_ | refine g_x rfl ?_ | refine g_lb ?_))
      exact g_jx X ⟨rfl, rfl, rfl, rfl, trivial⟩ ⟨hX, hXc, hXm, hS⟩
  clear hS
  rintro X T w hT ⟨hX, hXc, hXm, hS⟩
  refine g_wkc hT ?_
  have hX128 : ∀ p ∈ X, p.2.length = 128 := fun p hp => putAll_mem _ _ hwf.2.1 (fun z hz => hwf.2.2.1 z hz) p.2 (by rw [← hXc]; exact List.mem_map.2 ⟨p, hp, rfl⟩)
  have har : arr (X.map (·.2)) f k = area D f k := by rw [hXc]; exact arr_area hwf hF
  have hal := area_len D f k
  have ham := area_mem hwf hF
  -- the groups
  (repeat (first | refine g_sq ?_ | refine g_rg ?_ | refine g_r0 ?_ | refine g_ok rfl rfl ?_ | refine g_no rfl ?_ | refine g_no0 rfl ?_ | refine g_bk ?_ | refine g_b ?_ | refine g_sk ?_ | refine g_cT rfl ?_ | refine g_cF rfl ?_ | refine g_x rfl ?_ | refine g_lb ?_))
  refine g_atx (ι := Unit) 2 (fun _ => [(0, dp d), (1, .int .i64 f), (2, .int .i64 k), (8, dp jb)])
    (fun _ w => ∃ S, St w0 S0 w [RjoR S jb b2 f k ⟨opened (area D f k), 1, false⟩, cel b2 (RefC vC2 vL2 D) 57, row vC2 35 1 X.length (X.map (·.1)), pool (A ++ W.map (·.2)), cel d (RefC (.slice aC A.length cC) (.slice aL W.length cL) D) 57, row (.slice aC A.length cC) 35 1 A.length (A.map (·.1)), row (.slice aL W.length cL) 147 2 W.length (lw W)]) rfl ?_ ?_
  · (repeat (first | refine g_sq ?_ | refine g_rg ?_ | refine g_r0 ?_ | refine g_ok rfl rfl ?_ | refine g_no rfl ?_ | refine g_no0 rfl ?_ | refine g_bk ?_ | refine g_b ?_ | refine g_sk ?_ | refine g_cT rfl ?_ | refine g_cF rfl ?_ | refine g_x rfl ?_ | refine g_lb ?_))
    refine g_lp (ι := List Grp) (fun acc => [(0, dp d), (1, .int .i64 f), (2, .int .i64 k), (8, dp jb), (10, .int .i64 (usedOf acc)), (11, .int .i64 (lastOf acc))])
      (fun acc w => Rch (area D f k) acc ∧ ∃ S, St w0 S0 w [RjoR S jb b2 f k ⟨acc, 1, false⟩, cel b2 (RefC vC2 vL2 D) 57, row vC2 35 1 X.length (X.map (·.1)), pool (A ++ W.map (·.2)), cel d (RefC (.slice aC A.length cC) (.slice aL W.length cL) D) 57, row (.slice aC A.length cC) 35 1 A.length (A.map (·.1)), row (.slice aL W.length cL) 147 2 W.length (lw W)]) (fun acc => k - usedOf acc) []
      ⟨rfl, rfl, rfl, rfl, rfl, rfl, trivial⟩ ⟨Rch.nil _, S, hS⟩ ?_
    clear hS
    rintro acc w ⟨hR, S, hS⟩
    have hu : usedOf acc ≤ k := by obtain ⟨_, _, h, _⟩ := hR; omega
    (repeat (first | refine g_sq ?_ | refine g_rg ?_ | refine g_r0 ?_ | refine g_ok rfl rfl ?_ | refine g_no rfl ?_ | refine g_no0 rfl ?_ | refine g_bk ?_ | refine g_b ?_ | refine g_sk ?_ | refine g_cT rfl ?_ | refine g_cF rfl ?_ | refine g_x rfl ?_ | refine g_lb ?_))
    refine g_cd rfl (fun hc => ?_) (fun hc => ?_)
    all_goals simp only [cmv, decide_eq_true_eq, decide_eq_false_iff_not] at hc
    rotate_left
    · have e := hR.none (by rw [List.drop_eq_nil_of_le (by omega)]; rfl)
      subst e
      (repeat (first | refine g_sq ?_ | refine g_rg ?_ | refine g_r0 ?_ | refine g_ok rfl rfl ?_ | refine g_no rfl ?_ | refine g_no0 rfl ?_ | refine g_bk ?_ | refine g_b ?_ | refine g_sk ?_ | refine g_cT rfl ?_ | refine g_cF rfl ?_ | refine g_x rfl ?_ | refine g_lb ?_))
      exact g_jx () ⟨rfl, rfl, rfl, rfl, trivial⟩ ⟨S, hS⟩
    (repeat (first | refine g_sq ?_ | refine g_rg ?_ | refine g_r0 ?_ | refine g_ok rfl rfl ?_ | refine g_no rfl ?_ | refine g_no0 rfl ?_ | refine g_bk ?_ | refine g_b ?_ | refine g_sk ?_ | refine g_cT rfl ?_ | refine g_cF rfl ?_ | refine g_x rfl ?_ | refine g_lb ?_))
    refine g_cl rfl rfl (c117 (i := usedOf acc) hXm hX128 (by omega) (by omega) (by omega) hS (fun hs w l hl3 hl1 hS => ?_) (fun g hs w v' hS => ?_))
    · rw [har] at hs
      have e := hR.none hs
      subst e
      (repeat (first | refine g_sq ?_ | refine g_rg ?_ | refine g_r0 ?_ | refine g_ok rfl rfl ?_ | refine g_no rfl ?_ | refine g_no0 rfl ?_ | refine g_bk ?_ | refine g_b ?_ | refine g_sk ?_ | refine g_cT rfl ?_ | refine g_cF rfl ?_ | refine g_x rfl ?_ | refine g_lb ?_))
      refine g_ef rfl (ef_al hS fun b12 w hS => ?_)
      refine g_ef0 rfl (ef_st hS 7 rfl rfl rfl hl3 (by simp [hl3]; decide) hl1 fun w hS => ?_)
      (repeat (first | refine g_sq ?_ | refine g_rg ?_ | refine g_r0 ?_ | refine g_ok rfl rfl ?_ | refine g_no rfl ?_ | refine g_no0 rfl ?_ | refine g_bk ?_ | refine g_b ?_ | refine g_sk ?_ | refine g_cT rfl ?_ | refine g_cF rfl ?_ | refine g_x rfl ?_ | refine g_lb ?_))
      exact g_jx () ⟨rfl, rfl, rfl, rfl, trivial⟩ ⟨S, hS.sel [0, 1, 2, 3, 4, 5, 6] rfl rfl⟩
    · rw [har] at hs
      have hk := stand_ok _ _ _ _ (Nat.zero_le _) (fun b hb => ham b (List.mem_of_mem_drop hb)) hs
      rw [List.length_drop] at hk
      have hmaxN : maxN = 4611686018427387904 := rfl
      obtain ⟨av, cv, rfl⟩ := hS.rlen 4 rfl
      (repeat (first | refine g_sq ?_ | refine g_rg ?_ | refine g_r0 ?_ | refine g_ok rfl rfl ?_ | refine g_no rfl ?_ | refine g_no0 rfl ?_ | refine g_bk ?_ | refine g_b ?_ | refine g_sk ?_ | refine g_cT rfl ?_ | refine g_cF rfl ?_ | refine g_x rfl ?_ | refine g_lb ?_))
      refine g_ef rfl (ef_al hS fun b12 w hS => ?_)
      refine g_ef0 rfl (ef_st hS 8 rfl rfl rfl rfl (Nat.le_of_ble_eq_true rfl) rfl fun w hS => ?_)
      have hS := hS.ceq (l' := gv1 (g, .slice av g.b.length cv)) 8 rfl rfl
      (repeat (first | refine g_sq ?_ | refine g_rg ?_ | refine g_r0 ?_ | refine g_ok rfl rfl ?_ | refine g_no rfl ?_ | refine g_no0 rfl ?_ | refine g_bk ?_ | refine g_b ?_ | refine g_sk ?_ | refine g_cT rfl ?_ | refine g_cF rfl ?_ | refine g_x rfl ?_ | refine g_lb ?_))
      refine g_l1 rfl rfl (hS.b 8 rfl) rfl ?_
      (repeat (first | refine g_sq ?_ | refine g_rg ?_ | refine g_r0 ?_ | refine g_ok rfl rfl ?_ | refine g_no rfl ?_ | refine g_no0 rfl ?_ | refine g_bk ?_ | refine g_b ?_ | refine g_sk ?_ | refine g_cT rfl ?_ | refine g_cF rfl ?_ | refine g_x rfl ?_ | refine g_lb ?_))
      refine g_cd rfl (fun hz => ?_) (fun hz => ?_)
      all_goals simp only [cmv, decide_eq_true_eq, decide_eq_false_iff_not] at hz
      · have e := hR.low hs (by omega)
        subst e
        (repeat (first | refine g_sq ?_ | refine g_rg ?_ | refine g_r0 ?_ | refine g_ok rfl rfl ?_ | refine g_no rfl ?_ | refine g_no0 rfl ?_ | refine g_bk ?_ | refine g_b ?_ | refine g_sk ?_ | refine g_cT rfl ?_ | refine g_cF rfl ?_ | refine g_x rfl ?_ | refine g_lb ?_))
        exact g_jx () ⟨rfl, rfl, rfl, rfl, trivial⟩ ⟨S, hS.sel [0, 1, 2, 3, 5, 6, 7] rfl rfl⟩
      have hR' := hR.step ham hs (by omega)
      (repeat (first | refine g_sq ?_ | refine g_rg ?_ | refine g_r0 ?_ | refine g_ok rfl rfl ?_ | refine g_no rfl ?_ | refine g_no0 rfl ?_ | refine g_bk ?_ | refine g_b ?_ | refine g_sk ?_ | refine g_cT rfl ?_ | refine g_cF rfl ?_ | refine g_x rfl ?_ | refine g_lb ?_))
      refine g_dr mixed ?_
      have hS := hS.drew
      obtain ⟨vl, Z, k1, k2, k3, k4, hS⟩ := RjoR.opn hS
      have hZl : Z.length = acc.length := by have := congrArg List.length k4; simpa using this
      have hlen : Z.length ≤ 4096 := by have := usedOf_len acc; omega
      obtain ⟨al, cl, rfl⟩ := hS.rlen 1 rfl
      (repeat (first | refine d_ok rfl rfl rfl ?_ | refine d_no rfl rfl ?_))
      refine d_l1 rfl rfl rfl (hS.b 0 rfl) rfl ?_
      refine d_lm rfl rfl rfl (hS.b 10 rfl) (Nat.le_of_ble_eq_true rfl) ?_
      refine d_e rfl rfl ?_
      refine ef_bl (rs := gv1 (g, .slice av g.b.length cv)) hS rfl fun g7 w' hS => ⟨rc_1 rfl rfl rfl rfl (hS.b 0 rfl) rfl rc_0, ?_⟩
      refine d_e rfl rfl ?_
      refine ef_ap (n := Z.length) (m := 1) (ys := gv1 (g, .slice av g.b.length cv)) hS 1 rfl rfl rfl (.inl ⟨171, .inr ⟨g7, 0, 1, _, rfl, Nat.le_refl _, Nat.le_refl _, rfl, (hS.b 11 rfl).r⟩⟩) rfl (by omega) (by omega) fun vl1 w' hS => ⟨rc_0, ?_⟩
      obtain ⟨av1, cv1, rfl⟩ := hS.rlen 1 rfl
      (repeat (first | refine d_ok rfl rfl rfl ?_ | refine d_no rfl rfl ?_))
      refine d_e0 rfl rfl ?_
      refine ef_st hS 0 rfl rfl rfl rfl (Nat.le_of_ble_eq_true rfl) rfl fun w' hS => ⟨rc_0, ?_⟩
      have hS := hS.pool_add (M := Z.map fun z => (z.2, z.1.b)) (v := .slice av g.b.length cv) (bs := g.b) 2 6 rfl rfl (by decide)
      have hS : St w0 S0 w' [cel jb (JouC (dp b2) f k (.slice av1 (Z.length + 1) cv1) ⟨acc ++ [g], 1, false⟩) 141, row (.slice av1 (Z.length + 1) cv1) 171 3 (Z.length + 1) (gz Z ++ gv1 (g, .slice av g.b.length cv)), pool ((Z.map fun z => (z.2, z.1.b)) ++ [(.slice av g.b.length cv, g.b)]), cel b2 (RefC vC2 vL2 D) 57, row vC2 35 1 X.length (X.map (·.1)), pool (A ++ W.map (·.2)), cel d (RefC (.slice aC A.length cC) (.slice aL W.length cL) D) 57, row (.slice aC A.length cC) 35 1 A.length (A.map (·.1)), row (.slice aL W.length cL) 147 2 W.length (lw W), cel b12 (gv1 (g, .slice av g.b.length cv)) 171] := hS.sel [0, 1, 2, 3, 4, 5, 7, 8, 9, 10] rfl rfl
      have e2 : (Z ++ [(g, Value.slice av g.b.length cv)]).length = Z.length + 1 := by simp
      have e3 : gp (Z ++ [(g, Value.slice av g.b.length cv)]) = pool ((Z.map fun z => (z.2, z.1.b)) ++ [(.slice av g.b.length cv, g.b)]) := by simp [gp]
      have e4 : usedOf (acc ++ [g]) = usedOf acc + g.many := by rw [usedOf_app]; simp [usedOf]
      have hm1 : 1 ≤ g.many := blk_pos _
      rw [← gz_app, ← e3, ← e2] at hS
      obtain ⟨S', hS⟩ := RjoR.cls (J := ⟨acc ++ [g], 1, false⟩) ⟨by show usedOf (acc ++ [g]) ≤ k; omega, by show 1 ≤ 4611686018427387905; decide, fun g' hg => by
          rcases List.mem_append.1 hg with hg | hg
          · exact k1.2.2 g' hg
          · simp at hg; subst hg; exact ⟨by omega, by omega⟩⟩ k2 k3 (by rw [List.map_append, k4]; rfl) hS
      refine d_fin ?_
      (repeat (first | refine g_sq ?_ | refine g_rg ?_ | refine g_r0 ?_ | refine g_ok rfl rfl ?_ | refine g_no rfl ?_ | refine g_no0 rfl ?_ | refine g_bk ?_ | refine g_b ?_ | refine g_sk ?_ | refine g_cT rfl ?_ | refine g_cF rfl ?_ | refine g_x rfl ?_ | refine g_lb ?_))
      refine g_l1 rfl rfl (hS.b 7 rfl) rfl ?_
      (repeat (first | refine g_sq ?_ | refine g_rg ?_ | refine g_r0 ?_ | refine g_ok rfl rfl ?_ | refine g_no rfl ?_ | refine g_no0 rfl ?_ | refine g_bk ?_ | refine g_b ?_ | refine g_sk ?_ | refine g_cT rfl ?_ | refine g_cF rfl ?_ | refine g_x rfl ?_ | refine g_lb ?_))
      refine g_l1 rfl rfl (hS.b 7 rfl) rfl ?_
      refine g_rq rfl rfl (in64 (by simp only [arv]; omega)) ?_
      rw [show arv BinOp.add (usedOf acc : Int) (g.many : Int) = ((usedOf (acc ++ [g]) : Nat) : Int) by simp only [arv]; omega]
      (repeat (first | refine g_sq ?_ | refine g_rg ?_ | refine g_r0 ?_ | refine g_ok rfl rfl ?_ | refine g_no rfl ?_ | refine g_no0 rfl ?_ | refine g_bk ?_ | refine g_b ?_ | refine g_sk ?_ | refine g_cT rfl ?_ | refine g_cF rfl ?_ | refine g_x rfl ?_ | refine g_lb ?_))
      exact g_l (acc ++ [g]) ⟨rfl, rfl, rfl, rfl, rfl, by rw [lastOf_app]; rfl, trivial⟩ ⟨hR', S', hS.sel [0, 1, 2, 3, 4, 5, 6] rfl rfl⟩ (by omega)
  clear hS
  rintro ⟨⟩ T w hT ⟨S, hS⟩
  refine g_wkc hT ?_
  obtain ⟨hwJ, _, _, _, _⟩ := RjoR.blk hS
  have hgl := great_le (area D f k)
  have hmaxN : maxN = 4611686018427387904 := rfl
  -- the greatest number
  (repeat (first | refine g_sq ?_ | refine g_rg ?_ | refine g_r0 ?_ | refine g_ok rfl rfl ?_ | refine g_no rfl ?_ | refine g_no0 rfl ?_ | refine g_bk ?_ | refine g_b ?_ | refine g_sk ?_ | refine g_cT rfl ?_ | refine g_cF rfl ?_ | refine g_x rfl ?_ | refine g_lb ?_))
  refine g_lp (ι := Nat) (fun i => [(0, dp d), (1, .int .i64 f), (2, .int .i64 k), (8, dp jb), (14, .int .i64 i)])
    (fun i w => i ≤ k ∧ ∃ S, St w0 S0 w [RjoR S jb b2 f k ⟨opened (area D f k), great ((area D f k).take i) + 1, false⟩, cel b2 (RefC vC2 vL2 D) 57, row vC2 35 1 X.length (X.map (·.1)), pool (A ++ W.map (·.2)), cel d (RefC (.slice aC A.length cC) (.slice aL W.length cL) D) 57, row (.slice aC A.length cC) 35 1 A.length (A.map (·.1)), row (.slice aL W.length cL) 147 2 W.length (lw W)]) (fun i => k - i) 0
    ⟨rfl, rfl, rfl, rfl, rfl, trivial⟩ ⟨Nat.zero_le _, S, hS⟩ ?_
  clear hS
  rintro i w ⟨hi, S, hS⟩
  (repeat (first | refine g_sq ?_ | refine g_rg ?_ | refine g_r0 ?_ | refine g_ok rfl rfl ?_ | refine g_no rfl ?_ | refine g_no0 rfl ?_ | refine g_bk ?_ | refine g_b ?_ | refine g_sk ?_ | refine g_cT rfl ?_ | refine g_cF rfl ?_ | refine g_x rfl ?_ | refine g_lb ?_))
  refine g_cd rfl (fun hc => ?_) (fun hc => ?_)
  all_goals simp only [cmv, decide_eq_true_eq, decide_eq_false_iff_not] at hc
  · have hlt : i < k := by omega
    have hlA : f + i < X.length := by omega
    have hp : X[f + i]? = some X[f + i] := List.getElem?_eq_getElem hlA
    have hpm : X[f + i] ∈ X := List.getElem_mem hlA
    generalize X[f + i] = p at hp hpm
    have hag : (area D f k)[i]? = some p.2 := by rw [← har, arr_get hlt, List.getElem?_map, hp]; rfl
    have hgt := great_take hag
    have hgi := great_le ((area D f k).take (i + 1))
    have hr := hS.ok 3 _ rfl p (hXm p hpm)
    have hlen := hX128 p hpm
    rw [hlen] at hr
    obtain ⟨b8, o8, c8, l8, hv8, hcap, hll, hxx, hBp⟩ := Rd.block hr (by decide)
    obtain ⟨bC, capC, restC, hvC, hcC, hBC, hlC⟩ := row_blk hS 2 rfl (by omega)
    cases hvC
    have hcell := cA_get restC hp
    rw [hv8] at hcell hr
    obtain ⟨_, _, _, vl, hB⟩ := RjoR.blk hS
    (repeat (first | refine g_sq ?_ | refine g_rg ?_ | refine g_r0 ?_ | refine g_ok rfl rfl ?_ | refine g_no rfl ?_ | refine g_no0 rfl ?_ | refine g_bk ?_ | refine g_b ?_ | refine g_sk ?_ | refine g_cT rfl ?_ | refine g_cF rfl ?_ | refine g_x rfl ?_ | refine g_lb ?_))
    refine g_l1 rfl rfl hB rfl ?_
    (repeat (first | refine g_sq ?_ | refine g_rg ?_ | refine g_r0 ?_ | refine g_ok rfl rfl ?_ | refine g_no rfl ?_ | refine g_no0 rfl ?_ | refine g_bk ?_ | refine g_b ?_ | refine g_sk ?_ | refine g_cT rfl ?_ | refine g_cF rfl ?_ | refine g_x rfl ?_ | refine g_lb ?_))
    refine g_l1 rfl rfl (hS.b  1 rfl) rfl ?_
    (repeat (first | refine g_sq ?_ | refine g_rg ?_ | refine g_r0 ?_ | refine g_ok rfl rfl ?_ | refine g_no rfl ?_ | refine g_no0 rfl ?_ | refine g_bk ?_ | refine g_b ?_ | refine g_sk ?_ | refine g_cT rfl ?_ | refine g_cF rfl ?_ | refine g_x rfl ?_ | refine g_lb ?_))
    refine g_rq rfl rfl (in64 (by simp only [arv]; omega)) ?_
    rw [show arv BinOp.add (f : Int) (i : Int) = ((f + i : Nat) : Int) by simp only [arv]; omega]
    refine g_rq rfl rfl ⟨by omega, by omega⟩ ?_
    refine g_l1 rfl rfl hBC (by rw [Nat.zero_add, Int.toNat_natCast]; exact hcell) ?_
    refine g_cl rfl rfl (c118 hlen hr hS fun w hS => ?_)
    obtain ⟨_, _, _, vl, hB⟩ := RjoR.blk hS
    (repeat (first | refine g_sq ?_ | refine g_rg ?_ | refine g_r0 ?_ | refine g_ok rfl rfl ?_ | refine g_no rfl ?_ | refine g_no0 rfl ?_ | refine g_bk ?_ | refine g_b ?_ | refine g_sk ?_ | refine g_cT rfl ?_ | refine g_cF rfl ?_ | refine g_x rfl ?_ | refine g_lb ?_))
    refine g_l1 rfl rfl hB rfl ?_
    (repeat (first | refine g_sq ?_ | refine g_rg ?_ | refine g_r0 ?_ | refine g_ok rfl rfl ?_ | refine g_no rfl ?_ | refine g_no0 rfl ?_ | refine g_bk ?_ | refine g_b ?_ | refine g_sk ?_ | refine g_cT rfl ?_ | refine g_cF rfl ?_ | refine g_x rfl ?_ | refine g_lb ?_))
    refine g_cd rfl (fun hz => ?_) (fun hz => ?_)
    all_goals simp only [cmv, decide_eq_true_eq, decide_eq_false_iff_not] at hz
    · obtain ⟨vl, Z, k1, k2, k3, k4, hS⟩ := RjoR.opn hS
      (repeat (first | refine g_sq ?_ | refine g_rg ?_ | refine g_r0 ?_ | refine g_ok rfl rfl ?_ | refine g_no rfl ?_ | refine g_no0 rfl ?_ | refine g_bk ?_ | refine g_b ?_ | refine g_sk ?_ | refine g_cT rfl ?_ | refine g_cF rfl ?_ | refine g_x rfl ?_ | refine g_lb ?_))
      refine g_rq rfl rfl (in64 (by simp only [arv]; omega)) ?_
      (repeat (first | refine g_sq ?_ | refine g_rg ?_ | refine g_r0 ?_ | refine g_ok rfl rfl ?_ | refine g_no rfl ?_ | refine g_no0 rfl ?_ | refine g_bk ?_ | refine g_b ?_ | refine g_sk ?_ | refine g_cT rfl ?_ | refine g_cF rfl ?_ | refine g_x rfl ?_ | refine g_lb ?_))
      refine g_ef0 rfl (ef_st hS 0 rfl rfl rfl rfl (Nat.le_of_ble_eq_true rfl) rfl fun w hS => ?_)
      have hS := hS.ceq (l' := JouC (dp b2) f k vl ⟨opened (area D f k), great ((area D f k).take (i + 1)) + 1, false⟩) 0 rfl (by
        have : arv BinOp.add (numd p.2 : Int) 1 = ((great ((area D f k).take (i + 1)) + 1 : Nat) : Int) := by simp only [arv]; omega
        show [dp b2, Value.int .i64 f, .int .i64 k, vl, .int .i64 (arv BinOp.add (numd p.2 : Int) 1), .bool false] = _
        rw [this]; rfl)
      have hS : St w0 S0 w (cel jb (JouC (dp b2) f k vl ⟨opened (area D f k), great ((area D f k).take (i + 1)) + 1, false⟩) 141 :: row vl 171 3 Z.length (gz Z) :: gp Z :: _) := hS
      obtain ⟨S', hS⟩ := RjoR.cls (J := ⟨opened (area D f k), great ((area D f k).take (i + 1)) + 1, false⟩) ⟨k1.1, by show great _ + 1 ≤ _; omega, k1.2.2⟩ k2 k3 k4 hS
      (repeat (first | refine g_sq ?_ | refine g_rg ?_ | refine g_r0 ?_ | refine g_ok rfl rfl ?_ | refine g_no rfl ?_ | refine g_no0 rfl ?_ | refine g_bk ?_ | refine g_b ?_ | refine g_sk ?_ | refine g_cT rfl ?_ | refine g_cF rfl ?_ | refine g_x rfl ?_ | refine g_lb ?_))
      refine g_rq rfl rfl (in64 (by simp only [arv]; omega)) ?_
      (repeat (first | refine g_sq ?_ | refine g_rg ?_ | refine g_r0 ?_ | refine g_ok rfl rfl ?_ | refine g_no rfl ?_ | refine g_no0 rfl ?_ | refine g_bk ?_ | refine g_b ?_ | refine g_sk ?_ | refine g_cT rfl ?_ | refine g_cF rfl ?_ | refine g_x rfl ?_ | refine g_lb ?_))
      exact g_l (i + 1) ⟨rfl, rfl, rfl, rfl, rfl, trivial⟩ ⟨by omega, S', hS⟩ (by omega)
    · have e : great ((area D f k).take i) = great ((area D f k).take (i + 1)) := by omega
      rw [e] at hS
      (repeat (first | refine g_sq ?_ | refine g_rg ?_ | refine g_r0 ?_ | refine g_ok rfl rfl ?_ | refine g_no rfl ?_ | refine g_no0 rfl ?_ | refine g_bk ?_ | refine g_b ?_ | refine g_sk ?_ | refine g_cT rfl ?_ | refine g_cF rfl ?_ | refine g_x rfl ?_ | refine g_lb ?_))
      refine g_rq rfl rfl (in64 (by simp only [arv]; omega)) ?_
      (repeat (first | refine g_sq ?_ | refine g_rg ?_ | refine g_r0 ?_ | refine g_ok rfl rfl ?_ | refine g_no rfl ?_ | refine g_no0 rfl ?_ | refine g_bk ?_ | refine g_b ?_ | refine g_sk ?_ | refine g_cT rfl ?_ | refine g_cF rfl ?_ | refine g_x rfl ?_ | refine g_lb ?_))
      exact g_l (i + 1) ⟨rfl, rfl, rfl, rfl, rfl, trivial⟩ ⟨by omega, S, hS⟩ (by omega)
  have e : (area D f k).take i = area D f k := List.take_of_length_le (by omega)
  rw [e] at hS
  obtain ⟨vl, Z, k1, k2, k3, k4, hS⟩ := RjoR.opn hS
  (repeat (first | refine g_sq ?_ | refine g_rg ?_ | refine g_r0 ?_ | refine g_ok rfl rfl ?_ | refine g_no rfl ?_ | refine g_no0 rfl ?_ | refine g_bk ?_ | refine g_b ?_ | refine g_sk ?_ | refine g_cT rfl ?_ | refine g_cF rfl ?_ | refine g_x rfl ?_ | refine g_lb ?_))
  refine g_ef0 rfl (ef_st hS 0 rfl rfl rfl rfl (Nat.le_of_ble_eq_true rfl) rfl fun w hS => ?_)
  have hS : St w0 S0 w (cel jb (JouC (dp d) f k vl (openJ D f k)) 141 :: row vl 171 3 Z.length (gz Z) :: gp Z :: _) := hS
  obtain ⟨S', hS⟩ := RjoR.cls (J := openJ D f k) k1 k2 k3 k4 hS
  have hS := hS.sel [4, 5, 6, 3, 0] rfl rfl
  obtain ⟨S2, hS⟩ := RefR.cls (x := ⟨.slice aC A.length cC, .slice aL W.length cL, A, W⟩) (D := D) (b := d) hx hS
  (repeat (first | refine g_sq ?_ | refine g_rg ?_ | refine g_r0 ?_ | refine g_ok rfl rfl ?_ | refine g_no rfl ?_ | refine g_no0 rfl ?_ | refine g_bk ?_ | refine g_b ?_ | refine g_sk ?_ | refine g_cT rfl ?_ | refine g_cF rfl ?_ | refine g_x rfl ?_ | refine g_lb ?_))
  exact g_ret (q_2 rfl rfl (h3 _ _ _ _ (hS.sel [1, 0] rfl rfl)))
theorem c94 {fr bk : Int} (hl : D.cells.length ≤ 4096) (hS : St w0 S0 w (RefR S1 d D :: B)) (h1 : badA D fr bk → K (.tuple ⟨[.pointer none, .int .i64 151]⟩) w) (h2 : ¬ badA D fr bk → D.down = true → K (.tuple ⟨[.pointer none, .int .i64 141]⟩) w)
    (h3 : ¬ badA D fr bk → D.down = false → ∀ w' S S1 jb, St w0 S0 w' (RjoR S jb d fr.toNat bk.toNat (openJ D fr.toNat bk.toNat) :: RefR S1 d D :: B) → K (.tuple ⟨[dp jb, .int .i64 0]⟩) w') : CK Try.prog 94 [dp d, .int .i64 fr, .int .i64 bk] w K :=
  b94 hl (St.frame (A := [RefR S1 d D]) (B := B) hS).1 h1 h2 fun hb hd w' S S1 jb h' => h3 hb hd w' S S1 jb ((St.frame (A := [RefR _ d D]) (B := B) hS).2 w' _ h')
end
end Go.Proofs.Ytegjocpjmfaigaa
