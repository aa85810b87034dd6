/- The document's journal: a group is written, and appended. -/
import Derived.Test.YtegjocpjmfaigaaOe
set_option linter.unusedSimpArgs false
set_option linter.unusedVariables false
namespace Go.Proofs.Ytegjocpjmfaigaa
open Go.En

section
variable {w w0 : World} {S0 S S1 : Nat → Prop} {K : Value → World → Prop} {jb d fr bk : Nat} {J : Jou} {D : Dev} {B L : List Res} {vl v : Value} {Z : GZ}
set_option maxRecDepth 100000 in
theorem c119 {g : Grp} {vb : Value} {many : Int} (hl : g.b.length ≤ 1000000) (hn : g.n ≤ 4611686018427387904) (hwt : D.waits.length ≤ 1000000) (hS : St w0 S0 w [RjoR S jb d fr bk J, RefR S1 d D, row vb 5 1 g.b.length (bys g.b)])
    (h : ∀ w' S' S1', St w0 S0 w' [RjoR S' jb d fr bk J, RefR S1' d (jwrite D (fr + J.used) g).1, row vb 5 1 g.b.length (bys g.b)] → K (.int .i64 (jwrite D (fr + J.used) g).2) w') : CK Try.prog 119 [dp jb, .agg ⟨[.int .i64 g.n, vb, .int .i64 many]⟩] w K := by
  obtain ⟨ab, cb, rfl⟩ := hS.rlen 2 rfl
  obtain ⟨hw, hb4, hf4, _, _⟩ := RjoR.blk hS
  have hmx : maxN = 4611686018427387904 := rfl
  have hu := hw.1
  refine call_k Try.func119 k119 Try.ntmps119 (Nat.le_of_ble_eq_true rfl) ?_
  (repeat (first | refine g_sq ?_ | refine g_rg ?_ | refine g_r0 ?_ | refine g_ok rfl rfl ?_ | refine g_no rfl ?_ | refine g_no0 rfl ?_ | refine g_bk ?_ | refine g_b ?_ | refine g_sk ?_ | refine g_cT rfl ?_ | refine g_cF rfl ?_ | refine g_x rfl ?_ | refine g_lb ?_))
  refine g_ef rfl (ef_bx hS rfl fun b3 w hS => ?_)
  have hS : St w0 S0 w [RjoR S jb d fr bk J, RefR S1 d D, row (.slice ab g.b.length cb) 5 1 g.b.length (bys g.b), cel b3 [.int .i64 g.n, .slice ab g.b.length cb, .int .i64 many] 171] := hS
  (repeat (first | refine g_sq ?_ | refine g_rg ?_ | refine g_r0 ?_ | refine g_ok rfl rfl ?_ | refine g_no rfl ?_ | refine g_no0 rfl ?_ | refine g_bk ?_ | refine g_b ?_ | refine g_sk ?_ | refine g_cT rfl ?_ | refine g_cF rfl ?_ | refine g_x rfl ?_ | refine g_lb ?_))
  refine g_dr mixed ?_
  have hS := hS.drew
  obtain ⟨_, _, _, vl, hB⟩ := RjoR.blk hS
  (repeat (first | refine d_ok rfl rfl rfl ?_ | refine d_no rfl rfl ?_))
  refine d_l1 rfl rfl rfl hB rfl ?_
  (repeat (first | refine d_ok rfl rfl rfl ?_ | refine d_no rfl rfl ?_))
  refine d_cl rfl rfl rfl (c99 hS ⟨rc_1 rfl rfl rfl rfl hB rfl rc_0, ?_⟩)
  refine d_rq rfl rfl rfl (in64 (by simp only [arv]; omega)) ?_
  rw [show arv BinOp.add (fr : Int) (J.used : Int) = ((fr + J.used : Nat) : Int) by simp only [arv]; omega]
  (repeat (first | refine d_ok rfl rfl rfl ?_ | refine d_no rfl rfl ?_))
  refine d_fin ?_
  (repeat (first | refine g_sq ?_ | refine g_rg ?_ | refine g_r0 ?_ | refine g_ok rfl rfl ?_ | refine g_no rfl ?_ | refine g_no0 rfl ?_ | refine g_bk ?_ | refine g_b ?_ | refine g_sk ?_ | refine g_cT rfl ?_ | refine g_cF rfl ?_ | refine g_x rfl ?_ | refine g_lb ?_))
  refine g_lp (ι := Nat × Dev) (fun x => [(0, dp jb), (3, dp b3), (5, .int .i64 ((fr + J.used + x.1 : Nat) : Int)), (6, .int .i64 ((119 * x.1 : Nat) : Int))])
    (fun x w => ∃ S1, jdata x.2 (fr + J.used + x.1) (g.b.drop (119 * x.1)) = jdata D (fr + J.used) g.b ∧ x.2.waits.length ≤ 1000000 + x.1 ∧ 119 * x.1 ≤ g.b.length + 118 ∧
      St w0 S0 w [RjoR S jb d fr bk J, RefR S1 d x.2, row (.slice ab g.b.length cb) 5 1 g.b.length (bys g.b), cel b3 [.int .i64 g.n, .slice ab g.b.length cb, .int .i64 many] 171]) (fun x => g.b.length + 119 - 119 * x.1) (0, D) ⟨rfl, rfl, rfl, rfl, trivial⟩
    ⟨S1, rfl, by simp only; omega, by simp only; omega, hS⟩ ?_
  clear hS hB hwt
  rintro ⟨i, D1⟩ w ⟨S1, hjd, hwt, hil, hS⟩
  simp only at hjd hwt hil hS
  (repeat (first | refine g_sq ?_ | refine g_rg ?_ | refine g_r0 ?_ | refine g_ok rfl rfl ?_ | refine g_no rfl ?_ | refine g_no0 rfl ?_ | refine g_bk ?_ | refine g_b ?_ | refine g_sk ?_ | refine g_cT rfl ?_ | refine g_cF rfl ?_ | refine g_x rfl ?_ | refine g_lb ?_))
  refine g_l1 rfl rfl (hS.b  3 rfl) rfl ?_
  (repeat (first | refine g_sq ?_ | refine g_rg ?_ | refine g_r0 ?_ | refine g_ok rfl rfl ?_ | refine g_no rfl ?_ | refine g_no0 rfl ?_ | refine g_bk ?_ | refine g_b ?_ | refine g_sk ?_ | refine g_cT rfl ?_ | refine g_cF rfl ?_ | refine g_x rfl ?_ | refine g_lb ?_))
  refine g_cd rfl (fun hc => ?_) (fun hc => ?_)
  all_goals simp only [cmv, decide_eq_true_eq, decide_eq_false_iff_not] at hc
  · -- a data block
    have hlt : 119 * i < g.b.length := by omega
    have hne : g.b.drop (119 * i) ≠ [] := by
      intro h; have := congrArg List.length h; rw [List.length_drop] at this; simp at this; omega
    have hmin : min (((119 * i : Nat) : Int) + 119) (g.b.length : Int) = ((min (119 * i + 119) g.b.length : Nat) : Int) := by omega
    have htl : ((g.b.drop (119 * i)).take 119).length = min (119 * i + 119) g.b.length - 119 * i := by rw [List.length_take, List.length_drop]; omega
    rw [jdata, dif_neg hne] at hjd
    (repeat (first | refine g_sq ?_ | refine g_rg ?_ | refine g_r0 ?_ | refine g_ok rfl rfl ?_ | refine g_no rfl ?_ | refine g_no0 rfl ?_ | refine g_bk ?_ | refine g_b ?_ | refine g_sk ?_ | refine g_cT rfl ?_ | refine g_cF rfl ?_ | refine g_x rfl ?_ | refine g_lb ?_))
    refine g_ef rfl (ef_bl (rs := [.int .u8 1]) hS rfl fun gd w hS => ?_)
    have hS := hS.close_row (sz := 1) (n := 1) (cap := 1) (xs := [.int .u8 1]) 4 rfl (Nat.le_refl _) rfl (List.prefix_refl _) rfl
    have hr := Ow.rd (hS.ok 2 _ rfl)
    obtain ⟨b1, o1, c1, l1, hv1, hle1, _⟩ := Rd.block hr (by omega)
    cases hv1
    have hm := Rd.mid (x := .tmp 28) (i := 119 * i) (j := min (119 * i + 119) g.b.length) hr (by omega) (by omega)
    rw [bys_drop, bys_take] at hm
    have hbs : List.take (min (119 * i + 119) g.b.length - 119 * i) (g.b.drop (119 * i)) = (g.b.drop (119 * i)).take 119 := by
      rcases Nat.le_total (119 * i + 119) g.b.length with h | h
      · rw [Nat.min_eq_left h, Nat.add_sub_cancel_left]
      · rw [Nat.min_eq_right h, List.take_of_length_le (by rw [List.length_drop]; omega), List.take_of_length_le (by rw [List.length_drop]; omega)]
    rw [hbs] at hm
    (repeat (first | refine g_sq ?_ | refine g_rg ?_ | refine g_r0 ?_ | refine g_ok rfl rfl ?_ | refine g_no rfl ?_ | refine g_no0 rfl ?_ | refine g_bk ?_ | refine g_b ?_ | refine g_sk ?_ | refine g_cT rfl ?_ | refine g_cF rfl ?_ | refine g_x rfl ?_ | refine g_lb ?_))
    refine g_l1 rfl rfl (hS.b  3 rfl) rfl ?_
    (repeat (first | refine g_sq ?_ | refine g_rg ?_ | refine g_r0 ?_ | refine g_ok rfl rfl ?_ | refine g_no rfl ?_ | refine g_no0 rfl ?_ | refine g_bk ?_ | refine g_b ?_ | refine g_sk ?_ | refine g_cT rfl ?_ | refine g_cF rfl ?_ | refine g_x rfl ?_ | refine g_lb ?_))
    refine g_rq rfl rfl (in64 (by simp only [arv]; omega)) ?_
    (repeat (first | refine g_sq ?_ | refine g_rg ?_ | refine g_r0 ?_ | refine g_ok rfl rfl ?_ | refine g_no rfl ?_ | refine g_no0 rfl ?_ | refine g_bk ?_ | refine g_b ?_ | refine g_sk ?_ | refine g_cT rfl ?_ | refine g_cF rfl ?_ | refine g_x rfl ?_ | refine g_lb ?_))
    refine g_l1 rfl rfl (hS.b  3 rfl) rfl ?_
    (repeat (first | refine g_sq ?_ | refine g_rg ?_ | refine g_r0 ?_ | refine g_ok rfl rfl ?_ | refine g_no rfl ?_ | refine g_no0 rfl ?_ | refine g_bk ?_ | refine g_b ?_ | refine g_sk ?_ | refine g_cT rfl ?_ | refine g_cF rfl ?_ | refine g_x rfl ?_ | refine g_lb ?_))
    simp only [arv]
    rw [hmin]
    refine g_rq rfl rfl ⟨by omega, by omega, by omega, by omega⟩ ?_
    refine g_ef rfl (ef_ap (n := 1) (m := min (119 * i + 119) g.b.length - 119 * i) (xs := [.int .u8 1]) (ys := bys ((g.b.drop (119 * i)).take 119)) hS 4 rfl rfl rfl (.inl ⟨5, hm⟩) (bys_one _) (by omega) (by omega) fun v' w hS => ?_)
    have hbs2 : [Value.int .u8 1] ++ bys ((g.b.drop (119 * i)).take 119) = bys (1 :: (g.b.drop (119 * i)).take 119) := rfl
    rw [hbs2] at hS
    obtain ⟨_, _, _, vl, hB⟩ := RjoR.blk hS
    (repeat (first | refine g_sq ?_ | refine g_rg ?_ | refine g_r0 ?_ | refine g_ok rfl rfl ?_ | refine g_no rfl ?_ | refine g_no0 rfl ?_ | refine g_bk ?_ | refine g_b ?_ | refine g_sk ?_ | refine g_cT rfl ?_ | refine g_cF rfl ?_ | refine g_x rfl ?_ | refine g_lb ?_))
    refine g_l1 rfl rfl hB rfl ?_
    (repeat (first | refine g_sq ?_ | refine g_rg ?_ | refine g_r0 ?_ | refine g_ok rfl rfl ?_ | refine g_no rfl ?_ | refine g_no0 rfl ?_ | refine g_bk ?_ | refine g_b ?_ | refine g_sk ?_ | refine g_cT rfl ?_ | refine g_cF rfl ?_ | refine g_x rfl ?_ | refine g_lb ?_))
    have hS := hS.sel [1, 0, 2, 3, 4] rfl rfl
    refine g_cl rfl rfl (rc71 (bs := 1 :: (g.b.drop (119 * i)).take 119) hS (Ow.rd (hS.ok 4 _ rfl)) (fun x hx hs => hS.dis 0 4 _ _ rfl rfl (by decide) x hs (vb_vo hx)) (by omega) fun w S2 hS => ?_)
    have hS := hS.sel [1, 0, 2, 3] rfl rfl
    have hfit := (write_fit D1 ((fr + J.used + i : Nat) : Int) (1 :: (g.b.drop (119 * i)).take 119)).2
    (repeat (first | refine g_sq ?_ | refine g_rg ?_ | refine g_r0 ?_ | refine g_ok rfl rfl ?_ | refine g_no rfl ?_ | refine g_no0 rfl ?_ | refine g_bk ?_ | refine g_b ?_ | refine g_sk ?_ | refine g_cT rfl ?_ | refine g_cF rfl ?_ | refine g_x rfl ?_ | refine g_lb ?_))
    refine g_cd rfl (fun hz => ?_) (fun hz => ?_)
    all_goals simp only [cmv, Bool.not_eq_true', Bool.not_eq_false', decide_eq_true_eq, decide_eq_false_iff_not] at hz
    · rw [if_pos hz] at hjd
      have e : jwrite D (fr + J.used) g = ((D1.write ((fr + J.used + i : Nat) : Int) (1 :: (g.b.drop (119 * i)).take 119)).1, (D1.write ((fr + J.used + i : Nat) : Int) (1 :: (g.b.drop (119 * i)).take 119)).2) := by
        unfold jwrite
        simp only [← hjd]
        rw [if_pos hz]
      rw [e] at h
      (repeat (first | refine g_sq ?_ | refine g_rg ?_ | refine g_r0 ?_ | refine g_ok rfl rfl ?_ | refine g_no rfl ?_ | refine g_no0 rfl ?_ | refine g_bk ?_ | refine g_b ?_ | refine g_sk ?_ | refine g_cT rfl ?_ | refine g_cF rfl ?_ | refine g_x rfl ?_ | refine g_lb ?_))
      exact g_ret (q_1 rfl (h _ _ _ (hS.sel [0, 1, 2] rfl rfl)))
    · rw [if_neg (by simpa using hz)] at hjd
      (repeat (first | refine g_sq ?_ | refine g_rg ?_ | refine g_r0 ?_ | refine g_ok rfl rfl ?_ | refine g_no rfl ?_ | refine g_no0 rfl ?_ | refine g_bk ?_ | refine g_b ?_ | refine g_sk ?_ | refine g_cT rfl ?_ | refine g_cF rfl ?_ | refine g_x rfl ?_ | refine g_lb ?_))
      refine g_rq rfl rfl (in64 (by simp only [arv]; omega)) ?_
      (repeat (first | refine g_sq ?_ | refine g_rg ?_ | refine g_r0 ?_ | refine g_ok rfl rfl ?_ | refine g_no rfl ?_ | refine g_no0 rfl ?_ | refine g_bk ?_ | refine g_b ?_ | refine g_sk ?_ | refine g_cT rfl ?_ | refine g_cF rfl ?_ | refine g_x rfl ?_ | refine g_lb ?_))
      refine g_rq rfl rfl (in64 (by simp only [arv]; omega)) ?_
      rw [show arv BinOp.add ((fr + J.used + i : Nat) : Int) 1 = ((fr + J.used + (i + 1) : Nat) : Int) by simp only [arv]; omega, show arv BinOp.add ((119 * i : Nat) : Int) 119 = ((119 * (i + 1) : Nat) : Int) by simp only [arv]; omega]
      (repeat (first | refine g_sq ?_ | refine g_rg ?_ | refine g_r0 ?_ | refine g_ok rfl rfl ?_ | refine g_no rfl ?_ | refine g_no0 rfl ?_ | refine g_bk ?_ | refine g_b ?_ | refine g_sk ?_ | refine g_cT rfl ?_ | refine g_cF rfl ?_ | refine g_x rfl ?_ | refine g_lb ?_))
      refine g_l (i + 1, (D1.write ((fr + J.used + i : Nat) : Int) (1 :: (g.b.drop (119 * i)).take 119)).1) ⟨rfl, rfl, rfl, rfl, trivial⟩ ⟨S2, ?_, by simp only; omega, by simp only; omega, hS⟩ (by simp only; omega)
      simp only
      rw [← hjd, List.drop_drop, show 119 * (i + 1) = 119 * i + 119 by omega, show fr + J.used + (i + 1) = fr + J.used + i + 1 by omega]
  · have hnil : g.b.drop (119 * i) = [] := List.drop_eq_nil_of_le (by omega)
    rw [hnil, jdata, dif_pos rfl] at hjd
    obtain ⟨_, _, _, vl, hB⟩ := RjoR.blk hS
    (repeat (first | refine g_sq ?_ | refine g_rg ?_ | refine g_r0 ?_ | refine g_ok rfl rfl ?_ | refine g_no rfl ?_ | refine g_no0 rfl ?_ | refine g_bk ?_ | refine g_b ?_ | refine g_sk ?_ | refine g_cT rfl ?_ | refine g_cF rfl ?_ | refine g_x rfl ?_ | refine g_lb ?_))
    refine g_l1 rfl rfl hB rfl ?_
    have hS := hS.sel [1, 0, 2, 3] rfl rfl
    refine g_cl rfl rfl (rc72 hS fun w S2 hS => ?_)
    have hS := hS.sel [1, 0, 2, 3] rfl rfl
    have hsf := (sync_fit D1).2
    (repeat (first | refine g_sq ?_ | refine g_rg ?_ | refine g_r0 ?_ | refine g_ok rfl rfl ?_ | refine g_no rfl ?_ | refine g_no0 rfl ?_ | refine g_bk ?_ | refine g_b ?_ | refine g_sk ?_ | refine g_cT rfl ?_ | refine g_cF rfl ?_ | refine g_x rfl ?_ | refine g_lb ?_))
    refine g_cd rfl (fun hz => ?_) (fun hz => ?_)
    all_goals simp only [cmv, Bool.not_eq_true', Bool.not_eq_false', decide_eq_true_eq, decide_eq_false_iff_not] at hz
    · have e : jwrite D (fr + J.used) g = D1.sync := by
        unfold jwrite
        simp only [← hjd]
        rw [if_neg (by simp), if_pos hz]
      rw [e] at h
      (repeat (first | refine g_sq ?_ | refine g_rg ?_ | refine g_r0 ?_ | refine g_ok rfl rfl ?_ | refine g_no rfl ?_ | refine g_no0 rfl ?_ | refine g_bk ?_ | refine g_b ?_ | refine g_sk ?_ | refine g_cT rfl ?_ | refine g_cF rfl ?_ | refine g_x rfl ?_ | refine g_lb ?_))
      exact g_ret (q_1 rfl (h _ _ _ (hS.sel [0, 1, 2] rfl rfl)))
    · (repeat (first | refine g_sq ?_ | refine g_rg ?_ | refine g_r0 ?_ | refine g_ok rfl rfl ?_ | refine g_no rfl ?_ | refine g_no0 rfl ?_ | refine g_bk ?_ | refine g_b ?_ | refine g_sk ?_ | refine g_cT rfl ?_ | refine g_cF rfl ?_ | refine g_x rfl ?_ | refine g_lb ?_))
      refine g_dr mixed ?_
      have hS := hS.drew
      obtain ⟨_, _, _, vl, hB⟩ := RjoR.blk hS
      (repeat (first | refine d_ok rfl rfl rfl ?_ | refine d_no rfl rfl ?_))
      refine d_l1 rfl rfl rfl hB rfl ?_
      (repeat (first | refine d_ok rfl rfl rfl ?_ | refine d_no rfl rfl ?_))
      refine d_l1 rfl rfl rfl (hS.b 3 rfl) rfl ?_
      (repeat (first | refine d_ok rfl rfl rfl ?_ | refine d_no rfl rfl ?_))
      refine d_l1 rfl rfl rfl (hS.b 3 rfl) rfl ?_
      refine d_cl rfl rfl rfl (c133 (n := g.n) (m := g.b.length) (bs := g.b) (by omega) (Ow.rd (hS.ok 2 _ rfl)) (by omega) hS fun v' w hS => ?_)
      obtain ⟨_, _, _, vl, hB⟩ := RjoR.blk hS
      refine ⟨rc_1 rfl rfl rfl rfl hB rfl rc_0, ?_⟩
      have hS := hS.sel [1, 0, 2, 3, 4] rfl rfl
      have hel := endedB_len g.n g.b
      refine d_cl rfl rfl rfl (rc71 (n := 128) (bs := endedB g.n g.b) hS (Ow.rd (hS.ok 4 _ rfl)) (fun x hx hs => hS.dis 0 4 _ _ rfl rfl (by decide) x hs (vb_vo hx)) (by omega) fun w S3 hS => ⟨rc_0, ?_⟩)
      have hS := hS.sel [1, 0, 2, 3] rfl rfl
      (repeat (first | refine d_ok rfl rfl rfl ?_ | refine d_no rfl rfl ?_))
      refine d_fin ?_
      (repeat (first | refine g_sq ?_ | refine g_rg ?_ | refine g_r0 ?_ | refine g_ok rfl rfl ?_ | refine g_no rfl ?_ | refine g_no0 rfl ?_ | refine g_bk ?_ | refine g_b ?_ | refine g_sk ?_ | refine g_cT rfl ?_ | refine g_cF rfl ?_ | refine g_x rfl ?_ | refine g_lb ?_))
      refine g_cd rfl (fun hy => ?_) (fun hy => ?_)
      all_goals simp only [cmv, Bool.not_eq_true', Bool.not_eq_false', decide_eq_true_eq, decide_eq_false_iff_not] at hy
      · have e : jwrite D (fr + J.used) g = D1.sync.1.write ((fr + J.used + i : Nat) : Int) (endedB g.n g.b) := by
          unfold jwrite
          simp only [← hjd]
          rw [if_neg (by simp), if_neg (by simpa using hz), if_pos hy]
        rw [e] at h
        (repeat (first | refine g_sq ?_ | refine g_rg ?_ | refine g_r0 ?_ | refine g_ok rfl rfl ?_ | refine g_no rfl ?_ | refine g_no0 rfl ?_ | refine g_bk ?_ | refine g_b ?_ | refine g_sk ?_ | refine g_cT rfl ?_ | refine g_cF rfl ?_ | refine g_x rfl ?_ | refine g_lb ?_))
        exact g_ret (q_1 rfl (h _ _ _ (hS.sel [0, 1, 2] rfl rfl)))
      · have e : jwrite D (fr + J.used) g = (D1.sync.1.write ((fr + J.used + i : Nat) : Int) (endedB g.n g.b)).1.sync := by
          unfold jwrite
          simp only [← hjd]
          rw [if_neg (by simp), if_neg (by simpa using hz), if_neg (by simpa using hy)]
        rw [e] at h
        (repeat (first | refine g_sq ?_ | refine g_rg ?_ | refine g_r0 ?_ | refine g_ok rfl rfl ?_ | refine g_no rfl ?_ | refine g_no0 rfl ?_ | refine g_bk ?_ | refine g_b ?_ | refine g_sk ?_ | refine g_cT rfl ?_ | refine g_cF rfl ?_ | refine g_x rfl ?_ | refine g_lb ?_))
        obtain ⟨_, _, _, vl, hB⟩ := RjoR.blk hS
        refine g_l1 rfl rfl hB rfl ?_
        have hS := hS.sel [1, 0, 2, 3] rfl rfl
        refine g_cl rfl rfl (rc72 hS fun w S4 hS => ?_)
        (repeat (first | refine g_sq ?_ | refine g_rg ?_ | refine g_r0 ?_ | refine g_ok rfl rfl ?_ | refine g_no rfl ?_ | refine g_no0 rfl ?_ | refine g_bk ?_ | refine g_b ?_ | refine g_sk ?_ | refine g_cT rfl ?_ | refine g_cF rfl ?_ | refine g_x rfl ?_ | refine g_lb ?_))
        exact g_ret (q_1 rfl (h _ _ _ (hS.sel [1, 0, 2] rfl rfl)))
theorem c70 {v : Value} {E n : Nat} {xs : List Value} (hS : St w0 S0 w L) (hr : Rd v E 1 n xs w) (h1 : xs.all (·.oneCell') = true) (hn : n ≤ 140737488355328) (h : ∀ v' w', St w0 S0 w' (L ++ [row v' 5 1 n xs]) → K v' w') : CK Try.prog 70 [v] w K :=
  b70 hr h1 hn fun v' w' h' => h v' w' (hS.call0.2 w' _ h')
set_option maxRecDepth 100000 in
theorem b95 {v : Value} {E : Nat} {bs : List UInt8} (hl : bs.length ≤ 1000000) (hwt : D.waits.length ≤ 1000000) (hb : Rd v E 1 bs.length (bys bs) w) (hd : ∀ x, vb v x → ¬ S0 x) (hS : St w S0 w [RjoR S jb d fr bk J, RefR S1 d D])
    (h : ∀ w' S' S1', St w S0 w' [RjoR S' jb d fr bk (J.append fr bk D bs).1, RefR S1' d (J.append fr bk D bs).2.1] → K (.int .i64 (J.append fr bk D bs).2.2) w') : CK Try.prog 95 [dp jb, v] w K := by
  have hro : ∀ {w' : World} {L' : List Res}, St w S0 w' L' → Rd v E 1 bs.length (bys bs) w' := fun hS => hS.ro (r := rdR v E 1 bs.length (bys bs)) hb fun x hx => ⟨hb.lt x hx, hd x hx⟩
  obtain ⟨a, c, rfl⟩ := Rd.form hb
  obtain ⟨hw, hb4, hf4, vl, hB⟩ := RjoR.blk hS
  refine call_k Try.func95 k95 Try.ntmps95 (Nat.le_of_ble_eq_true rfl) ?_
  (repeat (first | refine g_sq ?_ | refine g_rg ?_ | refine g_r0 ?_ | refine g_ok rfl rfl ?_ | refine g_no rfl ?_ | refine g_no0 rfl ?_ | refine g_bk ?_ | refine g_b ?_ | refine g_sk ?_ | refine g_cT rfl ?_ | refine g_cF rfl ?_ | refine g_x rfl ?_ | refine g_lb ?_))
  refine g_l1 rfl rfl hB rfl ?_
  refine g_r0 ?_
  refine g_cd (t := J.shut) rfl (fun hsh => ?_) (fun hsh => ?_)
  · have e : J.append fr bk D bs = (J, D, 141) := by unfold Jou.append; rw [if_pos hsh]
    rw [e] at h
    (repeat (first | refine g_sq ?_ | refine g_rg ?_ | refine g_r0 ?_ | refine g_ok rfl rfl ?_ | refine g_no rfl ?_ | refine g_no0 rfl ?_ | refine g_bk ?_ | refine g_b ?_ | refine g_sk ?_ | refine g_cT rfl ?_ | refine g_cF rfl ?_ | refine g_x rfl ?_ | refine g_lb ?_))
    exact g_ret (q_1 rfl (h _ _ _ hS))
  (repeat (first | refine g_sq ?_ | refine g_rg ?_ | refine g_r0 ?_ | refine g_ok rfl rfl ?_ | refine g_no rfl ?_ | refine g_no0 rfl ?_ | refine g_bk ?_ | refine g_b ?_ | refine g_sk ?_ | refine g_cT rfl ?_ | refine g_cF rfl ?_ | refine g_x rfl ?_ | refine g_lb ?_))
  refine g_atx (ι := Nat × Value) 1 (fun x => [(0, dp jb), (5, dp x.1)]) (fun x w' => ∃ S S1, St w S0 w' [RjoR S jb d fr bk J, RefR S1 d D, row x.2 5 1 bs.length (bys bs), cel x.1 [.int .i64 J.next, x.2, .int .i64 (blk bs.length)] 171]) rfl ?_ ?_
  · refine g_dr mixed ?_
    have hS := hS.drew
    obtain ⟨_, _, _, vl, hB⟩ := RjoR.blk hS
    (repeat (first | refine d_ok rfl rfl rfl ?_ | refine d_no rfl rfl ?_))
    refine d_l1 rfl rfl rfl hB rfl ?_
    (repeat (first | refine d_ok rfl rfl rfl ?_ | refine d_no rfl rfl ?_))
    refine d_a2 ?_ (d_a1 ?_)
    · refine d_cl rfl rfl rfl (c70 hS (hro hS) (bys_one _) (by omega) fun v' w' hS => ?_)
      obtain ⟨_, _, _, vl, hB⟩ := RjoR.blk hS
      obtain ⟨a', c', rfl⟩ := hS.rlen 2 rfl
      refine ⟨rc_1 rfl rfl rfl rfl hB rfl rc_0, ?_⟩
      refine d_a2 ?_ (d_a1 ?_)
      · refine d_cl rfl rfl rfl (c51 (by omega) ⟨rc_1 rfl rfl rfl rfl hB rfl rc_0, ?_⟩)
        (repeat (first | refine d_ok rfl rfl rfl ?_ | refine d_no rfl rfl ?_))
        refine d_e rfl rfl ?_
        refine ef_al hS fun g w' hS => ?_
        obtain ⟨_, _, _, vl, hB⟩ := RjoR.blk hS
        refine ⟨rc_1 rfl rfl rfl rfl hB rfl rc_0, ?_⟩
        refine d_e0 rfl rfl ?_
        refine ef_st hS 3 rfl rfl rfl rfl (Nat.le_of_ble_eq_true rfl) rfl fun w' hS => ⟨rc_0, ?_⟩
        exact d_fin (g_jx (g, _) ⟨rfl, rfl, trivial⟩ ⟨S, S1, hS⟩)
      · refine d_e rfl rfl ?_
        refine ef_al hS fun g w' hS => ?_
        obtain ⟨_, _, _, vl, hB⟩ := RjoR.blk hS
        refine ⟨rc_1 rfl rfl rfl rfl hB rfl rc_0, ?_⟩
        refine d_cl rfl rfl rfl (c51 (by omega) ⟨rc_1 rfl rfl rfl rfl hB rfl rc_0, ?_⟩)
        (repeat (first | refine d_ok rfl rfl rfl ?_ | refine d_no rfl rfl ?_))
        refine d_e0 rfl rfl ?_
        refine ef_st hS 3 rfl rfl rfl rfl (Nat.le_of_ble_eq_true rfl) rfl fun w' hS => ⟨rc_0, ?_⟩
        exact d_fin (g_jx (g, _) ⟨rfl, rfl, trivial⟩ ⟨S, S1, hS⟩)
    · refine d_e rfl rfl ?_
      refine ef_al hS fun g w' hS => ?_
      obtain ⟨_, _, _, vl, hB⟩ := RjoR.blk hS
      refine ⟨rc_1 rfl rfl rfl rfl hB rfl rc_0, ?_⟩
      refine d_cl rfl rfl rfl (c70 hS (hro hS) (bys_one _) (by omega) fun v' w' hS => ?_)
      obtain ⟨_, _, _, vl, hB⟩ := RjoR.blk hS
      obtain ⟨a', c', rfl⟩ := hS.rlen 3 rfl
      refine ⟨rc_1 rfl rfl rfl rfl hB rfl rc_0, ?_⟩
      refine d_cl rfl rfl rfl (c51 (by omega) ⟨rc_1 rfl rfl rfl rfl hB rfl rc_0, ?_⟩)
      (repeat (first | refine d_ok rfl rfl rfl ?_ | refine d_no rfl rfl ?_))
      refine d_e0 rfl rfl ?_
      refine ef_st hS 2 rfl rfl rfl rfl (Nat.le_of_ble_eq_true rfl) rfl fun w' hS => ⟨rc_0, ?_⟩
      exact d_fin (g_jx (g, _) ⟨rfl, rfl, trivial⟩ ⟨S, S1, hS.sel [0, 1, 3, 2] rfl rfl⟩)
  clear hS hB
  rintro ⟨g5, v'⟩ T w' hT ⟨S, S1, hS⟩
  simp only at hS
  have hu := hw.1
  refine g_wkc hT ?_
  refine g_sq ?_
  refine g_sq ?_
  refine g_dr mixed ?_
  have hS := hS.drew
  obtain ⟨_, _, _, vl, hB⟩ := RjoR.blk hS
  (repeat (first | refine d_ok rfl rfl rfl ?_ | refine d_no rfl rfl ?_))
  refine d_l1 rfl rfl rfl (hS.b 3 rfl) rfl ?_
  (repeat (first | refine d_ok rfl rfl rfl ?_ | refine d_no rfl rfl ?_))
  refine d_l1 rfl rfl rfl hB rfl ?_
  (repeat (first | refine d_ok rfl rfl rfl ?_ | refine d_no rfl rfl ?_))
  refine d_cl rfl rfl rfl (c99 hS ⟨rc_1 rfl rfl rfl rfl (hS.b 3 rfl) rfl (rc_1 rfl rfl rfl rfl hB rfl rc_0), ?_⟩)
  refine d_rq rfl rfl rfl (in64 (by simp only [arv]; omega)) ?_
  (repeat (first | refine d_ok rfl rfl rfl ?_ | refine d_no rfl rfl ?_))
  generalize hq : cmv BinOp.gtr (blk bs.length : Int) (arv BinOp.sub (bk : Int) (J.used : Int)) = q
  cases q
  all_goals simp only [cmv, decide_eq_true_eq, decide_eq_false_iff_not] at hq
  all_goals simp only [arv] at hq
  rotate_left
  · have e : J.append fr bk D bs = (J, D, 150) := by unfold Jou.append; rw [if_neg (by simp [hsh]), if_pos (.inl (by trace_state; omega))]
    rw [e] at h
    (repeat (first | refine d_ok rfl rfl rfl ?_ | refine d_no rfl rfl ?_))
    refine d_fin ?_
    (repeat (first | refine g_sq ?_ | refine g_rg ?_ | refine g_r0 ?_ | refine g_ok rfl rfl ?_ | refine g_no rfl ?_ | refine g_no0 rfl ?_ | refine g_bk ?_ | refine g_b ?_ | refine g_sk ?_ | refine g_cT rfl ?_ | refine g_cF rfl ?_ | refine g_x rfl ?_ | refine g_lb ?_))
    exact g_ret (q_1 rfl (h _ _ _ (hS.sel [0, 1] rfl rfl)))
  (repeat (first | refine d_ok rfl rfl rfl ?_ | refine d_no rfl rfl ?_))
  refine d_l1 rfl rfl rfl (hS.b 3 rfl) rfl ?_
  (repeat (first | refine d_ok rfl rfl rfl ?_ | refine d_no rfl rfl ?_))
  refine d_fin ?_
  refine g_cd rfl (fun hz => ?_) (fun hz => ?_)
  all_goals simp only [cmv, decide_eq_true_eq, decide_eq_false_iff_not] at hz
  · have e : J.append fr bk D bs = (J, D, 150) := by unfold Jou.append; rw [if_neg (by simp [hsh]), if_pos (.inr (by unfold maxN; omega))]
    rw [e] at h
    (repeat (first | refine g_sq ?_ | refine g_rg ?_ | refine g_r0 ?_ | refine g_ok rfl rfl ?_ | refine g_no rfl ?_ | refine g_no0 rfl ?_ | refine g_bk ?_ | refine g_b ?_ | refine g_sk ?_ | refine g_cT rfl ?_ | refine g_cF rfl ?_ | refine g_x rfl ?_ | refine g_lb ?_))
    exact g_ret (q_1 rfl (h _ _ _ (hS.sel [0, 1] rfl rfl)))
  have hneg : ¬ (bk - J.used < blk bs.length ∨ maxN < J.next) := by unfold maxN; omega
  have hn : J.next ≤ 4611686018427387904 := by omega
  (repeat (first | refine g_sq ?_ | refine g_rg ?_ | refine g_r0 ?_ | refine g_ok rfl rfl ?_ | refine g_no rfl ?_ | refine g_no0 rfl ?_ | refine g_bk ?_ | refine g_b ?_ | refine g_sk ?_ | refine g_cT rfl ?_ | refine g_cF rfl ?_ | refine g_x rfl ?_ | refine g_lb ?_))
  refine g_lm rfl rfl (hS.b 3 rfl) (Nat.le_of_ble_eq_true rfl) ?_
  have hfr := St.frame (A := [_, _, _]) (B := [_]) hS
  refine g_cl rfl rfl (c119 (g := ⟨J.next, bs⟩) (many := (blk bs.length : Int)) hl hn hwt hfr.1 fun w' S S1 h' => ?_)
  have hS := hfr.2 w' _ h'
  clear hfr h'
  have e0 : J.append fr bk D bs = if (jwrite D (fr + J.used) ⟨J.next, bs⟩).2 ≠ 0 then ({ J with shut := true }, (jwrite D (fr + J.used) ⟨J.next, bs⟩).1, (jwrite D (fr + J.used) ⟨J.next, bs⟩).2) else ({ J with l := J.l ++ [⟨J.next, bs⟩], next := J.next + 1 }, (jwrite D (fr + J.used) ⟨J.next, bs⟩).1, 0) := by
    unfold Jou.append
    rw [if_neg (by simp [hsh]), if_neg hneg]
  generalize jwrite D (fr + J.used) ⟨J.next, bs⟩ = R at hS e0
  obtain ⟨D1, e1⟩ := R
  simp only at hS e0
  (repeat (first | refine g_sq ?_ | refine g_rg ?_ | refine g_r0 ?_ | refine g_ok rfl rfl ?_ | refine g_no rfl ?_ | refine g_no0 rfl ?_ | refine g_bk ?_ | refine g_b ?_ | refine g_sk ?_ | refine g_cT rfl ?_ | refine g_cF rfl ?_ | refine g_x rfl ?_ | refine g_lb ?_))
  refine g_cd rfl (fun hy => ?_) (fun hy => ?_)
  all_goals simp only [cmv, Bool.not_eq_true', Bool.not_eq_false', decide_eq_true_eq, decide_eq_false_iff_not] at hy
  · rw [if_pos hy] at e0
    rw [e0] at h
    obtain ⟨vl, Z, k1, k2, k3, k4, hS⟩ := RjoR.opn hS
    (repeat (first | refine g_sq ?_ | refine g_rg ?_ | refine g_r0 ?_ | refine g_ok rfl rfl ?_ | refine g_no rfl ?_ | refine g_no0 rfl ?_ | refine g_bk ?_ | refine g_b ?_ | refine g_sk ?_ | refine g_cT rfl ?_ | refine g_cF rfl ?_ | refine g_x rfl ?_ | refine g_lb ?_))
    refine g_ef0 rfl (ef_st hS 0 rfl rfl rfl rfl (Nat.le_of_ble_eq_true rfl) rfl fun w' hS => ?_)
    have hS : St w S0 w' (cel jb (JouC (dp d) fr bk vl { J with shut := true }) 141 :: row vl 171 3 Z.length (gz Z) :: gp Z :: RefR S1 d D1 :: _) := hS
    obtain ⟨S', hS⟩ := RjoR.cls (J := { J with shut := true }) k1 k2 k3 k4 hS
    (repeat (first | refine g_sq ?_ | refine g_rg ?_ | refine g_r0 ?_ | refine g_ok rfl rfl ?_ | refine g_no rfl ?_ | refine g_no0 rfl ?_ | refine g_bk ?_ | refine g_b ?_ | refine g_sk ?_ | refine g_cT rfl ?_ | refine g_cF rfl ?_ | refine g_x rfl ?_ | refine g_lb ?_))
    exact g_ret (q_1 rfl (h _ _ _ (hS.sel [0, 1] rfl rfl)))
  rw [if_neg (by simpa using hy)] at e0
  rw [e0] at h
  (repeat (first | refine g_sq ?_ | refine g_rg ?_ | refine g_r0 ?_ | refine g_ok rfl rfl ?_ | refine g_no rfl ?_ | refine g_no0 rfl ?_ | refine g_bk ?_ | refine g_b ?_ | refine g_sk ?_ | refine g_cT rfl ?_ | refine g_cF rfl ?_ | refine g_x rfl ?_ | refine g_lb ?_))
  refine g_dr mixed ?_
  have hS := hS.drew
  obtain ⟨vl, Z, k1, k2, k3, k4, hS⟩ := RjoR.opn hS
  have hZl : Z.length = J.l.length := by rw [← k4, List.length_map]
  have hlen : Z.length ≤ 4096 := by have := usedOf_len J.l; have := k1.1; unfold Jou.used at this; omega
  obtain ⟨av, cv, rfl⟩ := hS.rlen 1 rfl
  obtain ⟨a', c', rfl⟩ := hS.rlen 4 rfl
  (repeat (first | refine d_ok rfl rfl rfl ?_ | refine d_no rfl rfl ?_))
  refine d_l1 rfl rfl rfl (hS.b 0 rfl) rfl ?_
  refine d_lm rfl rfl rfl (hS.b 5 rfl) (Nat.le_of_ble_eq_true rfl) ?_
  refine d_e rfl rfl ?_
  refine ef_bl (rs := gv1 (⟨J.next, bs⟩, .slice a' bs.length c')) hS rfl fun g7 w' hS => ⟨rc_1 rfl rfl rfl rfl (hS.b 0 rfl) rfl rc_0, ?_⟩
  refine d_e rfl rfl ?_
  refine ef_ap (n := Z.length) (m := 1) (ys := gv1 (⟨J.next, bs⟩, .slice a' bs.length c')) hS 1 rfl rfl rfl (.inl ⟨171, .inr ⟨g7, 0, 1, _, rfl, Nat.le_refl _, Nat.le_refl _, rfl, (hS.b 6 rfl).r⟩⟩) rfl (by omega) (by omega) fun vl1 w' hS => ⟨rc_0, ?_⟩
  obtain ⟨av1, cv1, rfl⟩ := hS.rlen 1 rfl
  (repeat (first | refine d_ok rfl rfl rfl ?_ | refine d_no rfl rfl ?_))
  refine d_e0 rfl rfl ?_
  refine ef_st hS 0 rfl rfl rfl rfl (Nat.le_of_ble_eq_true rfl) rfl fun w' hS => ⟨rc_0, ?_⟩
  refine d_fin ?_
  (repeat (first | refine g_sq ?_ | refine g_rg ?_ | refine g_r0 ?_ | refine g_ok rfl rfl ?_ | refine g_no rfl ?_ | refine g_no0 rfl ?_ | refine g_bk ?_ | refine g_b ?_ | refine g_sk ?_ | refine g_cT rfl ?_ | refine g_cF rfl ?_ | refine g_x rfl ?_ | refine g_lb ?_))
  refine g_l1 rfl rfl (hS.b  5 rfl) rfl ?_
  refine g_rq rfl rfl (in64 (by simp only [arv]; omega)) ?_
  rw [show arv BinOp.add (J.next : Int) 1 = ((J.next + 1 : Nat) : Int) by simp only [arv]; omega]
  (repeat (first | refine g_sq ?_ | refine g_rg ?_ | refine g_r0 ?_ | refine g_ok rfl rfl ?_ | refine g_no rfl ?_ | refine g_no0 rfl ?_ | refine g_bk ?_ | refine g_b ?_ | refine g_sk ?_ | refine g_cT rfl ?_ | refine g_cF rfl ?_ | refine g_x rfl ?_ | refine g_lb ?_))
  refine g_ef0 rfl (ef_st hS 0 rfl rfl rfl rfl (Nat.le_of_ble_eq_true rfl) rfl fun w' hS => ?_)
  have hS := hS.pool_add (M := Z.map fun z => (z.2, z.1.b)) (v := .slice a' bs.length c') (bs := bs) 2 4 rfl rfl (by decide)
  have hS : St w S0 w' [cel jb (JouC (dp d) fr bk (.slice av1 (Z.length + 1) cv1) { J with l := J.l ++ [⟨J.next, bs⟩], next := J.next + 1 }) 141, row (.slice av1 (Z.length + 1) cv1) 171 3 (Z.length + 1) (gz Z ++ gv1 (⟨J.next, bs⟩, .slice a' bs.length c')), pool ((Z.map fun z => (z.2, z.1.b)) ++ [(.slice a' bs.length c', bs)]), RefR S1 d D1] := hS.sel [0, 1, 2, 3] rfl rfl
  have e2 : (Z ++ [((⟨J.next, bs⟩ : Grp), Value.slice a' bs.length c')]).length = Z.length + 1 := by simp
  have e3 : gp (Z ++ [((⟨J.next, bs⟩ : Grp), Value.slice a' bs.length c')]) = pool ((Z.map fun z => (z.2, z.1.b)) ++ [(.slice a' bs.length c', bs)]) := by simp [gp]
  have e4 : usedOf (J.l ++ [(⟨J.next, bs⟩ : Grp)]) = usedOf J.l + blk bs.length := by rw [usedOf_app]; simp [usedOf, Grp.many]
  rw [← gz_app, ← e3, ← e2] at hS
  obtain ⟨S', hS⟩ := RjoR.cls (J := { J with l := J.l ++ [⟨J.next, bs⟩], next := J.next + 1 }) ⟨by
      show usedOf (J.l ++ [_]) ≤ bk
      have := k1.1
      unfold Jou.used at *
      unfold maxN at hneg
      omega, by show J.next + 1 ≤ _; omega, fun g hg => by
      rcases List.mem_append.1 hg with hg | hg
      · exact k1.2.2 g hg
      · simp at hg; subst hg; exact ⟨hl, hn⟩⟩ k2 k3 (by rw [List.map_append, k4]; rfl) hS
  (repeat (first | refine g_sq ?_ | refine g_rg ?_ | refine g_r0 ?_ | refine g_ok rfl rfl ?_ | refine g_no rfl ?_ | refine g_no0 rfl ?_ | refine g_bk ?_ | refine g_b ?_ | refine g_sk ?_ | refine g_cT rfl ?_ | refine g_cF rfl ?_ | refine g_x rfl ?_ | refine g_lb ?_))
  exact g_ret (q_1 rfl (h _ _ _ hS))
theorem c95 {v : Value} {E : Nat} {bs : List UInt8} (hl : bs.length ≤ 1000000) (hwt : D.waits.length ≤ 1000000) (hb : Rd v E 1 bs.length (bys bs) w) (hd : ∀ x, vb v x → ¬ S x ∧ ¬ S1 x) (hS : St w0 S0 w (RjoR S jb d fr bk J :: RefR S1 d D :: B))
    (h : ∀ w' S' S1', St w0 S0 w' (RjoR S' jb d fr bk (J.append fr bk D bs).1 :: RefR S1' d (J.append fr bk D bs).2.1 :: B) → K (.int .i64 (J.append fr bk D bs).2.2) w') : CK Try.prog 95 [dp jb, v] w K := by
  have hf := St.frame (A := [RjoR S jb d fr bk J, RefR S1 d D]) (B := B) hS
  refine b95 hl hwt hb (fun x hx => ?_) hf.1 fun w' S' S1' h' => h w' S' S1' (hf.2 w' _ h')
  rintro ⟨j, r, hj, hr⟩
  match j, hj with
  | 0, hj => cases hj; exact (hd x hx).1 hr
  | 1, hj => cases hj; exact (hd x hx).2 hr
end
end Go.Proofs.Ytegjocpjmfaigaa
