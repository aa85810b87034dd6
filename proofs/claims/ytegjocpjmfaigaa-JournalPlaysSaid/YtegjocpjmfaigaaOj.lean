/- The statement JournalPlays: the walk. -/
import Derived.Test.YtegjocpjmfaigaaOi
set_option linter.unusedSimpArgs false
set_option linter.unusedVariables false
namespace Go.Proofs.Ytegjocpjmfaigaa
open Go.En

section
variable {w w0 : World} {S0 S S' S1 S2 S3 S4 : Nat → Prop} {K : Value → World → Prop} {p d r jb sb f b : Nat} {J : Jou} {D : Dev} {L : List Res} {v : Value}
set_option maxRecDepth 100000 in
set_option maxHeartbeats 1000000 in
theorem l53 {o : Opj} (hwt : D.waits.length ≤ 900000) (hl : D.cells.length ≤ 4096) (hb : Ext w0 (o.v, o.bs)) (hln : o.bs.length ≤ 1000) (hfit : f + b ≤ D.cells.length ∧ 2 ≤ b) (hS : St w0 (fun _ => False) w (PlL p d r jb sb f b S1 S2 S3 S4 J D))
    (h : ∀ w' jb sb S1 S2 S3 S4 J' D', D'.cells.length = D.cells.length → D'.waits.length ≤ D.waits.length + 2000 → St w0 (fun _ => False) w' (PlL p d r jb sb f b S1 S2 S3 S4 J' D') → K (.bool true) w') : CK Try.prog 53 [dp p, .agg ⟨opvj o⟩] w K := by
  have hmx : maxN = 4611686018427387904 := rfl
  obtain ⟨E, hb⟩ := hb
  simp only at hb
  have hro : ∀ {w' : World} {L' : List Res}, St w0 (fun _ => False) w' L' → Rd o.v E 1 o.bs.length (bys o.bs) w' := fun hS => hS.ro (r := rdR o.v E 1 o.bs.length (bys o.bs)) hb fun x hx => ⟨hb.lt x hx, fun h => h⟩
  have hnew : ∀ {w' : World} {L' : List Res} {r : Res} (i : Nat), St w0 (fun _ => False) w' L' → L'[i]? = some r → ∀ x, vb o.v x → ¬ r.ids x := fun i hS hi x hx hr => by
    have := hb.lt x hx
    rcases hS.src _ _ hi x hr with h | h
    · exact h
    · omega
  obtain ⟨av, cv, ev⟩ := Rd.form hb
  unfold PlL at hS
  obtain ⟨hw, _, _, _, _⟩ := JouR.blk (hS.sel [1, 0] rfl rfl)
  refine call_k Try.func53 k53 Try.ntmps53 (Nat.le_of_ble_eq_true rfl) ?_
  (repeat (first | refine g_sq ?_ | refine g_rg ?_ | refine g_r0 ?_ | refine g_ok rfl rfl ?_ | refine g_no rfl ?_ | refine g_no0 rfl ?_ | refine g_bk ?_ | refine g_b ?_ | refine g_sk ?_ | refine g_cT rfl ?_ | refine g_cF rfl ?_ | refine g_x rfl ?_ | refine g_lb ?_))
  refine g_ef rfl (ef_bx hS rfl fun b3 w hS => ?_)
  have hS : St w0 (fun _ => False) w [cel p (playC d r (dp jb) (dp sb) f b) 86, JouR S1 jb d f b J, DevR S2 d D, RjoR S3 sb r f b J, RefR S4 r D, cel b3 (opvj o) 81] := hS
  (repeat (first | refine g_sq ?_ | refine g_rg ?_ | refine g_r0 ?_ | refine g_ok rfl rfl ?_ | refine g_no rfl ?_ | refine g_no0 rfl ?_ | refine g_bk ?_ | refine g_b ?_ | refine g_sk ?_ | refine g_cT rfl ?_ | refine g_cF rfl ?_ | refine g_x rfl ?_ | refine g_lb ?_))
  refine g_l1 rfl rfl (hS.b  5 rfl) rfl ?_
  (repeat (first | refine g_sq ?_ | refine g_rg ?_ | refine g_r0 ?_ | refine g_ok rfl rfl ?_ | refine g_no rfl ?_ | refine g_no0 rfl ?_ | refine g_bk ?_ | refine g_b ?_ | refine g_sk ?_ | refine g_cT rfl ?_ | refine g_cF rfl ?_ | refine g_x rfl ?_ | refine g_lb ?_))
  refine g_cd rfl (fun hk => ?_) (fun hk => ?_)
  · -- appended
    (repeat (first | refine g_sq ?_ | refine g_rg ?_ | refine g_r0 ?_ | refine g_ok rfl rfl ?_ | refine g_no rfl ?_ | refine g_no0 rfl ?_ | refine g_bk ?_ | refine g_b ?_ | refine g_sk ?_ | refine g_cT rfl ?_ | refine g_cF rfl ?_ | refine g_x rfl ?_ | refine g_lb ?_))
    refine g_l1 (v := o.v) rfl rfl (hS.b 5 rfl) rfl ?_
    rw [ev]
    refine g_cl rfl rfl (c70 hS (by rw [← ev]; exact hro hS) (bys_one _) (by omega) fun v1 w hS => ?_)
    obtain ⟨a1, c1, rfl⟩ := hS.rlen 6 rfl
    have hf := append_fit J f b D o.bs
    (repeat (first | refine g_sq ?_ | refine g_rg ?_ | refine g_r0 ?_ | refine g_ok rfl rfl ?_ | refine g_no rfl ?_ | refine g_no0 rfl ?_ | refine g_bk ?_ | refine g_b ?_ | refine g_sk ?_ | refine g_cT rfl ?_ | refine g_cF rfl ?_ | refine g_x rfl ?_ | refine g_lb ?_))
    refine g_dr mixed ?_
    have hS := hS.drew
    (repeat (first | refine d_ok rfl rfl rfl ?_ | refine d_no rfl rfl ?_))
    refine d_l1 rfl rfl rfl (hS.b 0 rfl) rfl ?_
    (repeat (first | refine d_ok rfl rfl rfl ?_ | refine d_no rfl rfl ?_))
    refine d_l1 rfl rfl rfl (hS.b 0 rfl) rfl ?_
    (repeat (first | refine d_ok rfl rfl rfl ?_ | refine d_no rfl rfl ?_))
    refine d_l1 (v := o.v) rfl rfl rfl (hS.b 5 rfl) rfl ?_
    have hS := hS.sel [1, 2, 0, 3, 4, 5, 6] rfl rfl
    refine d_cl rfl rfl rfl (c42 (by omega) (by omega) (Ow.rd (hS.ok 6 _ rfl)) (fun x hx => ⟨fun hs => hS.dis 0 6 _ _ rfl rfl (by decide) x hs (vb_vo hx), fun hs => hS.dis 1 6 _ _ rfl rfl (by decide) x hs (vb_vo hx)⟩) hS fun w S1 S2 hS => ⟨rc_1 rfl rfl rfl rfl (hS.b 2 rfl) rfl (rc_1 (v := o.v) rfl rfl rfl rfl (hS.b 5 rfl) rfl rc_0), ?_⟩)
    have hS := hS.sel [3, 4, 0, 1, 2, 5, 6] rfl rfl
    refine d_cl rfl rfl rfl (c95 (by omega) (by omega) (hro hS) (fun x hx => ⟨hnew 0 hS rfl x hx, hnew 1 hS rfl x hx⟩) hS fun w S3 S4 hS => ⟨rc_0, ?_⟩)
    refine d_ok (v := .bool true) rfl rfl (congrArg (fun x => R3.ok (.bool x)) (cmv_self _)) ?_
    (repeat (first | refine d_ok rfl rfl rfl ?_ | refine d_no rfl rfl ?_))
    refine d_qt rfl rfl rfl (qt_bsR rfl (Ow.rd (hS.ok 6 _ rfl))) ?_
    (repeat (first | refine d_ok rfl rfl rfl ?_ | refine d_no rfl rfl ?_))
    refine d_l1 (v := o.v) rfl rfl rfl (hS.b 5 rfl) rfl ?_
    refine d_qt rfl rfl rfl (qt_bsR rfl (hro hS)) ?_
    refine d_ok (v := .bool true) rfl rfl (congrArg (fun x => R3.ok (.bool x)) (decide_eq_true rfl)) ?_
    (repeat (first | refine d_ok rfl rfl rfl ?_ | refine d_no rfl rfl ?_))
    refine d_fin ?_
    (repeat (first | refine g_sq ?_ | refine g_rg ?_ | refine g_r0 ?_ | refine g_ok rfl rfl ?_ | refine g_no rfl ?_ | refine g_no0 rfl ?_ | refine g_bk ?_ | refine g_b ?_ | refine g_sk ?_ | refine g_cT rfl ?_ | refine g_cF rfl ?_ | refine g_x rfl ?_ | refine g_lb ?_))
    refine g_lp (ι := Nat) (fun k => [(5, .slice a1 o.bs.length c1), (6, .bool true), (41, .int .i64 o.bs.length), (42, .int .i64 k)])
      (fun k w => k ≤ o.bs.length ∧ ∃ bk, bk.length = o.bs.length ∧ St w0 (fun _ => False) w [RjoR S3 sb r f b (J.append f b D o.bs).1, RefR S4 r (J.append f b D o.bs).2.1, JouR S1 jb d f b (J.append f b D o.bs).1, DevR S2 d (J.append f b D o.bs).2.1, cel p (playC d r (dp jb) (dp sb) f b) 86, row (.slice a1 o.bs.length c1) 5 1 o.bs.length (bys bk)]) (fun k => o.bs.length - k) 0
      ⟨rfl, rfl, rfl, rfl, trivial⟩ ⟨Nat.zero_le _, o.bs, rfl, hS.sel [0, 1, 2, 3, 4, 6] rfl rfl⟩ ?_
    clear hS
    rintro k w ⟨hkl, bk, hbk, hS⟩
    (repeat (first | refine g_sq ?_ | refine g_rg ?_ | refine g_r0 ?_ | refine g_ok rfl rfl ?_ | refine g_no rfl ?_ | refine g_no0 rfl ?_ | refine g_bk ?_ | refine g_b ?_ | refine g_sk ?_ | refine g_cT rfl ?_ | refine g_cF rfl ?_ | refine g_x rfl ?_ | refine g_lb ?_))
    refine g_cd rfl (fun hc => ?_) (fun hc => ?_)
    all_goals simp only [cmv, decide_eq_true_eq, decide_eq_false_iff_not] at hc
    · have hlt : k < bk.length := by omega
      obtain ⟨b1, cap1, rest1, hv, h1c, h2c, hS⟩ := hS.open_row 5 rfl (hS.rowb 5 rfl (by omega))
      cases hv
      (repeat (first | refine g_sq ?_ | refine g_rg ?_ | refine g_r0 ?_ | refine g_ok rfl rfl ?_ | refine g_no rfl ?_ | refine g_no0 rfl ?_ | refine g_bk ?_ | refine g_b ?_ | refine g_sk ?_ | refine g_cT rfl ?_ | refine g_cF rfl ?_ | refine g_x rfl ?_ | refine g_lb ?_))
      refine g_rq rfl rfl ⟨by omega, by omega⟩ ?_
      refine g_l1 (v := .int .u8 ((bk[k]).toNat : Int)) rfl rfl (hS.b 5 rfl) (by
        show (bys bk ++ rest1)[0 + k * 1]? = _
        rw [Nat.zero_add, Nat.mul_one, List.getElem?_append_left (by simpa using hlt)]
        simp [bys, hlt]) ?_
      (repeat (first | refine g_sq ?_ | refine g_rg ?_ | refine g_r0 ?_ | refine g_ok rfl rfl ?_ | refine g_no rfl ?_ | refine g_no0 rfl ?_ | refine g_bk ?_ | refine g_b ?_ | refine g_sk ?_ | refine g_cT rfl ?_ | refine g_cF rfl ?_ | refine g_x rfl ?_ | refine g_lb ?_))
      refine g_rq rfl rfl ⟨by omega, by omega⟩ ?_
      refine g_ef0 rfl ?_
      refine ef_st (u := .int .u8 ((bk[k] + 1).toNat : Int)) hS 5 rfl rfl (congrArg (fun x => some (Value.int .u8 x)) (inc8 bk[k])) rfl (by
        show 0 + k * 1 + 1 ≤ (bys bk ++ rest1).length
        simp; omega) rfl fun w hS => ?_
      have hS := hS.ceq 5 rfl (bys_set bk rest1 k (bk[k] + 1) hlt)
      have hS := hS.close_row (sz := 1) (n := o.bs.length) (cap := c1) 5 rfl h1c (by simp [hbk]) (List.prefix_append _ _) (by rw [← h2c]; simp)
      (repeat (first | refine g_sq ?_ | refine g_rg ?_ | refine g_r0 ?_ | refine g_ok rfl rfl ?_ | refine g_no rfl ?_ | refine g_no0 rfl ?_ | refine g_bk ?_ | refine g_b ?_ | refine g_sk ?_ | refine g_cT rfl ?_ | refine g_cF rfl ?_ | refine g_x rfl ?_ | refine g_lb ?_))
      refine g_l (k + 1) ⟨rfl, rfl, rfl, ?_, trivial⟩ ⟨by omega, bk.set k (bk[k] + 1), by simpa using hbk, hS⟩ (by omega)
      show some (Value.int .i64 (IntKind.i64.wrap (arv BinOp.add (k : Int) 1))) = some (Value.int .i64 ((k + 1 : Nat) : Int))
      rw [wrap_in (k := .i64) (in64 (by simp only [arv]; omega))]
      rfl
    · (repeat (first | refine g_sq ?_ | refine g_rg ?_ | refine g_r0 ?_ | refine g_ok rfl rfl ?_ | refine g_no rfl ?_ | refine g_no0 rfl ?_ | refine g_bk ?_ | refine g_b ?_ | refine g_sk ?_ | refine g_cT rfl ?_ | refine g_cF rfl ?_ | refine g_x rfl ?_ | refine g_lb ?_))
      exact g_ret (q_1 rfl (h _ _ _ _ _ _ _ _ _ hf.1 (by omega) (hS.sel [4, 2, 3, 0, 1] rfl rfl)))
  (repeat (first | refine g_sq ?_ | refine g_rg ?_ | refine g_r0 ?_ | refine g_ok rfl rfl ?_ | refine g_no rfl ?_ | refine g_no0 rfl ?_ | refine g_bk ?_ | refine g_b ?_ | refine g_sk ?_ | refine g_cT rfl ?_ | refine g_cF rfl ?_ | refine g_x rfl ?_ | refine g_lb ?_))
  refine g_cd rfl (fun hk => ?_) (fun hk => ?_)
  · -- begun anew
    (repeat (first | refine g_sq ?_ | refine g_rg ?_ | refine g_r0 ?_ | refine g_ok rfl rfl ?_ | refine g_no rfl ?_ | refine g_no0 rfl ?_ | refine g_bk ?_ | refine g_b ?_ | refine g_sk ?_ | refine g_cT rfl ?_ | refine g_cF rfl ?_ | refine g_x rfl ?_ | refine g_lb ?_))
    refine g_dr mixed ?_
    have hS := hS.drew
    obtain ⟨_, _, _, vl, hB⟩ := RjoR.blk (hS.sel [3, 0] rfl rfl)
    (repeat (first | refine d_ok rfl rfl rfl ?_ | refine d_no rfl rfl ?_))
    refine d_l1 rfl rfl rfl (hS.b 0 rfl) rfl ?_
    (repeat (first | refine d_ok rfl rfl rfl ?_ | refine d_no rfl rfl ?_))
    refine d_l1 rfl rfl rfl hB rfl ?_
    (repeat (first | refine d_ok rfl rfl rfl ?_ | refine d_no rfl rfl ?_))
    refine d_l1 rfl rfl rfl (hS.b 5 rfl) rfl ?_
    refine d_rq rfl rfl rfl (by decide) ?_
    (repeat (first | refine d_ok rfl rfl rfl ?_ | refine d_no rfl rfl ?_))
    refine d_fin ?_
    generalize IntKind.i64.wrap (arv BinOp.add (J.next : Int) (o.n.tmod 8)) = n
    refine g_sq ?_
    refine g_dr mixed ?_
    have hS := hS.drew
    (repeat (first | refine d_ok rfl rfl rfl ?_ | refine d_no rfl rfl ?_))
    refine d_l1 rfl rfl rfl (hS.b 0 rfl) rfl ?_
    (repeat (first | refine d_ok rfl rfl rfl ?_ | refine d_no rfl rfl ?_))
    refine d_l1 rfl rfl rfl (hS.b 0 rfl) rfl ?_
    (repeat (first | refine d_ok rfl rfl rfl ?_ | refine d_no rfl rfl ?_))
    have hS := hS.sel [1, 0, 2, 3, 4] rfl rfl
    refine d_cl rfl rfl rfl (c48 hS (fun hno => ⟨rc_1 rfl rfl rfl rfl (hS.b 1 rfl) rfl rc_0, ?_⟩) (fun hok w S1 hS => ⟨rc_1 rfl rfl rfl rfl (hS.b 1 rfl) rfl rc_0, ?_⟩))
    · have hS := hS.sel [3, 0, 1, 2, 4] rfl rfl
      refine d_cl rfl rfl rfl (c96 hS (fun _ => ⟨rc_0, ?_⟩) (fun hok => absurd hno hok))
      (repeat (first | refine d_ok rfl rfl rfl ?_ | refine d_no rfl rfl ?_))
      refine d_fin ?_
      exact g_ret (q_1 rfl (h _ _ _ _ _ _ _ _ _ rfl (by omega) (hS.sel [2, 1, 3, 0, 4] rfl rfl)))
    · have hS := hS.sel [3, 0, 1, 2, 4] rfl rfl
      refine d_cl rfl rfl rfl (c96 hS (fun hno => absurd hno hok) (fun _ w S3 hS => ⟨rc_0, ?_⟩))
      (repeat (first | refine d_ok rfl rfl rfl ?_ | refine d_no rfl rfl ?_))
      refine d_fin ?_
      exact g_ret (q_1 rfl (h _ _ _ _ _ _ _ _ _ rfl (by omega) (hS.sel [2, 1, 3, 0, 4] rfl rfl)))
  (repeat (first | refine g_sq ?_ | refine g_rg ?_ | refine g_r0 ?_ | refine g_ok rfl rfl ?_ | refine g_no rfl ?_ | refine g_no0 rfl ?_ | refine g_bk ?_ | refine g_b ?_ | refine g_sk ?_ | refine g_cT rfl ?_ | refine g_cF rfl ?_ | refine g_x rfl ?_ | refine g_lb ?_))
  refine g_cd rfl (fun hk => ?_) (fun hk => ?_)
  · -- armed
    (repeat (first | refine g_sq ?_ | refine g_rg ?_ | refine g_r0 ?_ | refine g_ok rfl rfl ?_ | refine g_no rfl ?_ | refine g_no0 rfl ?_ | refine g_bk ?_ | refine g_b ?_ | refine g_sk ?_ | refine g_cT rfl ?_ | refine g_cF rfl ?_ | refine g_x rfl ?_ | refine g_lb ?_))
    refine g_dr mixed ?_
    have hS := hS.drew
    (repeat (first | refine d_ok rfl rfl rfl ?_ | refine d_no rfl rfl ?_))
    refine d_l1 rfl rfl rfl (hS.b 0 rfl) rfl ?_
    (repeat (first | refine d_ok rfl rfl rfl ?_ | refine d_no rfl rfl ?_))
    refine d_lm rfl rfl rfl (hS.b 5 rfl) (Nat.le_of_ble_eq_true rfl) ?_
    (repeat (first | refine d_ok rfl rfl rfl ?_ | refine d_no rfl rfl ?_))
    refine d_l1 rfl rfl rfl (hS.b 0 rfl) rfl ?_
    (repeat (first | refine d_ok rfl rfl rfl ?_ | refine d_no rfl rfl ?_))
    refine d_lm rfl rfl rfl (hS.b 5 rfl) (Nat.le_of_ble_eq_true rfl) ?_
    have hS := hS.sel [2, 0, 1, 3, 4, 5] rfl rfl
    refine d_cl rfl rfl rfl (c32 (f := o.f) hS fun w S2 hS => ⟨rc_1 rfl rfl rfl rfl (hS.b 1 rfl) rfl (rc_m rfl rfl rfl rfl (hS.b 5 rfl) (Nat.le_of_ble_eq_true rfl) rfl rc_0), ?_⟩)
    have hS := hS.sel [4, 0, 1, 2, 3, 5] rfl rfl
    refine d_cl rfl rfl rfl (rc74 (f := o.f) hS fun w S4 hS => ⟨rc_0, ?_⟩)
    refine d_ok (v := .bool true) rfl rfl (congrArg (fun x => R3.ok (.bool x)) (cmv_self _)) ?_
    (repeat (first | refine d_ok rfl rfl rfl ?_ | refine d_no rfl rfl ?_))
    refine d_fin ?_
    have hf := arm_fit D o.f
    exact g_ret (q_1 rfl (h _ _ _ _ _ _ _ _ _ hf.1 (by have := hf.2; omega) (hS.sel [2, 3, 1, 4, 0] rfl rfl)))
  (repeat (first | refine g_sq ?_ | refine g_rg ?_ | refine g_r0 ?_ | refine g_ok rfl rfl ?_ | refine g_no rfl ?_ | refine g_no0 rfl ?_ | refine g_bk ?_ | refine g_b ?_ | refine g_sk ?_ | refine g_cT rfl ?_ | refine g_cF rfl ?_ | refine g_x rfl ?_ | refine g_lb ?_))
  refine g_cd rfl (fun hk => ?_) (fun hk => ?_)
  · -- booted
    (repeat (first | refine g_sq ?_ | refine g_rg ?_ | refine g_r0 ?_ | refine g_ok rfl rfl ?_ | refine g_no rfl ?_ | refine g_no0 rfl ?_ | refine g_bk ?_ | refine g_b ?_ | refine g_sk ?_ | refine g_cT rfl ?_ | refine g_cF rfl ?_ | refine g_x rfl ?_ | refine g_lb ?_))
    refine g_l1 rfl rfl (hS.b  0 rfl) rfl ?_
    have hS := hS.sel [2, 0, 1, 3, 4] rfl rfl
    refine g_cl rfl rfl (c29 hS fun w S2 hS => ?_)
    (repeat (first | refine g_sq ?_ | refine g_rg ?_ | refine g_r0 ?_ | refine g_ok rfl rfl ?_ | refine g_no rfl ?_ | refine g_no0 rfl ?_ | refine g_bk ?_ | refine g_b ?_ | refine g_sk ?_ | refine g_cT rfl ?_ | refine g_cF rfl ?_ | refine g_x rfl ?_ | refine g_lb ?_))
    refine g_l1 rfl rfl (hS.b  1 rfl) rfl ?_
    have hS := hS.sel [4, 1, 0] rfl rfl
    refine g_cl rfl rfl (rc76 hS fun w S4 hS => ?_)
    have hS := hS.sel [1, 2, 0] rfl rfl
    have hbl : D.boot.cells.length = D.cells.length := rfl
    (repeat (first | refine g_sq ?_ | refine g_rg ?_ | refine g_r0 ?_ | refine g_ok rfl rfl ?_ | refine g_no rfl ?_ | refine g_no0 rfl ?_ | refine g_bk ?_ | refine g_b ?_ | refine g_sk ?_ | refine g_cT rfl ?_ | refine g_cF rfl ?_ | refine g_x rfl ?_ | refine g_lb ?_))
    refine g_cl rfl rfl (l52 (D := D.boot) (by omega) hS (fun hb => ?_) (fun _ _ w jb sb S1 S2 S3 S4 hS => ?_))
    · exfalso
      rcases hb with hb | hb
      · unfold badA at hb; rw [hbl] at hb; omega
      · cases hb
    rw [Int.toNat_natCast, Int.toNat_natCast] at hS
    (repeat (first | refine g_sq ?_ | refine g_rg ?_ | refine g_r0 ?_ | refine g_ok rfl rfl ?_ | refine g_no rfl ?_ | refine g_no0 rfl ?_ | refine g_bk ?_ | refine g_b ?_ | refine g_sk ?_ | refine g_cT rfl ?_ | refine g_cF rfl ?_ | refine g_x rfl ?_ | refine g_lb ?_))
    exact g_ret (q_1 rfl (h _ _ _ _ _ _ _ _ _ hbl (by show 0 ≤ _; omega) hS))
  (repeat (first | refine g_sq ?_ | refine g_rg ?_ | refine g_r0 ?_ | refine g_ok rfl rfl ?_ | refine g_no rfl ?_ | refine g_no0 rfl ?_ | refine g_bk ?_ | refine g_b ?_ | refine g_sk ?_ | refine g_cT rfl ?_ | refine g_cF rfl ?_ | refine g_x rfl ?_ | refine g_lb ?_))
  refine g_cd rfl (fun hk => ?_) (fun hk => ?_)
  · -- written beside
    (repeat (first | refine g_sq ?_ | refine g_rg ?_ | refine g_r0 ?_ | refine g_ok rfl rfl ?_ | refine g_no rfl ?_ | refine g_no0 rfl ?_ | refine g_bk ?_ | refine g_b ?_ | refine g_sk ?_ | refine g_cT rfl ?_ | refine g_cF rfl ?_ | refine g_x rfl ?_ | refine g_lb ?_))
    refine g_dr mixed ?_
    have hS := hS.drew
    (repeat (first | refine d_ok rfl rfl rfl ?_ | refine d_no rfl rfl ?_))
    refine d_l1 rfl rfl rfl (hS.b 0 rfl) rfl ?_
    (repeat (first | refine d_ok rfl rfl rfl ?_ | refine d_no rfl rfl ?_))
    refine d_l1 rfl rfl rfl (hS.b 0 rfl) rfl ?_
    (repeat (first | refine d_ok rfl rfl rfl ?_ | refine d_no rfl rfl ?_))
    refine d_l1 rfl rfl rfl (hS.b 5 rfl) rfl ?_
    (repeat (first | refine d_ok rfl rfl rfl ?_ | refine d_no rfl rfl ?_))
    refine d_l1 (v := o.v) rfl rfl rfl (hS.b 5 rfl) rfl ?_
    (repeat (first | refine d_ok rfl rfl rfl ?_ | refine d_no rfl rfl ?_))
    refine d_l1 rfl rfl rfl (hS.b 0 rfl) rfl ?_
    (repeat (first | refine d_ok rfl rfl rfl ?_ | refine d_no rfl rfl ?_))
    refine d_l1 rfl rfl rfl (hS.b 0 rfl) rfl ?_
    (repeat (first | refine d_ok rfl rfl rfl ?_ | refine d_no rfl rfl ?_))
    refine d_l1 rfl rfl rfl (hS.b 5 rfl) rfl ?_
    (repeat (first | refine d_ok rfl rfl rfl ?_ | refine d_no rfl rfl ?_))
    refine d_l1 (v := o.v) rfl rfl rfl (hS.b 5 rfl) rfl ?_
    have hS := hS.sel [2, 0, 1, 3, 4, 5] rfl rfl
    refine d_cl rfl rfl rfl (c23 (bs := o.bs) hS (hro hS) (hnew 0 hS rfl) (by omega) fun w S2 hS => ⟨rc_1 rfl rfl rfl rfl (hS.b 1 rfl) rfl (rc_1 rfl rfl rfl rfl (hS.b 1 rfl) rfl (rc_1 rfl rfl rfl rfl (hS.b 5 rfl) rfl (rc_1 (v := o.v) rfl rfl rfl rfl (hS.b 5 rfl) rfl rc_0))), ?_⟩)
    have hS := hS.sel [4, 0, 1, 2, 3, 5] rfl rfl
    refine d_cl rfl rfl rfl (rc71 (bs := o.bs) hS (hro hS) (hnew 0 hS rfl) (by omega) fun w S4 hS => ⟨rc_0, ?_⟩)
    (repeat (first | refine d_ok rfl rfl rfl ?_ | refine d_no rfl rfl ?_))
    refine d_fin ?_
    generalize IntKind.i64.wrap (arv BinOp.add (f : Int) o.a) = i at hS ⊢
    have hf := write_fit D i o.bs
    generalize D.write i o.bs = R at hS hf ⊢
    have hf2 := sync_fit R.1
    refine g_sq ?_
    refine g_dr mixed ?_
    have hS := hS.drew
    (repeat (first | refine d_ok rfl rfl rfl ?_ | refine d_no rfl rfl ?_))
    rw [cmv_self]
    (repeat (first | refine d_ok rfl rfl rfl ?_ | refine d_no rfl rfl ?_))
    refine d_l1 rfl rfl rfl (hS.b 2 rfl) rfl ?_
    (repeat (first | refine d_ok rfl rfl rfl ?_ | refine d_no rfl rfl ?_))
    refine d_l1 rfl rfl rfl (hS.b 2 rfl) rfl ?_
    have hS := hS.sel [1, 0, 2, 3, 4] rfl rfl
    refine d_cl rfl rfl rfl (c24 hS fun w S2 hS => ⟨rc_1 rfl rfl rfl rfl (hS.b 2 rfl) rfl rc_0, ?_⟩)
    have hS := hS.sel [1, 0, 2, 3, 4] rfl rfl
    refine d_cl rfl rfl rfl (rc72 hS fun w S4 hS => ⟨rc_0, ?_⟩)
    refine d_ok (v := .bool true) rfl rfl (congrArg (fun x => R3.ok (.bool x)) (cmv_self _)) ?_
    (repeat (first | refine d_ok rfl rfl rfl ?_ | refine d_no rfl rfl ?_))
    refine d_fin ?_
    exact g_ret (q_1 rfl (h _ _ _ _ _ _ _ _ _ (hf2.1.trans hf.1) (by have := hf.2; have := hf2.2; omega) (hS.sel [2, 3, 1, 4, 0] rfl rfl)))
  · (repeat (first | refine g_sq ?_ | refine g_rg ?_ | refine g_r0 ?_ | refine g_ok rfl rfl ?_ | refine g_no rfl ?_ | refine g_no0 rfl ?_ | refine g_bk ?_ | refine g_b ?_ | refine g_sk ?_ | refine g_cT rfl ?_ | refine g_cF rfl ?_ | refine g_x rfl ?_ | refine g_lb ?_))
    exact g_ret (q_1 rfl (h _ _ _ _ _ _ _ _ _ rfl (by omega) (hS.sel [0, 1, 2, 3, 4] rfl rfl)))
end
end Go.Proofs.Ytegjocpjmfaigaa
