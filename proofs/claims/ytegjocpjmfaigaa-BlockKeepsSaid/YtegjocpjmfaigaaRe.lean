/- The document's device: operations, crashes, syncs. -/
import Derived.Test.YtegjocpjmfaigaaRd
set_option linter.unusedSimpArgs false
set_option linter.unusedVariables false
namespace Go.Proofs.Ytegjocpjmfaigaa
open Go.En

section
variable {w w0 : World} {S0 S : Nat → Prop} {K : Value → World → Prop} {b : Nat} {D : Dev} {B L : List Res}
theorem rc104 {f : Fal} (hS : St w0 S0 w (RefR S b D :: B)) (h : ∀ w' S', St w0 S0 w' (RefR S' b (D.crash f) :: B) → K (.tuple ⟨[]⟩) w') : CK Try.prog 104 [dp b, falV f] w K := CK.ref hS rb104 h
theorem rb103 (hS : St w0 S0 w [RefR S b D]) (h : ∀ w' S', St w0 S0 w' [RefR S' b D.oper.1] → K (.int .i64 D.oper.2) w') : CK Try.prog 103 [dp b] w K := by
  obtain ⟨x, hx, hS⟩ := RefR.opn hS
  refine call_k Try.func103 k103 Try.ntmps103 (Nat.le_of_ble_eq_true rfl) ?_
  (repeat (first | refine g_sq ?_ | refine g_rg ?_ | refine g_r0 ?_ | refine g_ok rfl rfl ?_ | refine g_no rfl ?_ | refine g_no0 rfl ?_ | refine g_bk ?_ | refine g_b ?_ | refine g_sk ?_ | refine g_cT rfl ?_ | refine g_cF rfl ?_ | refine g_x rfl ?_ | refine g_lb ?_))
  refine g_l1 rfl rfl (hS.b  0 rfl) rfl ?_
  (repeat (first | refine g_sq ?_ | refine g_rg ?_ | refine g_r0 ?_ | refine g_ok rfl rfl ?_ | refine g_no rfl ?_ | refine g_no0 rfl ?_ | refine g_bk ?_ | refine g_b ?_ | refine g_sk ?_ | refine g_cT rfl ?_ | refine g_cF rfl ?_ | refine g_x rfl ?_ | refine g_lb ?_))
  refine g_ef0 rfl (ef_st hS 0 rfl rfl rfl rfl (Nat.le_of_ble_eq_true rfl) rfl fun w hS => ?_)
  (repeat (first | refine g_sq ?_ | refine g_rg ?_ | refine g_r0 ?_ | refine g_ok rfl rfl ?_ | refine g_no rfl ?_ | refine g_no0 rfl ?_ | refine g_bk ?_ | refine g_b ?_ | refine g_sk ?_ | refine g_cT rfl ?_ | refine g_cF rfl ?_ | refine g_x rfl ?_ | refine g_lb ?_))
  refine g_dr mixed ?_
  have hS := hS.drew
  have hS : St _ _ _ [cel b (RefC x.vC x.vL { D with since := inc D.since }) 57, row x.vC 35 1 x.A.length (x.A.map (·.1)), row x.vL 147 2 x.W.length (lw x.W), pool (x.A ++ x.W.map (·.2))] := hS
  (repeat (first | refine d_ok rfl rfl rfl ?_ | refine d_no rfl rfl ?_))
  refine d_l1 rfl rfl rfl (hS.b 0 rfl) rfl ?_
  (repeat (first | refine d_ok rfl rfl rfl ?_ | refine d_no rfl rfl ?_))
  generalize hg : cmv BinOp.geq D.fall.a 1 = g
  have e0 : ¬ (0 < D.fall.a ∧ inc D.since = D.fall.a) → D.oper = ({ D with since := inc D.since, many := inc D.many }, 0) := fun h => by simp only [Dev.oper, if_neg h]
  have e1 : (0 < D.fall.a ∧ inc D.since = D.fall.a) → D.oper = (Dev.crash { D with since := inc D.since } D.fall, 141) := fun h => by simp only [Dev.oper, if_pos h]
  have fin : ∀ {w'}, St w0 S0 w' [cel b (RefC x.vC x.vL { D with since := inc D.since, many := inc D.many }) 57, row x.vC 35 1 x.A.length (x.A.map (·.1)), row x.vL 147 2 x.W.length (lw x.W), pool (x.A ++ x.W.map (·.2))] → ¬ (0 < D.fall.a ∧ inc D.since = D.fall.a) → K (.int .i64 0) w' := by
    intro w' hS hn
    obtain ⟨S', hS⟩ := RefR.cls (x := x) (D := { D with since := inc D.since, many := inc D.many }) (B := []) (b := b) hx hS
    rw [e0 hn] at h
    exact h _ _ hS
  cases g
  all_goals simp only [cmv, decide_eq_true_eq, decide_eq_false_iff_not] at hg
  · have hn : ¬ (0 < D.fall.a ∧ inc D.since = D.fall.a) := by omega
    (repeat (first | refine d_ok rfl rfl rfl ?_ | refine d_no rfl rfl ?_))
    refine d_fin ?_
    (repeat (first | refine g_sq ?_ | refine g_rg ?_ | refine g_r0 ?_ | refine g_ok rfl rfl ?_ | refine g_no rfl ?_ | refine g_no0 rfl ?_ | refine g_bk ?_ | refine g_b ?_ | refine g_sk ?_ | refine g_cT rfl ?_ | refine g_cF rfl ?_ | refine g_x rfl ?_ | refine g_lb ?_))
    refine g_l1 rfl rfl (hS.b  0 rfl) rfl ?_
    (repeat (first | refine g_sq ?_ | refine g_rg ?_ | refine g_r0 ?_ | refine g_ok rfl rfl ?_ | refine g_no rfl ?_ | refine g_no0 rfl ?_ | refine g_bk ?_ | refine g_b ?_ | refine g_sk ?_ | refine g_cT rfl ?_ | refine g_cF rfl ?_ | refine g_x rfl ?_ | refine g_lb ?_))
    refine g_ef0 rfl (ef_st hS 0 rfl rfl rfl rfl (Nat.le_of_ble_eq_true rfl) rfl fun w hS => ?_)
    (repeat (first | refine g_sq ?_ | refine g_rg ?_ | refine g_r0 ?_ | refine g_ok rfl rfl ?_ | refine g_no rfl ?_ | refine g_no0 rfl ?_ | refine g_bk ?_ | refine g_b ?_ | refine g_sk ?_ | refine g_cT rfl ?_ | refine g_cF rfl ?_ | refine g_x rfl ?_ | refine g_lb ?_))
    exact g_ret (q_1 rfl (fin hS hn))
  · (repeat (first | refine d_ok rfl rfl rfl ?_ | refine d_no rfl rfl ?_))
    refine d_l1 rfl rfl rfl (hS.b 0 rfl) rfl ?_
    (repeat (first | refine d_ok rfl rfl rfl ?_ | refine d_no rfl rfl ?_))
    refine d_l1 rfl rfl rfl (hS.b 0 rfl) rfl ?_
    (repeat (first | refine d_ok rfl rfl rfl ?_ | refine d_no rfl rfl ?_))
    refine d_fin ?_
    refine g_cd rfl (fun hc => ?_) (fun hc => ?_)
    all_goals simp only [cmv, decide_eq_true_eq, decide_eq_false_iff_not] at hc
    · have hn : 0 < D.fall.a ∧ inc D.since = D.fall.a := ⟨by omega, hc⟩
      rw [e1 hn] at h
      (repeat (first | refine g_sq ?_ | refine g_rg ?_ | refine g_r0 ?_ | refine g_ok rfl rfl ?_ | refine g_no rfl ?_ | refine g_no0 rfl ?_ | refine g_bk ?_ | refine g_b ?_ | refine g_sk ?_ | refine g_cT rfl ?_ | refine g_cF rfl ?_ | refine g_x rfl ?_ | refine g_lb ?_))
      refine g_lm rfl rfl (hS.b 0 rfl) (Nat.le_of_ble_eq_true rfl) ?_
      (repeat (first | refine g_sq ?_ | refine g_rg ?_ | refine g_r0 ?_ | refine g_ok rfl rfl ?_ | refine g_no rfl ?_ | refine g_no0 rfl ?_ | refine g_bk ?_ | refine g_b ?_ | refine g_sk ?_ | refine g_cT rfl ?_ | refine g_cF rfl ?_ | refine g_x rfl ?_ | refine g_lb ?_))
      obtain ⟨S', hS⟩ := RefR.cls (x := x) (D := { D with since := inc D.since }) (B := []) (b := b) hx hS
      refine g_cl rfl rfl (rc104 (f := D.fall) hS fun w S' hS => ?_)
      (repeat (first | refine g_sq ?_ | refine g_rg ?_ | refine g_r0 ?_ | refine g_ok rfl rfl ?_ | refine g_no rfl ?_ | refine g_no0 rfl ?_ | refine g_bk ?_ | refine g_b ?_ | refine g_sk ?_ | refine g_cT rfl ?_ | refine g_cF rfl ?_ | refine g_x rfl ?_ | refine g_lb ?_))
      exact g_ret (q_1 rfl (h _ _ hS))
    · have hn : ¬ (0 < D.fall.a ∧ inc D.since = D.fall.a) := fun h => hc h.2
      (repeat (first | refine g_sq ?_ | refine g_rg ?_ | refine g_r0 ?_ | refine g_ok rfl rfl ?_ | refine g_no rfl ?_ | refine g_no0 rfl ?_ | refine g_bk ?_ | refine g_b ?_ | refine g_sk ?_ | refine g_cT rfl ?_ | refine g_cF rfl ?_ | refine g_x rfl ?_ | refine g_lb ?_))
      refine g_l1 rfl rfl (hS.b  0 rfl) rfl ?_
      (repeat (first | refine g_sq ?_ | refine g_rg ?_ | refine g_r0 ?_ | refine g_ok rfl rfl ?_ | refine g_no rfl ?_ | refine g_no0 rfl ?_ | refine g_bk ?_ | refine g_b ?_ | refine g_sk ?_ | refine g_cT rfl ?_ | refine g_cF rfl ?_ | refine g_x rfl ?_ | refine g_lb ?_))
      refine g_ef0 rfl (ef_st hS 0 rfl rfl rfl rfl (Nat.le_of_ble_eq_true rfl) rfl fun w hS => ?_)
      (repeat (first | refine g_sq ?_ | refine g_rg ?_ | refine g_r0 ?_ | refine g_ok rfl rfl ?_ | refine g_no rfl ?_ | refine g_no0 rfl ?_ | refine g_bk ?_ | refine g_b ?_ | refine g_sk ?_ | refine g_cT rfl ?_ | refine g_cF rfl ?_ | refine g_x rfl ?_ | refine g_lb ?_))
      exact g_ret (q_1 rfl (fin hS hn))
theorem rc103 (hS : St w0 S0 w (RefR S b D :: B)) (h : ∀ w' S', St w0 S0 w' (RefR S' b D.oper.1 :: B) → K (.int .i64 D.oper.2) w') : CK Try.prog 103 [dp b] w K := CK.ref hS rb103 h
theorem rb75 {f : Fal} (hS : St w0 S0 w [RefR S b D]) (h : ∀ w' S', St w0 S0 w' [RefR S' b (if D.down then D else D.crash f)] → K (.int .i64 (if D.down then 141 else 0)) w') : CK Try.prog 75 [dp b, falV f] w K := by
  refine call_k Try.func75 k75 Try.ntmps75 (Nat.le_of_ble_eq_true rfl) ?_
  (repeat (first | refine g_sq ?_ | refine g_rg ?_ | refine g_r0 ?_ | refine g_ok rfl rfl ?_ | refine g_no rfl ?_ | refine g_no0 rfl ?_ | refine g_bk ?_ | refine g_b ?_ | refine g_sk ?_ | refine g_cT rfl ?_ | refine g_cF rfl ?_ | refine g_x rfl ?_ | refine g_lb ?_))
  refine g_ef rfl (ef_bx hS rfl fun b3 w hS => ?_)
  (repeat (first | refine g_sq ?_ | refine g_rg ?_ | refine g_r0 ?_ | refine g_ok rfl rfl ?_ | refine g_no rfl ?_ | refine g_no0 rfl ?_ | refine g_bk ?_ | refine g_b ?_ | refine g_sk ?_ | refine g_cT rfl ?_ | refine g_cF rfl ?_ | refine g_x rfl ?_ | refine g_lb ?_))
  obtain ⟨_, aC, cC, aL, cL, hB⟩ := RefR.blk hS
  refine g_l1 rfl rfl hB rfl ?_
  (repeat (first | refine g_sq ?_ | refine g_rg ?_ | refine g_r0 ?_ | refine g_ok rfl rfl ?_ | refine g_no rfl ?_ | refine g_no0 rfl ?_ | refine g_bk ?_ | refine g_b ?_ | refine g_sk ?_ | refine g_cT rfl ?_ | refine g_cF rfl ?_ | refine g_x rfl ?_ | refine g_lb ?_))
  generalize hd : D.down = dn
  rw [hd] at h
  cases dn
  · simp only [Bool.false_eq_true, if_false] at h ⊢
    (repeat (first | refine g_sq ?_ | refine g_rg ?_ | refine g_r0 ?_ | refine g_ok rfl rfl ?_ | refine g_no rfl ?_ | refine g_no0 rfl ?_ | refine g_bk ?_ | refine g_b ?_ | refine g_sk ?_ | refine g_cT rfl ?_ | refine g_cF rfl ?_ | refine g_x rfl ?_ | refine g_lb ?_))
    refine g_lm rfl rfl (hS.b 1 rfl) (Nat.le_of_ble_eq_true rfl) ?_
    refine g_cl rfl rfl (rc104 (f := f) (B := [_]) hS fun w S' hS => ?_)
    (repeat (first | refine g_sq ?_ | refine g_rg ?_ | refine g_r0 ?_ | refine g_ok rfl rfl ?_ | refine g_no rfl ?_ | refine g_no0 rfl ?_ | refine g_bk ?_ | refine g_b ?_ | refine g_sk ?_ | refine g_cT rfl ?_ | refine g_cF rfl ?_ | refine g_x rfl ?_ | refine g_lb ?_))
    exact g_ret (q_1 rfl (h _ _ (hS.sel [0] rfl rfl)))
  · simp only [if_true] at h ⊢
    (repeat (first | refine g_sq ?_ | refine g_rg ?_ | refine g_r0 ?_ | refine g_ok rfl rfl ?_ | refine g_no rfl ?_ | refine g_no0 rfl ?_ | refine g_bk ?_ | refine g_b ?_ | refine g_sk ?_ | refine g_cT rfl ?_ | refine g_cF rfl ?_ | refine g_x rfl ?_ | refine g_lb ?_))
    exact g_ret (q_1 rfl (h _ _ (hS.sel [0] rfl rfl)))
theorem rc75 {f : Fal} (hS : St w0 S0 w (RefR S b D :: B)) (h : ∀ w' S', St w0 S0 w' (RefR S' b (if D.down then D else D.crash f) :: B) → K (.int .i64 (if D.down then 141 else 0)) w') : CK Try.prog 75 [dp b, falV f] w K := CK.ref hS rb75 h

theorem putB_all {cs : List (List UInt8)} {x : Int × List UInt8} (hx : x.2.length = 128) (hlt : x.1.toNat < cs.length) (hc : ∀ c ∈ cs, c.length = 128) : putB cs x 128 = cs.set x.1.toNat x.2 := by
  rw [putB, List.take_of_length_le (by omega), List.getD_eq_getElem?_getD, List.getElem?_eq_getElem hlt]
  rw [show (some cs[x.1.toNat]).getD [] = cs[x.1.toNat] from rfl, List.drop_of_length_le (by rw [hc _ (List.getElem_mem hlt)]; omega), List.append_nil]
theorem rb72 (hS : St w0 S0 w [RefR S b D]) (h : ∀ w' S', St w0 S0 w' [RefR S' b D.sync.1] → K (.int .i64 D.sync.2) w') : CK Try.prog 72 [dp b] w K := by
  refine call_k Try.func72 k72 Try.ntmps72 (Nat.le_of_ble_eq_true rfl) ?_
  obtain ⟨_, aC, cC, aL, cL, hB⟩ := RefR.blk hS
  (repeat (first | refine g_sq ?_ | refine g_rg ?_ | refine g_r0 ?_ | refine g_ok rfl rfl ?_ | refine g_no rfl ?_ | refine g_no0 rfl ?_ | refine g_bk ?_ | refine g_b ?_ | refine g_sk ?_ | refine g_cT rfl ?_ | refine g_cF rfl ?_ | refine g_x rfl ?_ | refine g_lb ?_))
  refine g_l1 rfl rfl hB rfl ?_
  (repeat (first | refine g_sq ?_ | refine g_rg ?_ | refine g_r0 ?_ | refine g_ok rfl rfl ?_ | refine g_no rfl ?_ | refine g_no0 rfl ?_ | refine g_bk ?_ | refine g_b ?_ | refine g_sk ?_ | refine g_cT rfl ?_ | refine g_cF rfl ?_ | refine g_x rfl ?_ | refine g_lb ?_))
  generalize hd : D.down = dn
  cases dn
  · (repeat (first | refine g_sq ?_ | refine g_rg ?_ | refine g_r0 ?_ | refine g_ok rfl rfl ?_ | refine g_no rfl ?_ | refine g_no0 rfl ?_ | refine g_bk ?_ | refine g_b ?_ | refine g_sk ?_ | refine g_cT rfl ?_ | refine g_cF rfl ?_ | refine g_x rfl ?_ | refine g_lb ?_))
    refine g_cl rfl rfl (rc103 hS fun w S' hS => ?_)
    (repeat (first | refine g_sq ?_ | refine g_rg ?_ | refine g_r0 ?_ | refine g_ok rfl rfl ?_ | refine g_no rfl ?_ | refine g_no0 rfl ?_ | refine g_bk ?_ | refine g_b ?_ | refine g_sk ?_ | refine g_cT rfl ?_ | refine g_cF rfl ?_ | refine g_x rfl ?_ | refine g_lb ?_))
    refine g_cd rfl (fun hc => ?_) (fun hc => ?_)
    all_goals simp only [cmv, Bool.not_eq_true', Bool.not_eq_false', decide_eq_true_eq, decide_eq_false_iff_not] at hc
    · have e : D.sync = D.oper := by simp [Dev.sync, hd, hc]
      rw [e] at h
      (repeat (first | refine g_sq ?_ | refine g_rg ?_ | refine g_r0 ?_ | refine g_ok rfl rfl ?_ | refine g_no rfl ?_ | refine g_no0 rfl ?_ | refine g_bk ?_ | refine g_b ?_ | refine g_sk ?_ | refine g_cT rfl ?_ | refine g_cF rfl ?_ | refine g_x rfl ?_ | refine g_lb ?_))
      exact g_ret (q_1 rfl (h _ _ hS))
    · have e : D.sync = (D.oper.1.sync1, 0) := by simp [Dev.sync, hd, hc]
      rw [e] at h
      generalize D.oper.1 = D1 at h hS
      clear hB
      obtain ⟨x, hx, hS⟩ := RefR.opn hS
      obtain ⟨vC, vL, A0, W⟩ := x
      have hcl : A0.length = D1.cells.length := hx.cl
      have hwl : W.length = D1.waits.length := hx.wl
      have hwn := hx.1.2.2.2
      have hc0 := List.length_pos_iff.2 hx.1.1
      obtain ⟨aC, mC, cC, rfl⟩ := hS.rowb 1 rfl (by show 0 < A0.length; omega)
      obtain ⟨aL, cL, rfl⟩ : ∃ aL cL, vL = .slice aL W.length cL := hS.rlen 2 rfl
      (repeat (first | refine g_sq ?_ | refine g_rg ?_ | refine g_r0 ?_ | refine g_ok rfl rfl ?_ | refine g_no rfl ?_ | refine g_no0 rfl ?_ | refine g_bk ?_ | refine g_b ?_ | refine g_sk ?_ | refine g_cT rfl ?_ | refine g_cF rfl ?_ | refine g_x rfl ?_ | refine g_lb ?_))
      refine g_at 2 [(0, dp b)] (fun w => ∃ A, A.length = D1.cells.length ∧ A.map (·.2) = putAll D1.cells D1.waits ∧ St w0 S0 w [cel b (RefC (.slice (some aC) mC cC) (.slice aL W.length cL) D1) 57, row (.slice (some aC) mC cC) 35 1 A.length (A.map (·.1)), row (.slice aL W.length cL) 147 2 W.length (lw W), pool (A ++ W.map (·.2))]) rfl ?_ ?_
      · refine g_lp (ι := Nat) (fun k => [(0, dp b), (4, .int .i64 k)])
          (fun k w => k ≤ W.length ∧ ∃ A, A.length = D1.cells.length ∧ A.map (·.2) = putAll D1.cells (D1.waits.take k) ∧ St w0 S0 w [cel b (RefC (.slice (some aC) mC cC) (.slice aL W.length cL) D1) 57, row (.slice (some aC) mC cC) 35 1 A.length (A.map (·.1)), row (.slice aL W.length cL) 147 2 W.length (lw W), pool (A ++ W.map (·.2))]) (fun k => W.length - k) 0 ⟨rfl, rfl, trivial⟩ ⟨Nat.zero_le _, A0, hcl, by rw [List.take_zero]; exact hx.2.1, hS⟩ ?_
        clear hS
        rintro k w ⟨hk, A, hA, hAc, hS⟩
        (repeat (first | refine g_sq ?_ | refine g_rg ?_ | refine g_r0 ?_ | refine g_ok rfl rfl ?_ | refine g_no rfl ?_ | refine g_no0 rfl ?_ | refine g_bk ?_ | refine g_b ?_ | refine g_sk ?_ | refine g_cT rfl ?_ | refine g_cF rfl ?_ | refine g_x rfl ?_ | refine g_lb ?_))
        refine g_l1 rfl rfl (hS.b  0 rfl) rfl ?_
        (repeat (first | refine g_sq ?_ | refine g_rg ?_ | refine g_r0 ?_ | refine g_ok rfl rfl ?_ | refine g_no rfl ?_ | refine g_no0 rfl ?_ | refine g_bk ?_ | refine g_b ?_ | refine g_sk ?_ | refine g_cT rfl ?_ | refine g_cF rfl ?_ | refine g_x rfl ?_ | refine g_lb ?_))
        refine g_cd rfl (fun hc => ?_) (fun hc => ?_)
        all_goals simp only [cmv, decide_eq_true_eq, decide_eq_false_iff_not] at hc
        · have hltk : k < W.length := by omega
          have hy : W[k]? = some W[k] := List.getElem?_eq_getElem hltk
          generalize W[k] = y at hy
          have hyd : D1.waits[k]? = some (y.1, y.2.2) := by rw [← hx.2.2, List.getElem?_map, hy]; rfl
          have hyw := hx.1.2.2.1 _ (List.mem_of_getElem? hyd)
          have hlt : y.1.toNat < A.length := by have := hyw.2; simp only at this; omega
          have hry : Rd y.2.1 5 1 128 (bys y.2.2) w := by
            have := hS.ok 3 _ rfl y.2 (List.mem_append_right _ (List.mem_map.2 ⟨y, List.mem_of_getElem? hy, rfl⟩))
            rwa [hyw.1] at this
          rcases hS.ok 2 _ rfl with ⟨_, hv, _⟩ | ⟨bL, _, restL, hv, _, _, _, hBL⟩
          · have : W.length = 0 := hv
            omega
          cases hv
          obtain ⟨g1, g2⟩ := lw_get restL hy
          rcases hS.ok 1 _ rfl with ⟨hv, _⟩ | ⟨bC, capC, restC, hv, hcapC, hxlC, hlC, hBC⟩
          · cases hv
          cases hv
          obtain ⟨by', oy, cy, ly, ey, _⟩ := Rd.block hry (by decide)
          (repeat (first | refine g_sq ?_ | refine g_rg ?_ | refine g_r0 ?_ | refine g_ok rfl rfl ?_ | refine g_no rfl ?_ | refine g_no0 rfl ?_ | refine g_bk ?_ | refine g_b ?_ | refine g_sk ?_ | refine g_cT rfl ?_ | refine g_cF rfl ?_ | refine g_x rfl ?_ | refine g_lb ?_))
          refine g_dr mixed ?_
          have hS := hS.drew
          have hBL : Blk w.drew bL (lw W ++ restL) 147 := hBL
          (repeat (first | refine d_ok rfl rfl rfl ?_ | refine d_no rfl rfl ?_))
          refine d_l1 rfl rfl rfl (hS.b 0 rfl) rfl ?_
          (repeat (first | refine d_ok rfl rfl rfl ?_ | refine d_no rfl rfl ?_))
          refine d_l1 rfl rfl rfl (hS.b 0 rfl) rfl ?_
          (repeat (first | refine d_ok rfl rfl rfl ?_ | refine d_no rfl rfl ?_))
          refine d_rq rfl rfl rfl ⟨by omega, by omega⟩ ?_
          (repeat (first | refine d_ok rfl rfl rfl ?_ | refine d_no rfl rfl ?_))
          refine d_l1 (v := .int .i64 y.1) rfl rfl rfl hBL (by rw [Nat.zero_add, Nat.add_zero]; exact g1) ?_
          (repeat (first | refine d_ok rfl rfl rfl ?_ | refine d_no rfl rfl ?_))
          refine d_l1 rfl rfl rfl (hS.b 0 rfl) rfl ?_
          (repeat (first | refine d_ok rfl rfl rfl ?_ | refine d_no rfl rfl ?_))
          refine d_rq rfl rfl rfl ⟨by omega, by omega⟩ ?_
          (repeat (first | refine d_ok rfl rfl rfl ?_ | refine d_no rfl rfl ?_))
          refine d_l1 (v := .slice (some ⟨by', oy, none⟩) 128 cy) rfl rfl rfl hBL (by rw [Nat.zero_add, ← ey]; exact g2) ?_
          refine d_rq rfl rfl rfl ⟨hyw.2.1, by have := hyw.2; simp only at this; omega⟩ ?_
          obtain ⟨_, capC', restC', hv, h1C, h2C, hS⟩ := hS.open_row 1 rfl ⟨_, _, _, rfl⟩
          cases hv
          refine d_e0 rfl rfl ?_
          refine ef_st hS 1 rfl rfl rfl rfl (by simp only [Nat.zero_add, List.length_append, List.length_map]; omega) rfl fun w1 hS => ⟨rc_0, ?_⟩
          refine d_fin ?_
          have hset : spl (A.map (·.1) ++ restC') (0 + y.1.toNat * 1) [.slice (some ⟨by', oy, none⟩) 128 cy] = (A.set y.1.toNat y.2).map (·.1) ++ restC' := by
            rw [List.map_set, Nat.zero_add, Nat.mul_one, ← List.set_append_left _ _ (by simpa using hlt), ey]
            rw [List.set_eq_take_append_cons_drop, if_pos (by simp; omega)]
            simp [spl]
          have hS := hS.ceq 1 rfl hset
          have hS := hS.close_row (sz := 1) (n := A.length) (cap := cC) 1 rfl h1C (by simp) (List.prefix_append _ _) (by rw [← h2C]; simp)
          have hS := hS.pool_sub (M' := A.set y.1.toNat y.2 ++ W.map (·.2)) 3 rfl (fun q hq => by
            rcases List.mem_append.1 hq with hq | hq
            · rcases List.mem_or_eq_of_mem_set hq with hq | hq
              · exact List.mem_append_left _ hq
              · subst hq; exact List.mem_append_right _ (List.mem_map.2 ⟨y, List.mem_of_getElem? hy, rfl⟩)
            · exact List.mem_append_right _ hq)
          (repeat (first | refine g_sq ?_ | refine g_rg ?_ | refine g_r0 ?_ | refine g_ok rfl rfl ?_ | refine g_no rfl ?_ | refine g_no0 rfl ?_ | refine g_bk ?_ | refine g_b ?_ | refine g_sk ?_ | refine g_cT rfl ?_ | refine g_cF rfl ?_ | refine g_x rfl ?_ | refine g_lb ?_))
          refine g_rq rfl rfl (in64 (by simp only [arv]; omega)) ?_
          (repeat (first | refine g_sq ?_ | refine g_rg ?_ | refine g_r0 ?_ | refine g_ok rfl rfl ?_ | refine g_no rfl ?_ | refine g_no0 rfl ?_ | refine g_bk ?_ | refine g_b ?_ | refine g_sk ?_ | refine g_cT rfl ?_ | refine g_cF rfl ?_ | refine g_x rfl ?_ | refine g_lb ?_))
          refine g_l (k + 1) ⟨rfl, rfl, trivial⟩ ⟨by omega, A.set y.1.toNat y.2, by simpa using hA, ?_, ?_⟩ (by omega)
          · have hal : y.1.toNat < (A.map (·.2)).length := by simpa using hlt
            rw [putAll_step hyd, List.map_set, ← hAc]
            exact (putB_all (x := (y.1, y.2.2)) hyw.1 hal (by rw [hAc]; exact putAll_mem _ _ hx.1.2.1 (fun z hz => hx.1.2.2.1 z (List.mem_of_mem_take hz)))).symm
          · rw [List.length_set]
            exact hS
        · have : k = W.length := by omega
          subst this
          rw [hwl, List.take_length] at hAc
          (repeat (first | refine g_sq ?_ | refine g_rg ?_ | refine g_r0 ?_ | refine g_ok rfl rfl ?_ | refine g_no rfl ?_ | refine g_no0 rfl ?_ | refine g_bk ?_ | refine g_b ?_ | refine g_sk ?_ | refine g_cT rfl ?_ | refine g_cF rfl ?_ | refine g_x rfl ?_ | refine g_lb ?_))
          exact g_j ⟨rfl, trivial⟩ ⟨A, hA, hAc, hS⟩
      · rintro T w hT ⟨A, hA, hAc, hS⟩
        refine g_wkc hT ?_
        (repeat (first | refine g_sq ?_ | refine g_rg ?_ | refine g_r0 ?_ | refine g_ok rfl rfl ?_ | refine g_no rfl ?_ | refine g_no0 rfl ?_ | refine g_bk ?_ | refine g_b ?_ | refine g_sk ?_ | refine g_cT rfl ?_ | refine g_cF rfl ?_ | refine g_x rfl ?_ | refine g_lb ?_))
        refine g_ef0 rfl (ef_st hS 0 rfl rfl rfl rfl (Nat.le_of_ble_eq_true rfl) rfl fun w hS => ?_)
        (repeat (first | refine g_sq ?_ | refine g_rg ?_ | refine g_r0 ?_ | refine g_ok rfl rfl ?_ | refine g_no rfl ?_ | refine g_no0 rfl ?_ | refine g_bk ?_ | refine g_b ?_ | refine g_sk ?_ | refine g_cT rfl ?_ | refine g_cF rfl ?_ | refine g_x rfl ?_ | refine g_lb ?_))
        refine g_ret (q_1 rfl ?_)
        have hS := (hS.pool_sub (M' := A ++ []) 3 rfl (fun p hp => List.mem_append_left _ (by simpa using hp))).nilrow 147 2
        have hS := hS.sel [0, 1, 4, 3] rfl rfl
        obtain ⟨S', hS⟩ := RefR.cls (x := ⟨.slice (some aC) mC cC, .slice none 0 0, A, []⟩) (D := D1.sync1) (B := []) (b := b) ⟨hx.1.sync1, hAc, rfl⟩ hS
        exact h _ _ hS
  · have e : D.sync = (D, 141) := by simp [Dev.sync, hd]
    rw [e] at h
    (repeat (first | refine g_sq ?_ | refine g_rg ?_ | refine g_r0 ?_ | refine g_ok rfl rfl ?_ | refine g_no rfl ?_ | refine g_no0 rfl ?_ | refine g_bk ?_ | refine g_b ?_ | refine g_sk ?_ | refine g_cT rfl ?_ | refine g_cF rfl ?_ | refine g_x rfl ?_ | refine g_lb ?_))
    exact g_ret (q_1 rfl (h _ _ hS))
theorem rc72 (hS : St w0 S0 w (RefR S b D :: B)) (h : ∀ w' S', St w0 S0 w' (RefR S' b D.sync.1 :: B) → K (.int .i64 D.sync.2) w') : CK Try.prog 72 [dp b] w K := CK.ref hS rb72 h
end
end Go.Proofs.Ytegjocpjmfaigaa
