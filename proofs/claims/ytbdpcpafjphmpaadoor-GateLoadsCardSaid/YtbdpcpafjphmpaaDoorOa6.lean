/- Records loaded, by the document. -/
import Derived.Test.YtbdpcpafjphmpaaDoorOa5
import Derived.Test.YtbdpcpafjphmpaaDoorEnS
set_option linter.unusedSimpArgs false
set_option linter.unusedVariables false
namespace Go.Proofs.YtbdpcpafjphmpaaDoor
open Go.En

def dlt' (x y : Rec) : Prop := dotR x.site x.cnt y.site y.cnt = -1
instance (x y : Rec) : Decidable (dlt' x y) := by unfold dlt'; infer_instance
theorem dlt_iff (x y : Rec) : dlt' x y ↔ x.site < y.site ∨ (x.site = y.site ∧ x.cnt < y.cnt) := by
  unfold dlt' dotR
  constructor
  · intro h
    split at h
    · assumption
    · split at h <;> omega
  · intro h
    rw [if_pos h]
theorem dlt_trans {x y z : Rec} (h : dlt' x y) (k : dlt' y z) : dlt' x z := by
  rw [dlt_iff] at *
  omega
/-- may these records be loaded? -/
def ldB (d : List Rec) : Prop := (∀ x ∈ d, recB x = true) ∧ d.Pairwise dlt'
theorem ldB_take {d : List Rec} (h : ldB d) (k : Nat) : ldB (d.take k) := ⟨fun x hx => h.1 x (List.mem_of_mem_take hx), h.2.sublist (List.take_sublist k d)⟩
theorem ldB_next {d : List Rec} {k : Nat} (hp : ldB (d.take k)) (hk : k < d.length) (hb : recB d[k] = true) (h : ∀ h0 : 0 < k, dlt' (d[k - 1]'(by omega)) d[k]) : ldB (d.take (k + 1)) := by
  rw [List.take_succ_eq_append_getElem hk]
  refine ⟨fun x hx => ?_, ?_⟩
  · rcases List.mem_append.1 hx with hx | hx
    · exact hp.1 x hx
    · rw [List.mem_singleton.1 hx]; exact hb
  · rw [List.pairwise_append]
    refine ⟨hp.2, List.pairwise_singleton _ _, fun x hx y hy => ?_⟩
    rw [List.mem_singleton.1 hy]
    obtain ⟨i, hi, rfl⟩ := List.mem_take_iff_getElem.1 hx
    have h0 : 0 < k := by omega
    by_cases e : i = k - 1
    · subst e; exact h h0
    · refine dlt_trans ?_ (h h0)
      have h1 := List.pairwise_iff_getElem.1 hp.2 i (k - 1) (by rw [List.length_take]; omega) (by rw [List.length_take]; omega) (by omega)
      rw [List.getElem_take, List.getElem_take] at h1
      exact h1
theorem ldB_bad {d : List Rec} {k : Nat} (hk : k < d.length) (h : recB d[k] = false) : ¬ ldB d := fun hl => by
  have := hl.1 _ (List.getElem_mem hk)
  rw [h] at this
  cases this
theorem ldB_ord {d : List Rec} {k : Nat} (h0 : 0 < k) (hk : k < d.length) (h : ¬ dlt' (d[k - 1]'(by omega)) d[k]) : ¬ ldB d := fun hl =>
  h (List.pairwise_iff_getElem.1 hl.2 (k - 1) k (by omega) hk (by omega))
theorem rd_dot {l : List Value} {off n : Nat} {d : List Rec} (h : (l.drop off).take (n * 52) = fl rc d) (hn : d.length = n) {i : Nat} (hi : i < d.length) : (l.drop (off + i * 52)).take 2 = dc d[i].site d[i].cnt := by
  have h1 := congrArg (List.take 2) (rd_at rc_len h hn hi)
  rw [List.take_take] at h1
  exact h1
theorem dotR_3 (a b c d : Int) : dotR a b c d = -1 ∨ dotR a b c d = 0 ∨ dotR a b c d = 1 := by
  unfold dotR
  split
  · simp
  · split <;> simp
theorem evcs_1 {T : TT} {a : Operand} {sz : Nat} {cs : List Value} (ha : ev T a = some (.agg ⟨cs⟩)) (hl : cs.length = sz) : evcs T sz [a] = some cs := by
  subst hl
  have e : Nat.beq cs.length cs.length = true := Nat.beq_refl _
  unfold evcs evcs
  rw [ha]
  show (match Nat.beq cs.length cs.length with | true => some (cs ++ []) | false => none) = _
  rw [e, List.append_nil]
section
variable {w w0 : World} {S0 : Nat → Prop} {L B : List Res} {K : Value → World → Prop} {s : Bs} {E0 E1 : Nat}
set_option maxHeartbeats 4000000 in
theorem r_Load {d : List Rec} {v : Value} {n : Nat} (hd : d.length = n) (hn : n < 2000000) (hr : Rd v E0 52 n (fl rc d) w)
    (h1 : ¬ ldB d → ∀ w', St w (fun _ => False) w' [] → K (.tuple ⟨[.pointer none, .int .i64 220]⟩) w')
    (h2 : ldB d → ∀ bG vo w', St w (fun _ => False) w' [cel bG [vo] 42, row vo 31 52 n (fl rc d)] → K (.tuple ⟨[dp bG, .int .i64 0]⟩) w') : CK Tryd.prog 5 [v] w K := by
  have hS := St.nil w (fun _ => False)
  have hrr : ∀ {L : List Res} (w' : World), St w (fun _ => False) w' L → Rd v E0 52 n (fl rc d) w' := fun w' hS => hr.same fun b hb => hS.fr.kept b (hr.lt b hb) (fun h => h)
  obtain ⟨a, c, rfl⟩ := hr.form
  refine call_k Tryd.func5 k5 Tryd.ntmps5 (Nat.le_of_ble_eq_true rfl) ?_
  (repeat (first | refine g_sq ?_ | refine g_rg ?_ | refine g_r0 ?_ | refine g_ok rfl rfl ?_ | refine g_no rfl ?_ | refine g_no0 rfl ?_ | refine g_bk ?_ | refine g_b ?_ | refine g_sk ?_ | refine g_cT rfl ?_ | refine g_cF rfl ?_ | refine g_x rfl ?_ | refine g_lb ?_))
  refine g_ef rfl (ef_bx hS rfl fun bG w1 hS => ?_)
  replace hS : St w (fun _ => False) w1 [cel bG [.slice none 0 0] 42] := hS
  replace hS := hS.nilrow 31 52
  replace hS : St w (fun _ => False) w1 [cel bG [.slice none 0 0] 42, row (.slice none 0 0) 31 52 0 []] := hS
  (repeat (first | refine g_sq ?_ | refine g_rg ?_ | refine g_r0 ?_ | refine g_ok rfl rfl ?_ | refine g_no rfl ?_ | refine g_no0 rfl ?_ | refine g_bk ?_ | refine g_b ?_ | refine g_sk ?_ | refine g_cT rfl ?_ | refine g_cF rfl ?_ | refine g_x rfl ?_ | refine g_lb ?_))
  refine g_lp (ι := Nat × Value) (fun x => [(0, .slice a n c), (4, dp bG), (5, .int .i64 x.1)]) (fun x w' => x.1 ≤ n ∧ ldB (d.take x.1) ∧ St w (fun _ => False) w' [cel bG [x.2] 42, row x.2 31 52 x.1 (fl rc (d.take x.1))]) (fun x => n - x.1) (0, .slice none 0 0)
    ⟨rfl, rfl, rfl, trivial⟩ ⟨Nat.zero_le _, ⟨fun x hx => absurd hx List.not_mem_nil, List.Pairwise.nil⟩, hS⟩ ?_
  clear hS
  rintro ⟨k, vo⟩ w1 ⟨hk, hI, hS⟩
  dsimp only at hk hI hS ⊢
  (repeat (first | refine g_sq ?_ | refine g_rg ?_ | refine g_r0 ?_ | refine g_ok rfl rfl ?_ | refine g_no rfl ?_ | refine g_no0 rfl ?_ | refine g_bk ?_ | refine g_b ?_ | refine g_sk ?_ | refine g_cT rfl ?_ | refine g_cF rfl ?_ | refine g_x rfl ?_ | refine g_lb ?_))
  (refine g_cd rfl (fun hlt => ?_) (fun hlt => ?_) <;> simp only [cmv, arv, Bool.not_eq_true', Bool.not_eq_false', decide_eq_true_eq, decide_eq_false_iff_not] at hlt)
  · have hlt : k < d.length := by omega
    have step : ∀ {L : List Res} {w1 : World}, St w (fun _ => False) w1 L → ∃ b off l, a = some ⟨b, off, none⟩ ∧ n ≤ c ∧ off + c * 52 ≤ l.length ∧ (l.drop off).take (n * 52) = fl rc d ∧ Blr w1 b l E0 := fun {L} {w1} hS => by
      obtain ⟨b, off, cap, l, e1, hcap, hl, hx, hb⟩ := Rd.block (hrr _ hS) (by omega)
      cases e1
      exact ⟨b, off, l, rfl, hcap, hl, hx, hb⟩
    obtain ⟨b, off, l, rfl, hcap, hl, hx, hb⟩ := step hS.drew
    have hbd : off + k * 52 + 52 ≤ l.length := by have : (k + 1) * 52 ≤ c * 52 := Nat.mul_le_mul_right 52 (by omega); omega
    (repeat (first | refine g_sq ?_ | refine g_rg ?_ | refine g_r0 ?_ | refine g_ok rfl rfl ?_ | refine g_no rfl ?_ | refine g_no0 rfl ?_ | refine g_bk ?_ | refine g_b ?_ | refine g_sk ?_ | refine g_cT rfl ?_ | refine g_cF rfl ?_ | refine g_x rfl ?_ | refine g_lb ?_))
    refine g_atx (ι := Unit) 2 (fun _ => [(0, .slice (some ⟨b, off, none⟩) n c), (4, dp bG), (5, .int .i64 k)]) (fun _ w' => ldB (d.take (k + 1)) ∧ St w (fun _ => False) w' [cel bG [vo] 42, row vo 31 52 k (fl rc (d.take k))]) rfl ?_ ?_
    · refine g_dr mixed ?_
      replace hS := hS.drew
      (repeat (first | refine d_ok rfl rfl rfl ?_ | refine d_no rfl rfl ?_))
      refine d_rq rfl rfl rfl ⟨by omega, by omega⟩ ?_
      refine d_qt rfl rfl rfl (qt_ldmr rfl hb hbd) ?_
      rw [Int.toNat_natCast, rd_at rc_len hx hd hlt]
      refine d_cl rfl rfl rfl (r_recCheck fun w1 h' => ?_)
      replace hS := hS.call0.2 _ _ h'
      rw [List.append_nil] at hS
      clear h'
      refine ⟨rc_0, ?_⟩
      cases hB : recB d[k]
      · rw [recE_no hB]
        (repeat (first | refine d_ok rfl rfl rfl ?_ | refine d_no rfl rfl ?_))
        refine d_en rfl rfl rc_0 ?_
        (repeat (first | refine d_ok rfl rfl rfl ?_ | refine d_no rfl rfl ?_))
        refine d_fin ?_
        (repeat (first | refine g_sq ?_ | refine g_rg ?_ | refine g_r0 ?_ | refine g_ok rfl rfl ?_ | refine g_no rfl ?_ | refine g_no0 rfl ?_ | refine g_bk ?_ | refine g_b ?_ | refine g_sk ?_ | refine g_cT rfl ?_ | refine g_cF rfl ?_ | refine g_x rfl ?_ | refine g_lb ?_))
        exact g_ret (q_2 rfl rfl (h1 (ldB_bad hlt hB) _ (hS.sel [] rfl rfl)))
      · rw [recE_ok hB]
        (repeat (first | refine d_ok rfl rfl rfl ?_ | refine d_no rfl rfl ?_))
        (generalize q1 : cmv _ _ _ = q; cases q <;> simp only [cmv, arv, Bool.not_eq_true', Bool.not_eq_false', decide_eq_true_eq, decide_eq_false_iff_not] at q1 <;> first | (exfalso; omega) | skip)
        · (repeat (first | refine d_ok rfl rfl rfl ?_ | refine d_no rfl rfl ?_))
          refine d_en rfl rfl rc_0 ?_
          (repeat (first | refine d_ok rfl rfl rfl ?_ | refine d_no rfl rfl ?_))
          refine d_fin ?_
          (repeat (first | refine g_sq ?_ | refine g_rg ?_ | refine g_r0 ?_ | refine g_ok rfl rfl ?_ | refine g_no rfl ?_ | refine g_no0 rfl ?_ | refine g_bk ?_ | refine g_b ?_ | refine g_sk ?_ | refine g_cT rfl ?_ | refine g_cF rfl ?_ | refine g_x rfl ?_ | refine g_lb ?_))
          exact g_jx () ⟨rfl, rfl, rfl, trivial⟩ ⟨ldB_next hI hlt hB (fun h0 => by omega), hS⟩
        · have ek1 : (arv BinOp.sub (k : Int) 1) = ((k - 1 : Nat) : Int) := by simp only [arv]; omega
          obtain ⟨b2, off2, l2, e2, hcap2, hl2, hx2, hb2⟩ := step hS
          cases e2
          have hbd1 : off + (k - 1) * 52 + 52 ≤ l2.length := by have : (k - 1 + 1) * 52 ≤ c * 52 := Nat.mul_le_mul_right 52 (by omega); omega
          have hbd2 : off + k * 52 + 52 ≤ l2.length := by have : (k + 1) * 52 ≤ c * 52 := Nat.mul_le_mul_right 52 (by omega); omega
          (repeat (first | refine d_ok rfl rfl rfl ?_ | refine d_no rfl rfl ?_))
          refine d_rq rfl rfl rfl (in64 (by rw [ek1]; omega)) ?_
          rw [ek1]
          refine d_rq rfl rfl rfl ⟨by omega, by omega⟩ ?_
          (repeat (first | refine d_ok rfl rfl rfl ?_ | refine d_no rfl rfl ?_))
          refine d_qt rfl rfl rfl (qt_ldmr rfl hb2 (by rw [Int.toNat_natCast]; omega)) ?_
          rw [Int.toNat_natCast, show (l2.drop (off + (k - 1) * 52 + 0)).take 2 = _ from rd_dot hx2 hd (show k - 1 < d.length by omega)]
          (repeat (first | refine d_ok rfl rfl rfl ?_ | refine d_no rfl rfl ?_))
          refine d_rq rfl rfl rfl ⟨by omega, by omega⟩ ?_
          (repeat (first | refine d_ok rfl rfl rfl ?_ | refine d_no rfl rfl ?_))
          refine d_qt rfl rfl rfl (qt_ldmr rfl hb2 (by rw [Int.toNat_natCast]; omega)) ?_
          rw [Int.toNat_natCast, show (l2.drop (off + k * 52 + 0)).take 2 = _ from rd_dot hx2 hd hlt]
          refine d_cl rfl rfl rfl (r_dotCmp fun w1 h' => ?_)
          replace hS := hS.call0.2 _ _ h'
          rw [List.append_nil] at hS
          clear h'
          refine ⟨rc_0, ?_⟩
          by_cases hlt' : dlt' (d[k - 1]'(by omega)) d[k]
          · rw [show dotR (d[k - 1]'(by omega)).site (d[k - 1]'(by omega)).cnt d[k].site d[k].cnt = -1 from hlt']
            (repeat (first | refine d_ok rfl rfl rfl ?_ | refine d_no rfl rfl ?_))
            refine d_fin ?_
            (repeat (first | refine g_sq ?_ | refine g_rg ?_ | refine g_r0 ?_ | refine g_ok rfl rfl ?_ | refine g_no rfl ?_ | refine g_no0 rfl ?_ | refine g_bk ?_ | refine g_b ?_ | refine g_sk ?_ | refine g_cT rfl ?_ | refine g_cF rfl ?_ | refine g_x rfl ?_ | refine g_lb ?_))
            exact g_jx () ⟨rfl, rfl, rfl, trivial⟩ ⟨ldB_next hI hlt hB (fun _ => hlt'), hS⟩
          · (repeat (first | refine d_ok rfl rfl rfl ?_ | refine d_no rfl rfl ?_))
            rw [show cmv BinOp.neq (dotR (d[k - 1]'(by omega)).site (d[k - 1]'(by omega)).cnt d[k].site d[k].cnt) (-1) = true from cmv_ye hlt']
            (repeat (first | refine d_ok rfl rfl rfl ?_ | refine d_no rfl rfl ?_))
            refine d_fin ?_
            (repeat (first | refine g_sq ?_ | refine g_rg ?_ | refine g_r0 ?_ | refine g_ok rfl rfl ?_ | refine g_no rfl ?_ | refine g_no0 rfl ?_ | refine g_bk ?_ | refine g_b ?_ | refine g_sk ?_ | refine g_cT rfl ?_ | refine g_cF rfl ?_ | refine g_x rfl ?_ | refine g_lb ?_))
            exact g_ret (q_2 rfl rfl (h1 (ldB_ord (by omega) hlt hlt') _ (hS.sel [] rfl rfl)))
    · clear hS
      rintro _ T w1 hT ⟨hI2, hS⟩
      refine g_wkc hT ?_
      obtain ⟨b2, off2, l2, e2, hcap2, hl2, hx2, hb2⟩ := step hS.drew
      cases e2
      have hbd2 : off + k * 52 + 52 ≤ l2.length := by have : (k + 1) * 52 ≤ c * 52 := Nat.mul_le_mul_right 52 (by omega); omega
      have hone : (rc d[k]).all (·.oneCell') = true := List.all_eq_true.2 (rc_one d[k])
      (repeat (first | refine g_sq ?_ | refine g_rg ?_ | refine g_r0 ?_ | refine g_ok rfl rfl ?_ | refine g_no rfl ?_ | refine g_no0 rfl ?_ | refine g_bk ?_ | refine g_b ?_ | refine g_sk ?_ | refine g_cT rfl ?_ | refine g_cF rfl ?_ | refine g_x rfl ?_ | refine g_lb ?_))
      refine g_dr mixed ?_
      replace hS := hS.drew
      (repeat (first | refine d_ok rfl rfl rfl ?_ | refine d_no rfl rfl ?_))
      refine d_l1 rfl rfl rfl (hS.b 0 rfl) (v := vo) rfl ?_
      (repeat (first | refine d_ok rfl rfl rfl ?_ | refine d_no rfl rfl ?_))
      refine d_rq rfl rfl rfl ⟨by omega, by omega⟩ ?_
      refine d_qt rfl rfl rfl (qt_ldmr rfl hb2 hbd2) ?_
      rw [Int.toNat_natCast, rd_at rc_len hx2 hd hlt]
      refine d_e rfl rfl ?_
      refine ef_bl (rs := rc d[k]) hS (evcs_1 rfl (rc_len _)) fun g w2 hS => ⟨rc_1 rfl rfl rfl rfl (hS.b 0 rfl) rfl rc_0, ?_⟩
      refine d_e rfl rfl ?_
      refine ef_ap (bytes := 136) (n := k) (m := 1) (ys := rc d[k]) hS 1 rfl rfl rfl (.inl ⟨31, .inr ⟨g, 0, 1, _, rfl, Nat.le_refl _, Nat.le_of_eq (by rw [rc_len]), by rw [List.drop_zero, List.take_of_length_le (Nat.le_of_eq (rc_len _))], (hS.b 2 rfl).r⟩⟩) hone (by omega) (by omega) fun v1 w2 hS => ⟨rc_0, ?_⟩
      have hap : fl rc (d.take k) ++ rc d[k] = fl rc (d.take (k + 1)) := by
        rw [List.take_succ_eq_append_getElem hlt, fl_app]
        simp [fl]
      rw [hap] at hS
      obtain ⟨a1, c1, rfl⟩ := hS.rlen 1 rfl
      (repeat (first | refine d_ok rfl rfl rfl ?_ | refine d_no rfl rfl ?_))
      refine d_e0 rfl rfl ?_
      refine ef_st hS 0 rfl rfl rfl rfl (Nat.le_of_ble_eq_true rfl) rfl fun w2 hS => ⟨rc_0, ?_⟩
      refine d_fin ?_
      (repeat (first | refine g_sq ?_ | refine g_rg ?_ | refine g_r0 ?_ | refine g_ok rfl rfl ?_ | refine g_no rfl ?_ | refine g_no0 rfl ?_ | refine g_bk ?_ | refine g_b ?_ | refine g_sk ?_ | refine g_cT rfl ?_ | refine g_cF rfl ?_ | refine g_x rfl ?_ | refine g_lb ?_))
      refine g_rq rfl rfl (in64 (by simp only [arv]; omega)) ?_
      (repeat (first | refine g_sq ?_ | refine g_rg ?_ | refine g_r0 ?_ | refine g_ok rfl rfl ?_ | refine g_no rfl ?_ | refine g_no0 rfl ?_ | refine g_bk ?_ | refine g_b ?_ | refine g_sk ?_ | refine g_cT rfl ?_ | refine g_cF rfl ?_ | refine g_x rfl ?_ | refine g_lb ?_))
      exact g_l (k + 1, .slice a1 (k + 1) c1) ⟨rfl, rfl, rfl, trivial⟩ ⟨by simp only; omega, hI2, hS.sel [0, 1] rfl rfl⟩ (by simp only; omega)
  · have ek : k = n := by omega
    subst ek
    rw [List.take_of_length_le (by omega)] at hI hS
    (repeat (first | refine g_sq ?_ | refine g_rg ?_ | refine g_r0 ?_ | refine g_ok rfl rfl ?_ | refine g_no rfl ?_ | refine g_no0 rfl ?_ | refine g_bk ?_ | refine g_b ?_ | refine g_sk ?_ | refine g_cT rfl ?_ | refine g_cF rfl ?_ | refine g_x rfl ?_ | refine g_lb ?_))
    exact g_ret (q_2 rfl rfl (h2 hI _ _ _ hS))
end
end Go.Proofs.YtbdpcpafjphmpaaDoor
