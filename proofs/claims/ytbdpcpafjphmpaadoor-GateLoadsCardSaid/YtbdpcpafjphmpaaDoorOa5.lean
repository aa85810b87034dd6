/- May a record be? By the document. Lists of records compared. -/
import Derived.Test.YtbdpcpafjphmpaaDoorOa4
set_option linter.unusedSimpArgs false
set_option linter.unusedVariables false
namespace Go.Proofs.YtbdpcpafjphmpaaDoor
open Go.En

theorem rc_tip (r : Rec) {k : Nat} (h : k < r.tip.length) : (rc r)[20 + k * 1]? = some (.int .u8 (r.tip[k].toNat : Int)) := by
  have h1 := congrArg (fun l : List Value => l[k]?) (rc_20 r)
  simp only [List.getElem?_take, List.getElem?_drop] at h1
  rw [if_pos (by have := r.l32; omega)] at h1
  rw [Nat.mul_one, h1]
  simp [bys, h]
theorem zip_of {t : Bs} (hl : t.length = 32) (h : ∀ j (hj : j < t.length), t[j] = 0) : t = zip := by
  unfold zip
  refine List.ext_getElem (by rw [hl, List.length_replicate]) fun i h1 h2 => ?_
  rw [List.getElem_replicate, h i h1]
theorem zip_at {t : Bs} (h : t = zip) {j : Nat} (hj : j < t.length) : t[j] = 0 := by
  have h1 : t[j] ∈ zip := h ▸ List.getElem_mem hj
  exact List.eq_of_mem_replicate h1
theorem u4_fits : ∀ l : List Nat, Fits (List.replicate l.length (.i .u32)) (u4 l)
  | [] => trivial
  | x :: l => ⟨⟨_, rfl⟩, u4_fits l⟩
theorem fits_app : ∀ {ks js : List CKd} {a b : List Value}, Fits ks a → Fits js b → Fits (ks ++ js) (a ++ b)
  | [], _, [], _, _, h => h
  | _ :: _, _, _ :: _, _, h, h' => ⟨h.1, fits_app h.2 h'⟩
theorem rc_fits (r : Rec) : Fits (.i .i64 :: .i .i64 :: (List.replicate 16 (.i .u32) ++ (.s :: .b :: List.replicate 32 (.i .u8)))) (rc r) := by
  have h1 := u4_fits r.ctx
  rw [r.l16] at h1
  have h2 := fits_bys r.tip
  rw [r.l32] at h2
  exact ⟨⟨_, rfl⟩, ⟨_, rfl⟩, fits_app h1 ⟨⟨_, rfl⟩, ⟨_, rfl⟩, h2⟩⟩
section
variable {w w0 : World} {S0 : Nat → Prop} {L B : List Res} {K : Value → World → Prop} {s : Bs} {E0 E1 : Nat}
set_option maxHeartbeats 4000000 in
theorem r_recCheck {r : Rec} (h : ∀ w', St w (fun _ => False) w' [] → K (.int .i64 (recE r)) w') : CK Tryd.prog 11 [.agg ⟨rc r⟩] w K := by
  have hS := St.nil w (fun _ => False)
  have bad : recB r = false → ∀ {L : List Res} w', St w (fun _ => False) w' L → K (.int .i64 120) w' := fun e {L} w' hS => by
    rw [recE_no e] at h
    exact h _ (hS.sel [] rfl rfl)
  refine call_k Tryd.func11 k11 Tryd.ntmps11 (Nat.le_of_ble_eq_true rfl) ?_
  (repeat (first | refine g_sq ?_ | refine g_rg ?_ | refine g_r0 ?_ | refine g_ok rfl rfl ?_ | refine g_no rfl ?_ | refine g_no0 rfl ?_ | refine g_bk ?_ | refine g_b ?_ | refine g_sk ?_ | refine g_cT rfl ?_ | refine g_cF rfl ?_ | refine g_x rfl ?_ | refine g_lb ?_))
  refine g_ef rfl (ef_bx hS rfl fun b1 w1 hS => ?_)
  replace hS : St w (fun _ => False) w1 [cel b1 (rc r) 31] := hS
  (repeat (first | refine g_sq ?_ | refine g_rg ?_ | refine g_r0 ?_ | refine g_ok rfl rfl ?_ | refine g_no rfl ?_ | refine g_no0 rfl ?_ | refine g_bk ?_ | refine g_b ?_ | refine g_sk ?_ | refine g_cT rfl ?_ | refine g_cF rfl ?_ | refine g_x rfl ?_ | refine g_lb ?_))
  refine g_dr mixed ?_
  replace hS := hS.drew
  (repeat (first | refine d_ok rfl rfl rfl ?_ | refine d_no rfl rfl ?_))
  refine d_lm rfl rfl rfl (hS.b 0 rfl) (by rw [rc_len]; decide) ?_
  rw [rc_dot]
  refine d_cl rfl rfl rfl (r_dotCheck fun w1 h' => ?_)
  replace hS := hS.call0.2 _ _ h'
  rw [List.append_nil] at hS
  clear h'
  refine ⟨rc_0, ?_⟩
  cases hd : dotB r.site r.cnt
  · have e1 : recB r = false := by unfold recB; rw [hd]; rfl
    rw [dotE_no hd]
    (repeat (first | refine d_ok rfl rfl rfl ?_ | refine d_no rfl rfl ?_))
    refine d_en rfl rfl rc_0 ?_
    (repeat (first | refine d_ok rfl rfl rfl ?_ | refine d_no rfl rfl ?_))
    refine d_fin ?_
    (repeat (first | refine g_sq ?_ | refine g_rg ?_ | refine g_r0 ?_ | refine g_ok rfl rfl ?_ | refine g_no rfl ?_ | refine g_no0 rfl ?_ | refine g_bk ?_ | refine g_b ?_ | refine g_sk ?_ | refine g_cT rfl ?_ | refine g_cF rfl ?_ | refine g_x rfl ?_ | refine g_lb ?_))
    exact g_ret (q_1 rfl (bad e1 _ hS))
  · rw [dotE_ok hd]
    obtain ⟨s0, s15, c1, c2⟩ := dotB_in hd
    obtain ⟨n, hn⟩ := Int.eq_ofNat_of_zero_le s0
    have hk : n < r.ctx.length := by rw [r.l16]; omega
    have hcx : r.ctx.getD r.site.toNat 0 = r.ctx[n] := by
      rw [hn, Int.toNat_natCast, List.getD_eq_getElem?_getD, List.getElem?_eq_getElem hk]
      rfl
    have hc32 := r.b32 _ (List.getElem_mem hk)
    have hB : recB r = (decide ((r.ctx[n] : Int) + 1 = r.cnt) && (decide (nmE r.ref = 0) && (r.has || decide (r.tip = zip)))) := by
      unfold recB
      rw [hd, hcx, Bool.true_and]
    generalize hX : r.ctx[n] = X at hB hc32
    (repeat (first | refine d_ok rfl rfl rfl ?_ | refine d_no rfl rfl ?_))
    refine d_l1 rfl rfl rfl (hS.b 0 rfl) (v := .int .i64 r.site) rfl ?_
    (repeat (first | refine d_ok rfl rfl rfl ?_ | refine d_no rfl rfl ?_))
    refine d_rq rfl rfl rfl ⟨by omega, by omega⟩ ?_
    refine d_l1 rfl rfl rfl (hS.b 0 rfl) (v := .int .u32 (X : Int)) (by rw [hn, ← hX]; exact rc_ctx r hk) ?_
    (repeat (first | refine d_ok rfl rfl rfl ?_ | refine d_no rfl rfl ?_))
    rw [show IntKind.i64.wrap (X : Int) = (X : Int) from wrap_in (in64 (by omega))]
    refine d_rq rfl rfl rfl (in64 (by simp only [arv]; omega)) ?_
    (repeat (first | refine d_ok rfl rfl rfl ?_ | refine d_no rfl rfl ?_))
    refine d_l1 rfl rfl rfl (hS.b 0 rfl) (v := .int .i64 r.cnt) rfl ?_
    (repeat (first | refine d_ok rfl rfl rfl ?_ | refine d_no rfl rfl ?_))
    by_cases hq : (X : Int) + 1 = r.cnt
    · rw [show cmv BinOp.neq (arv BinOp.add (X : Int) 1) r.cnt = false from cmv_no hq]
      rw [decide_eq_true hq, Bool.true_and] at hB
      (repeat (first | refine d_ok rfl rfl rfl ?_ | refine d_no rfl rfl ?_))
      refine d_l1 rfl rfl rfl (hS.b 0 rfl) (v := sv r.ref) (rc_18 r) ?_
      refine d_cl rfl rfl rfl (r_Check4 fun w1 h' => ?_)
      replace hS := hS.call0.2 _ _ h'
      rw [List.append_nil] at hS
      clear h'
      refine ⟨rc_0, ?_⟩
      rcases nm_cases r.ref with hN | hN
      · rw [decide_eq_true hN, Bool.true_and] at hB
        rw [hN]
        (repeat (first | refine d_ok rfl rfl rfl ?_ | refine d_no rfl rfl ?_))
        refine d_fin ?_
        (repeat (first | refine g_sq ?_ | refine g_rg ?_ | refine g_r0 ?_ | refine g_ok rfl rfl ?_ | refine g_no rfl ?_ | refine g_no0 rfl ?_ | refine g_bk ?_ | refine g_b ?_ | refine g_sk ?_ | refine g_cT rfl ?_ | refine g_cF rfl ?_ | refine g_x rfl ?_ | refine g_lb ?_))
        refine g_l1 rfl rfl (hS.b 0 rfl) (v := .bool r.has) (rc_19 r) ?_
        cases hh : r.has
        · rw [hh, Bool.false_or] at hB
          (repeat (first | refine g_sq ?_ | refine g_rg ?_ | refine g_r0 ?_ | refine g_ok rfl rfl ?_ | refine g_no rfl ?_ | refine g_no0 rfl ?_ | refine g_bk ?_ | refine g_b ?_ | refine g_sk ?_ | refine g_cT rfl ?_ | refine g_cF rfl ?_ | refine g_x rfl ?_ | refine g_lb ?_))
          refine g_lp (ι := Nat) (fun k => [(1, dp b1), (3, .int .i64 k)]) (fun k w' => k ≤ 32 ∧ (∀ j (hj : j < r.tip.length), j < k → r.tip[j] = 0) ∧ St w (fun _ => False) w' [cel b1 (rc r) 31]) (fun k => 32 - k) 0 ⟨rfl, rfl, trivial⟩ ⟨Nat.zero_le _, fun j _ h => absurd h (Nat.not_lt_zero j), hS⟩ ?_
          clear hS
          rintro k w1 ⟨hk, hP, hS⟩
          (repeat (first | refine g_sq ?_ | refine g_rg ?_ | refine g_r0 ?_ | refine g_ok rfl rfl ?_ | refine g_no rfl ?_ | refine g_no0 rfl ?_ | refine g_bk ?_ | refine g_b ?_ | refine g_sk ?_ | refine g_cT rfl ?_ | refine g_cF rfl ?_ | refine g_x rfl ?_ | refine g_lb ?_))
          (refine g_cd rfl (fun hlt => ?_) (fun hlt => ?_) <;> simp only [cmv, arv, Bool.not_eq_true', Bool.not_eq_false', decide_eq_true_eq, decide_eq_false_iff_not] at hlt)
          · have hkt : k < r.tip.length := by rw [r.l32]; omega
            (repeat (first | refine g_sq ?_ | refine g_rg ?_ | refine g_r0 ?_ | refine g_ok rfl rfl ?_ | refine g_no rfl ?_ | refine g_no0 rfl ?_ | refine g_bk ?_ | refine g_b ?_ | refine g_sk ?_ | refine g_cT rfl ?_ | refine g_cF rfl ?_ | refine g_x rfl ?_ | refine g_lb ?_))
            refine g_rq rfl rfl ⟨by omega, by omega⟩ ?_
            refine g_l1 rfl rfl (hS.b 0 rfl) (v := .int .u8 (r.tip[k].toNat : Int)) (by rw [Int.toNat_natCast]; exact rc_tip r hkt) ?_
            (repeat (first | refine g_sq ?_ | refine g_rg ?_ | refine g_r0 ?_ | refine g_ok rfl rfl ?_ | refine g_no rfl ?_ | refine g_no0 rfl ?_ | refine g_bk ?_ | refine g_b ?_ | refine g_sk ?_ | refine g_cT rfl ?_ | refine g_cF rfl ?_ | refine g_x rfl ?_ | refine g_lb ?_))
            by_cases hz : r.tip[k] = 0
            · rw [hz]
              rw [show cmv BinOp.neq (((0 : UInt8).toNat : Nat) : Int) 0 = false from rfl]
              (repeat (first | refine g_sq ?_ | refine g_rg ?_ | refine g_r0 ?_ | refine g_ok rfl rfl ?_ | refine g_no rfl ?_ | refine g_no0 rfl ?_ | refine g_bk ?_ | refine g_b ?_ | refine g_sk ?_ | refine g_cT rfl ?_ | refine g_cF rfl ?_ | refine g_x rfl ?_ | refine g_lb ?_))
              refine g_rq rfl rfl (in64 (by simp only [arv]; omega)) ?_
              (repeat (first | refine g_sq ?_ | refine g_rg ?_ | refine g_r0 ?_ | refine g_ok rfl rfl ?_ | refine g_no rfl ?_ | refine g_no0 rfl ?_ | refine g_bk ?_ | refine g_b ?_ | refine g_sk ?_ | refine g_cT rfl ?_ | refine g_cF rfl ?_ | refine g_x rfl ?_ | refine g_lb ?_))
              refine g_l (k + 1) ⟨rfl, rfl, trivial⟩ ⟨by omega, fun j hj hjk => ?_, hS⟩ (by omega)
              by_cases e : j = k
              · subst e; exact hz
              · exact hP j hj (by omega)
            · rw [cmv_ye (a := ((r.tip[k].toNat : Nat) : Int)) (b := 0) fun e => hz (UInt8.toNat_inj.1 (by show r.tip[k].toNat = 0; omega))]
              rw [decide_eq_false (fun e => hz (zip_at e hkt))] at hB
              (repeat (first | refine g_sq ?_ | refine g_rg ?_ | refine g_r0 ?_ | refine g_ok rfl rfl ?_ | refine g_no rfl ?_ | refine g_no0 rfl ?_ | refine g_bk ?_ | refine g_b ?_ | refine g_sk ?_ | refine g_cT rfl ?_ | refine g_cF rfl ?_ | refine g_x rfl ?_ | refine g_lb ?_))
              exact g_ret (q_1 rfl (bad hB _ hS))
          · rw [decide_eq_true (zip_of r.l32 fun j hj => hP j hj (by have := r.l32; omega))] at hB
            rw [recE_ok hB] at h
            (repeat (first | refine g_sq ?_ | refine g_rg ?_ | refine g_r0 ?_ | refine g_ok rfl rfl ?_ | refine g_no rfl ?_ | refine g_no0 rfl ?_ | refine g_bk ?_ | refine g_b ?_ | refine g_sk ?_ | refine g_cT rfl ?_ | refine g_cF rfl ?_ | refine g_x rfl ?_ | refine g_lb ?_))
            exact g_ret (q_1 rfl (h _ (hS.sel [] rfl rfl)))
        · rw [hh, Bool.true_or] at hB
          rw [recE_ok hB] at h
          (repeat (first | refine g_sq ?_ | refine g_rg ?_ | refine g_r0 ?_ | refine g_ok rfl rfl ?_ | refine g_no rfl ?_ | refine g_no0 rfl ?_ | refine g_bk ?_ | refine g_b ?_ | refine g_sk ?_ | refine g_cT rfl ?_ | refine g_cF rfl ?_ | refine g_x rfl ?_ | refine g_lb ?_))
          exact g_ret (q_1 rfl (h _ (hS.sel [] rfl rfl)))
      · rw [decide_eq_false (by omega), Bool.false_and] at hB
        rw [hN]
        (repeat (first | refine d_ok rfl rfl rfl ?_ | refine d_no rfl rfl ?_))
        refine d_fin ?_
        (repeat (first | refine g_sq ?_ | refine g_rg ?_ | refine g_r0 ?_ | refine g_ok rfl rfl ?_ | refine g_no rfl ?_ | refine g_no0 rfl ?_ | refine g_bk ?_ | refine g_b ?_ | refine g_sk ?_ | refine g_cT rfl ?_ | refine g_cF rfl ?_ | refine g_x rfl ?_ | refine g_lb ?_))
        exact g_ret (q_1 rfl (bad hB _ hS))
    · rw [show cmv BinOp.neq (arv BinOp.add (X : Int) 1) r.cnt = true from cmv_ye hq]
      rw [decide_eq_false hq, Bool.false_and] at hB
      (repeat (first | refine d_ok rfl rfl rfl ?_ | refine d_no rfl rfl ?_))
      refine d_en rfl rfl rc_0 ?_
      (repeat (first | refine d_ok rfl rfl rfl ?_ | refine d_no rfl rfl ?_))
      refine d_fin ?_
      (repeat (first | refine g_sq ?_ | refine g_rg ?_ | refine g_r0 ?_ | refine g_ok rfl rfl ?_ | refine g_no rfl ?_ | refine g_no0 rfl ?_ | refine g_bk ?_ | refine g_b ?_ | refine g_sk ?_ | refine g_cT rfl ?_ | refine g_cF rfl ?_ | refine g_x rfl ?_ | refine g_lb ?_))
      exact g_ret (q_1 rfl (bad hB _ hS))
theorem r_SameR {d e : List Rec} {v u : Value} {n m : Nat} (hd : d.length = n) (he : e.length = m) (hn : n < 2000000) (hm : m < 2000000) (hr : Rd v E0 52 n (fl rc d) w) (hu : Rd u E1 52 m (fl rc e) w) (h : ∀ q : Bool, (q = true ↔ d = e) → ∀ w', St w (fun _ => False) w' [] → K (.bool q) w') : CK Tryd.prog 6 [v, u] w K := by
  have hS := St.nil w (fun _ => False)
  have hrr : ∀ {L : List Res} (w' : World), St w (fun _ => False) w' L → Rd v E0 52 n (fl rc d) w' := fun w' hS => hr.same fun b hb => hS.fr.kept b (hr.lt b hb) (fun h => h)
  have huu : ∀ {L : List Res} (w' : World), St w (fun _ => False) w' L → Rd u E1 52 m (fl rc e) w' := fun w' hS => hu.same fun b hb => hS.fr.kept b (hu.lt b hb) (fun h => h)
  obtain ⟨a, c, rfl⟩ := hr.form
  obtain ⟨a2, c2, rfl⟩ := hu.form
  refine call_k Tryd.func6 k6 Tryd.ntmps6 (Nat.le_of_ble_eq_true rfl) ?_
  (repeat (first | refine g_sq ?_ | refine g_rg ?_ | refine g_r0 ?_ | refine g_ok rfl rfl ?_ | refine g_no rfl ?_ | refine g_no0 rfl ?_ | refine g_bk ?_ | refine g_b ?_ | refine g_sk ?_ | refine g_cT rfl ?_ | refine g_cF rfl ?_ | refine g_x rfl ?_ | refine g_lb ?_))
  (refine g_cd rfl (fun hc => ?_) (fun hc => ?_) <;> simp only [cmv, arv, Bool.not_eq_true', Bool.not_eq_false', decide_eq_true_eq, decide_eq_false_iff_not] at hc)
  · (repeat (first | refine g_sq ?_ | refine g_rg ?_ | refine g_r0 ?_ | refine g_ok rfl rfl ?_ | refine g_no rfl ?_ | refine g_no0 rfl ?_ | refine g_bk ?_ | refine g_b ?_ | refine g_sk ?_ | refine g_cT rfl ?_ | refine g_cF rfl ?_ | refine g_x rfl ?_ | refine g_lb ?_))
    exact g_ret (q_1 rfl (h false ⟨nofun, fun h1 => absurd (by rw [← hd, ← he, h1]) hc⟩ _ hS))
  · have hnm : n = m := by omega
    subst hnm
    (repeat (first | refine g_sq ?_ | refine g_rg ?_ | refine g_r0 ?_ | refine g_ok rfl rfl ?_ | refine g_no rfl ?_ | refine g_no0 rfl ?_ | refine g_bk ?_ | refine g_b ?_ | refine g_sk ?_ | refine g_cT rfl ?_ | refine g_cF rfl ?_ | refine g_x rfl ?_ | refine g_lb ?_))
    refine g_lp (ι := Nat) (fun k => [(0, .slice a n c), (1, .slice a2 n c2), (5, .int .i64 k)]) (fun k w' => k ≤ n ∧ d.take k = e.take k ∧ St w (fun _ => False) w' []) (fun k => n - k) 0 ⟨rfl, rfl, rfl, trivial⟩ ⟨Nat.zero_le _, rfl, hS⟩ ?_
    clear hS
    rintro k w1 ⟨hk, hP, hS⟩
    (repeat (first | refine g_sq ?_ | refine g_rg ?_ | refine g_r0 ?_ | refine g_ok rfl rfl ?_ | refine g_no rfl ?_ | refine g_no0 rfl ?_ | refine g_bk ?_ | refine g_b ?_ | refine g_sk ?_ | refine g_cT rfl ?_ | refine g_cF rfl ?_ | refine g_x rfl ?_ | refine g_lb ?_))
    (refine g_cd rfl (fun hlt => ?_) (fun hlt => ?_) <;> simp only [cmv, arv, Bool.not_eq_true', Bool.not_eq_false', decide_eq_true_eq, decide_eq_false_iff_not] at hlt)
    · have hlt : k < n := by omega
      obtain ⟨b1, off, cap, l, e1, hcap, hl, hx, hb⟩ := Rd.block (hrr _ hS.drew) (by omega)
      cases e1
      obtain ⟨b3, off3, cap3, l3, e3, hcap3, hl3, hx3, hb3⟩ := Rd.block (huu _ hS.drew) (by omega)
      cases e3
      have hbd : off + k * 52 + 52 ≤ l.length := by have : (k + 1) * 52 ≤ c * 52 := Nat.mul_le_mul_right 52 (by omega); omega
      have hbd3 : off3 + k * 52 + 52 ≤ l3.length := by have : (k + 1) * 52 ≤ c2 * 52 := Nat.mul_le_mul_right 52 (by omega); omega
      (repeat (first | refine g_sq ?_ | refine g_rg ?_ | refine g_r0 ?_ | refine g_ok rfl rfl ?_ | refine g_no rfl ?_ | refine g_no0 rfl ?_ | refine g_bk ?_ | refine g_b ?_ | refine g_sk ?_ | refine g_cT rfl ?_ | refine g_cF rfl ?_ | refine g_x rfl ?_ | refine g_lb ?_))
      refine g_dr mixed ?_
      replace hS := hS.drew
      (repeat (first | refine d_ok rfl rfl rfl ?_ | refine d_no rfl rfl ?_))
      refine d_rq rfl rfl rfl ⟨by omega, by omega⟩ ?_
      refine d_qt rfl rfl rfl (qt_ldmr rfl hb hbd) ?_
      rw [Int.toNat_natCast, rd_at rc_len hx hd (show k < d.length by omega)]
      (repeat (first | refine d_ok rfl rfl rfl ?_ | refine d_no rfl rfl ?_))
      refine d_rq rfl rfl rfl ⟨by omega, by omega⟩ ?_
      refine d_qt rfl rfl rfl (qt_ldmr rfl hb3 hbd3) ?_
      rw [Int.toNat_natCast, rd_at rc_len hx3 he (show k < e.length by omega)]
      refine d_qt rfl rfl rfl (qt_eqd (a := rc (d[k]'(by omega))) (b := rc (e[k]'(by omega))) rfl rfl (rc_fits _) (rc_fits _)) ?_
      refine d_fin ?_
      by_cases hde : d[k]'(by omega) = e[k]'(by omega)
      · rw [show eqdv .neq (deqv (rc (d[k]'(by omega))) (rc (e[k]'(by omega)))) = false by
          show (!deqv _ _) = _
          rw [deqv_eq (q := true) ⟨fun _ => by rw [hde], fun _ => rfl⟩]; rfl]
        (repeat (first | refine g_sq ?_ | refine g_rg ?_ | refine g_r0 ?_ | refine g_ok rfl rfl ?_ | refine g_no rfl ?_ | refine g_no0 rfl ?_ | refine g_bk ?_ | refine g_b ?_ | refine g_sk ?_ | refine g_cT rfl ?_ | refine g_cF rfl ?_ | refine g_x rfl ?_ | refine g_lb ?_))
        refine g_rq rfl rfl (in64 (by simp only [arv]; omega)) ?_
        (repeat (first | refine g_sq ?_ | refine g_rg ?_ | refine g_r0 ?_ | refine g_ok rfl rfl ?_ | refine g_no rfl ?_ | refine g_no0 rfl ?_ | refine g_bk ?_ | refine g_b ?_ | refine g_sk ?_ | refine g_cT rfl ?_ | refine g_cF rfl ?_ | refine g_x rfl ?_ | refine g_lb ?_))
        refine g_l (k + 1) ⟨rfl, rfl, rfl, trivial⟩ ⟨by omega, ?_, hS⟩ (by omega)
        rw [List.take_succ_eq_append_getElem (by omega), List.take_succ_eq_append_getElem (by omega), hP, hde]
      · rw [show eqdv .neq (deqv (rc (d[k]'(by omega))) (rc (e[k]'(by omega)))) = true by
          show (!deqv _ _) = _
          rw [deqv_eq (q := false) ⟨nofun, fun h => absurd (rc_inj h) hde⟩]; rfl]
        (repeat (first | refine g_sq ?_ | refine g_rg ?_ | refine g_r0 ?_ | refine g_ok rfl rfl ?_ | refine g_no rfl ?_ | refine g_no0 rfl ?_ | refine g_bk ?_ | refine g_b ?_ | refine g_sk ?_ | refine g_cT rfl ?_ | refine g_cF rfl ?_ | refine g_x rfl ?_ | refine g_lb ?_))
        exact g_ret (q_1 rfl (h false ⟨nofun, fun h1 => absurd (by subst h1; rfl) hde⟩ _ hS))
    · have e1 : d = e := by rw [← List.take_of_length_le (l := d) (i := k) (by omega), hP, List.take_of_length_le (by omega)]
      (repeat (first | refine g_sq ?_ | refine g_rg ?_ | refine g_r0 ?_ | refine g_ok rfl rfl ?_ | refine g_no rfl ?_ | refine g_no0 rfl ?_ | refine g_bk ?_ | refine g_b ?_ | refine g_sk ?_ | refine g_cT rfl ?_ | refine g_cF rfl ?_ | refine g_x rfl ?_ | refine g_lb ?_))
      exact g_ret (q_1 rfl (h true ⟨fun _ => e1, fun _ => rfl⟩ _ hS))
theorem r_GreatN (h : K (.int .i64 0) w) : CK Tryd.prog 8 [.slice none 0 0, .slice none 0 0] w K := by
  refine call_k Tryd.func8 k8 Tryd.ntmps8 (Nat.le_of_ble_eq_true rfl) ?_
  (repeat (first | refine g_sq ?_ | refine g_rg ?_ | refine g_r0 ?_ | refine g_ok rfl rfl ?_ | refine g_no rfl ?_ | refine g_no0 rfl ?_ | refine g_bk ?_ | refine g_b ?_ | refine g_sk ?_ | refine g_cT rfl ?_ | refine g_cF rfl ?_ | refine g_x rfl ?_ | refine g_lb ?_))
  refine g_lp (ι := Unit) (fun _ => [(0, .slice none 0 0), (5, .int .i64 0)]) (fun _ w' => w' = w) (fun _ => 0) () ⟨rfl, rfl, trivial⟩ rfl ?_
  rintro _ w1 rfl
  (repeat (first | refine g_sq ?_ | refine g_rg ?_ | refine g_r0 ?_ | refine g_ok rfl rfl ?_ | refine g_no rfl ?_ | refine g_no0 rfl ?_ | refine g_bk ?_ | refine g_b ?_ | refine g_sk ?_ | refine g_cT rfl ?_ | refine g_cF rfl ?_ | refine g_x rfl ?_ | refine g_lb ?_))
  exact g_ret (q_1 rfl h)
end
end Go.Proofs.YtbdpcpafjphmpaaDoor
