/- The tip under a name. -/
import Derived.Test.YtibofabkpgigoaaGreatDoorNb8
set_option linter.unusedSimpArgs false
set_option linter.unusedVariables false
namespace Go.Proofs.YtibofabkpgigoaaGreatDoor
open Go.En

section
variable {w w0 : World} {S0 : Nat → Prop} {L B : List Res} {K : Value → World → Prop} {s : Bs} {E0 E1 : Nat}
theorem b_find1 {x : Li} {b E : Nat} (hb : Blk w b [sv s] E) (h : ∀ w', St w (fun _ => False) w' [] → K (.bool (decide (x.1 = s))) w') : CK Tryz.prog 51 [.agg ⟨lc x⟩, dp b] w K := by
  have hS := (St.nil w (fun _ => False))
  refine call_k Tryz.func51 k51 Tryz.ntmps51 (Nat.le_of_ble_eq_true rfl) ?_
  (repeat (first | refine g_sq ?_ | refine g_rg ?_ | refine g_r0 ?_ | refine g_ok rfl rfl ?_ | refine g_no rfl ?_ | refine g_no0 rfl ?_ | refine g_bk ?_ | refine g_b ?_ | refine g_sk ?_ | refine g_cT rfl ?_ | refine g_cF rfl ?_ | refine g_x rfl ?_ | refine g_lb ?_))
  refine g_ef rfl (ef_bx hS rfl fun b1 w1 hS => ?_)
  replace hS : St w (fun _ => False) w1 [cel b1 (lc x) 41] := hS
  have hb1 : Blr w1 b [sv s] E := hb.r.same (hS.fr.kept b hb.lt (fun h => h))
  (repeat (first | refine g_sq ?_ | refine g_rg ?_ | refine g_r0 ?_ | refine g_ok rfl rfl ?_ | refine g_no rfl ?_ | refine g_no0 rfl ?_ | refine g_bk ?_ | refine g_b ?_ | refine g_sk ?_ | refine g_cT rfl ?_ | refine g_cF rfl ?_ | refine g_x rfl ?_ | refine g_lb ?_))
  refine g_l1 rfl rfl (hS.b  0 rfl) rfl ?_
  refine g_l1r rfl rfl hb1 rfl ?_
  (repeat (first | refine g_sq ?_ | refine g_rg ?_ | refine g_r0 ?_ | refine g_ok rfl rfl ?_ | refine g_no rfl ?_ | refine g_no0 rfl ?_ | refine g_bk ?_ | refine g_b ?_ | refine g_sk ?_ | refine g_cT rfl ?_ | refine g_cF rfl ?_ | refine g_x rfl ?_ | refine g_lb ?_))
  exact g_ret (q_1 rfl (h _ (hS.sel [] rfl rfl)))
theorem b_IndexF {d : List Li} {v : Value} {n b E : Nat} (hd : d.length = n) (hn : n < 2000000) (hb : Blk w b [sv s] E) (hr : Rd v E0 33 n (fl lc d) w)
    (h1 : ∀ i (hi : i < d.length), d[i].1 = s → (∀ j (hj : j < d.length), j < i → d[j].1 ≠ s) → ∀ w', St w (fun _ => False) w' [] → K (.int .i64 i) w') (h2 : (∀ x ∈ d, x.1 ≠ s) → ∀ w', St w (fun _ => False) w' [] → K (.int .i64 (-1)) w') :
    CK Tryz.prog 50 [v, .func (.func 51) ⟨[]⟩ ⟨[dp b]⟩] w K := by
  have hS := St.nil w (fun _ => False)
  have hrr : ∀ {L : List Res} (w' : World), St w (fun _ => False) w' L → Rd v E0 33 n (fl lc d) w' := fun w' hS => hr.same fun b hb => hS.fr.kept b (hr.lt b hb) (fun h => h)
  obtain ⟨a, c, rfl⟩ := hr.form
  refine call_k Tryz.func50 k50 Tryz.ntmps50 (Nat.le_of_ble_eq_true rfl) ?_
  (repeat (first | refine g_sq ?_ | refine g_rg ?_ | refine g_r0 ?_ | refine g_ok rfl rfl ?_ | refine g_no rfl ?_ | refine g_no0 rfl ?_ | refine g_bk ?_ | refine g_b ?_ | refine g_sk ?_ | refine g_cT rfl ?_ | refine g_cF rfl ?_ | refine g_x rfl ?_ | refine g_lb ?_))
  refine g_lp (ι := Nat) (fun k => [(0, .slice a n c), (1, .func (.func 51) ⟨[]⟩ ⟨[dp b]⟩), (7, .int .i64 n), (8, .int .i64 k)]) (fun k w' => k ≤ n ∧ (∀ j (hj : j < d.length), j < k → d[j].1 ≠ s) ∧ St w (fun _ => False) w' []) (fun k => n - k) 0 ⟨rfl, rfl, rfl, rfl, trivial⟩ ⟨Nat.zero_le _, fun j _ h => absurd h (Nat.not_lt_zero j), hS⟩ ?_
  clear hS
  rintro k w1 ⟨hk, hP, hS⟩
  (repeat (first | refine g_sq ?_ | refine g_rg ?_ | refine g_r0 ?_ | refine g_ok rfl rfl ?_ | refine g_no rfl ?_ | refine g_no0 rfl ?_ | refine g_bk ?_ | refine g_b ?_ | refine g_sk ?_ | refine g_cT rfl ?_ | refine g_cF rfl ?_ | refine g_x rfl ?_ | refine g_lb ?_))
  (refine g_cd rfl (fun hlt => ?_) (fun hlt => ?_) <;> simp only [cmv, arv, Bool.not_eq_true', Bool.not_eq_false', decide_eq_true_eq, decide_eq_false_iff_not] at hlt)
  · have hlt : k < n := by omega
    obtain ⟨b1, off, cap, l, e1, hcap, hl, hx, hbl⟩ := Rd.block (hrr _ hS) (by omega)
    cases e1
    (repeat (first | refine g_sq ?_ | refine g_rg ?_ | refine g_r0 ?_ | refine g_ok rfl rfl ?_ | refine g_no rfl ?_ | refine g_no0 rfl ?_ | refine g_bk ?_ | refine g_b ?_ | refine g_sk ?_ | refine g_cT rfl ?_ | refine g_cF rfl ?_ | refine g_x rfl ?_ | refine g_lb ?_))
    refine g_rq rfl rfl ⟨by omega, by omega⟩ ?_
    have hbd : off + k * 33 + 33 ≤ l.length := by have : (k + 1) * 33 ≤ c * 33 := Nat.mul_le_mul_right 33 (by omega); omega
    refine g_lmr rfl rfl hbl hbd ?_
    rw [Int.toNat_natCast, rd_at lc_len hx hd (show k < d.length by omega)]
    have hb1 : Blk w1 b [sv s] E := by
      obtain ⟨fr, hb1, hb2⟩ := hb
      exact ⟨fr, (hS.fr.kept b (Array.getElem?_eq_some_iff.1 hb1).1 (fun h => h)).trans hb1, hb2⟩
    refine g_ef rfl (ef_cv (vs := [.agg ⟨lc (d[k]'(by omega))⟩]) rfl rfl (callFunc_of Tryz.func51 rfl rfl) (b_find1 hb1 fun w' h' => ?_))
    replace hS := hS.call0.2 _ _ h'
    cases hde : decide ((d[k]'(by omega)).1 = s)
    · rw [decide_eq_false_iff_not] at hde
      (repeat (first | refine g_sq ?_ | refine g_rg ?_ | refine g_r0 ?_ | refine g_ok rfl rfl ?_ | refine g_no rfl ?_ | refine g_no0 rfl ?_ | refine g_bk ?_ | refine g_b ?_ | refine g_sk ?_ | refine g_cT rfl ?_ | refine g_cF rfl ?_ | refine g_x rfl ?_ | refine g_lb ?_))
      refine g_rq rfl rfl (in64 (by simp only [arv]; omega)) ?_
      (repeat (first | refine g_sq ?_ | refine g_rg ?_ | refine g_r0 ?_ | refine g_ok rfl rfl ?_ | refine g_no rfl ?_ | refine g_no0 rfl ?_ | refine g_bk ?_ | refine g_b ?_ | refine g_sk ?_ | refine g_cT rfl ?_ | refine g_cF rfl ?_ | refine g_x rfl ?_ | refine g_lb ?_))
      refine g_l (k + 1) ⟨rfl, rfl, rfl, rfl, trivial⟩ ⟨by omega, fun j hj hjk => ?_, hS⟩ (by omega)
      by_cases e : j = k
      · subst e; exact hde
      · exact hP j hj (by omega)
    · rw [decide_eq_true_eq] at hde
      (repeat (first | refine g_sq ?_ | refine g_rg ?_ | refine g_r0 ?_ | refine g_ok rfl rfl ?_ | refine g_no rfl ?_ | refine g_no0 rfl ?_ | refine g_bk ?_ | refine g_b ?_ | refine g_sk ?_ | refine g_cT rfl ?_ | refine g_cF rfl ?_ | refine g_x rfl ?_ | refine g_lb ?_))
      exact g_ret (q_1 rfl (h1 k (by omega) hde hP _ hS))
  · (repeat (first | refine g_sq ?_ | refine g_rg ?_ | refine g_r0 ?_ | refine g_ok rfl rfl ?_ | refine g_no rfl ?_ | refine g_no0 rfl ?_ | refine g_bk ?_ | refine g_b ?_ | refine g_sk ?_ | refine g_cT rfl ?_ | refine g_cF rfl ?_ | refine g_x rfl ?_ | refine g_lb ?_))
    refine g_ret (q_1 rfl (h2 (fun x hx => ?_) _ hS))
    obtain ⟨j, hj, rfl⟩ := List.getElem_of_mem hx
    exact hP j hj (by omega)
/-- the tip under a name, in a listing -/
def fnd (d : List Li) (s : Bs) : Option Id := if chk d = true then (d.find? fun x => decide (x.1 = s)).map (·.2) else none
set_option maxHeartbeats 1000000 in
theorem b_Find {d : List Li} {v : Value} {n : Nat} (hd : d.length = n) (hn : n < 2000000) (hlen : ∀ x ∈ d, x.1.length < 4294967281) (hg : Gl w) (hr : Rd v E0 33 n (fl lc d) w)
    (h : ∀ w', St w (fun _ => False) w' [] → K (.tuple ⟨[.agg ⟨bys ((fnd d s).getD ⟨zid, zid_len⟩).1⟩, .bool (fnd d s).isSome]⟩) w') : CK Tryz.prog 20 [v, sv s] w K := by
  have hS := St.nil w (fun _ => False)
  have hrr : ∀ {L : List Res} (w' : World), St w (fun _ => False) w' L → Rd v E0 33 n (fl lc d) w' := fun w' hS => hr.same fun b hb => hS.fr.kept b (hr.lt b hb) (fun h => h)
  obtain ⟨a, c, rfl⟩ := hr.form
  have l0 : (bys zid).length = 32 := by rw [bys_length, zid_len]
  refine call_k Tryz.func20 k20 Tryz.ntmps20 (Nat.le_of_ble_eq_true rfl) ?_
  (repeat (first | refine g_sq ?_ | refine g_rg ?_ | refine g_r0 ?_ | refine g_ok rfl rfl ?_ | refine g_no rfl ?_ | refine g_no0 rfl ?_ | refine g_bk ?_ | refine g_b ?_ | refine g_sk ?_ | refine g_cT rfl ?_ | refine g_cF rfl ?_ | refine g_x rfl ?_ | refine g_lb ?_))
  refine g_ef rfl (ef_bx hS rfl fun b3 w1 hS => ?_)
  (repeat (first | refine g_sq ?_ | refine g_rg ?_ | refine g_r0 ?_ | refine g_ok rfl rfl ?_ | refine g_no rfl ?_ | refine g_no0 rfl ?_ | refine g_bk ?_ | refine g_b ?_ | refine g_sk ?_ | refine g_cT rfl ?_ | refine g_cF rfl ?_ | refine g_x rfl ?_ | refine g_lb ?_))
  refine g_ef rfl (ef_al hS fun b4 w1 hS => ?_)
  replace hS : St w (fun _ => False) w1 [cel b3 [sv s] 9, cel b4 (bys zid) 35] := hS
  (repeat (first | refine g_sq ?_ | refine g_rg ?_ | refine g_r0 ?_ | refine g_ok rfl rfl ?_ | refine g_no rfl ?_ | refine g_no0 rfl ?_ | refine g_bk ?_ | refine g_b ?_ | refine g_sk ?_ | refine g_cT rfl ?_ | refine g_cF rfl ?_ | refine g_x rfl ?_ | refine g_lb ?_))
  refine g_cl rfl rfl (b_CheckL hd hn hlen (hg.in hS) (hrr _ hS) fun w1 h' => ?_)
  replace hS := hS.call0.2 _ _ h'
  rw [List.append_nil] at hS
  clear h'
  cases hck : chk d
  · have e1 : eE d = 200 := by unfold eE; rw [if_neg (by rw [hck]; decide)]
    have e2 : fnd d s = none := by unfold fnd; rw [if_neg (by rw [hck]; decide)]
    rw [e1]
    rw [e2] at h
    (repeat (first | refine g_sq ?_ | refine g_rg ?_ | refine g_r0 ?_ | refine g_ok rfl rfl ?_ | refine g_no rfl ?_ | refine g_no0 rfl ?_ | refine g_bk ?_ | refine g_b ?_ | refine g_sk ?_ | refine g_cT rfl ?_ | refine g_cF rfl ?_ | refine g_x rfl ?_ | refine g_lb ?_))
    refine g_ef0 rfl (ef_st (u := .agg ⟨bys zid⟩) hS 1 rfl rfl rfl l0 (Nat.le_of_eq l0.symm) (by decide) fun w1 hS => ?_)
    replace hS := hS.ceq (l' := bys zid) 1 rfl (spl_full _ _ rfl)
    (repeat (first | refine g_sq ?_ | refine g_rg ?_ | refine g_r0 ?_ | refine g_ok rfl rfl ?_ | refine g_no rfl ?_ | refine g_no0 rfl ?_ | refine g_bk ?_ | refine g_b ?_ | refine g_sk ?_ | refine g_cT rfl ?_ | refine g_cF rfl ?_ | refine g_x rfl ?_ | refine g_lb ?_))
    refine g_ret (q_c2 (n := 32) rfl (by kernel_rfl) (hS.b 1 rfl) (Nat.le_of_eq l0.symm) rfl ?_)
    rw [List.drop_zero, List.take_of_length_le (Nat.le_of_eq l0)]
    exact h _ (hS.sel [] rfl rfl)
  · have e1 : eE d = 0 := by unfold eE; rw [if_pos hck]
    have e2 : fnd d s = (d.find? fun x => decide (x.1 = s)).map (·.2) := by unfold fnd; rw [if_pos hck]
    rw [e1]
    rw [e2] at h
    (repeat (first | refine g_sq ?_ | refine g_rg ?_ | refine g_r0 ?_ | refine g_ok rfl rfl ?_ | refine g_no rfl ?_ | refine g_no0 rfl ?_ | refine g_bk ?_ | refine g_b ?_ | refine g_sk ?_ | refine g_cT rfl ?_ | refine g_cF rfl ?_ | refine g_x rfl ?_ | refine g_lb ?_))
    refine g_cl rfl rfl (b_IndexF hd hn (hS.b 0 rfl) (hrr _ hS) (fun i hi hfi hfj w1 h' => ?_) (fun hno w1 h' => ?_))
    · replace hS := hS.call0.2 _ _ h'
      rw [List.append_nil] at hS
      have e3 : d.find? (fun x => decide (x.1 = s)) = some d[i] := by
        rw [List.find?_eq_some_iff_getElem]
        refine ⟨by simpa using hfi, i, hi, rfl, fun j hj => ?_⟩
        simpa using hfj j (by omega) hj
      rw [e3] at h
      have hil : i < n := by omega
      obtain ⟨b1, off, cap, l, e4, hcap, hl, hx, hbl⟩ := Rd.block (hrr _ hS) (by omega)
      cases e4
      (repeat (first | refine g_sq ?_ | refine g_rg ?_ | refine g_r0 ?_ | refine g_ok rfl rfl ?_ | refine g_no rfl ?_ | refine g_no0 rfl ?_ | refine g_bk ?_ | refine g_b ?_ | refine g_sk ?_ | refine g_cT rfl ?_ | refine g_cF rfl ?_ | refine g_x rfl ?_ | refine g_lb ?_))
      refine g_rq rfl rfl ⟨by omega, by omega⟩ ?_
      have hbd : off + i * 33 + 33 ≤ l.length := by have : (i + 1) * 33 ≤ c * 33 := Nat.mul_le_mul_right 33 (by omega); omega
      (repeat (first | refine g_sq ?_ | refine g_rg ?_ | refine g_r0 ?_ | refine g_ok rfl rfl ?_ | refine g_no rfl ?_ | refine g_no0 rfl ?_ | refine g_bk ?_ | refine g_b ?_ | refine g_sk ?_ | refine g_cT rfl ?_ | refine g_cF rfl ?_ | refine g_x rfl ?_ | refine g_lb ?_))
      refine g_lmr rfl rfl hbl (by rw [Int.toNat_natCast]; omega) ?_
      have e5 : (l.drop (off + (i : Int).toNat * 33 + 1)).take 32 = bys d[i].2.1 := by
        have h5 := rd_at lc_len hx hd (show i < d.length by omega)
        have h6 := congrArg (List.drop 1) h5
        rw [List.drop_take, List.drop_drop] at h6
        rw [Int.toNat_natCast]
        exact h6
      rw [e5]
      have l1 : (bys d[i].2.1).length = 32 := ic_len d[i].2
      refine g_ef0 rfl (ef_st hS 1 rfl rfl rfl l1 (Nat.le_of_eq l0.symm) (bys_one _) fun w1 hS => ?_)
      replace hS := hS.ceq (l' := bys d[i].2.1) 1 rfl (spl_full _ _ (l1.trans l0.symm))
      (repeat (first | refine g_sq ?_ | refine g_rg ?_ | refine g_r0 ?_ | refine g_ok rfl rfl ?_ | refine g_no rfl ?_ | refine g_no0 rfl ?_ | refine g_bk ?_ | refine g_b ?_ | refine g_sk ?_ | refine g_cT rfl ?_ | refine g_cF rfl ?_ | refine g_x rfl ?_ | refine g_lb ?_))
      refine g_ret (q_c2 (n := 32) rfl (by kernel_rfl) (hS.b 1 rfl) (Nat.le_of_eq l1.symm) rfl ?_)
      rw [List.drop_zero, List.take_of_length_le (Nat.le_of_eq l1)]
      exact h _ (hS.sel [] rfl rfl)
    · replace hS := hS.call0.2 _ _ h'
      rw [List.append_nil] at hS
      have e3 : d.find? (fun x => decide (x.1 = s)) = none := List.find?_eq_none.2 fun x hx => by simpa using hno x hx
      rw [e3] at h
      (repeat (first | refine g_sq ?_ | refine g_rg ?_ | refine g_r0 ?_ | refine g_ok rfl rfl ?_ | refine g_no rfl ?_ | refine g_no0 rfl ?_ | refine g_bk ?_ | refine g_b ?_ | refine g_sk ?_ | refine g_cT rfl ?_ | refine g_cF rfl ?_ | refine g_x rfl ?_ | refine g_lb ?_))
      refine g_ef0 rfl (ef_st (u := .agg ⟨bys zid⟩) hS 1 rfl rfl rfl l0 (Nat.le_of_eq l0.symm) (by decide) fun w1 hS => ?_)
      replace hS := hS.ceq (l' := bys zid) 1 rfl (spl_full _ _ rfl)
      (repeat (first | refine g_sq ?_ | refine g_rg ?_ | refine g_r0 ?_ | refine g_ok rfl rfl ?_ | refine g_no rfl ?_ | refine g_no0 rfl ?_ | refine g_bk ?_ | refine g_b ?_ | refine g_sk ?_ | refine g_cT rfl ?_ | refine g_cF rfl ?_ | refine g_x rfl ?_ | refine g_lb ?_))
      refine g_ret (q_c2 (n := 32) rfl (by kernel_rfl) (hS.b 1 rfl) (Nat.le_of_eq l0.symm) rfl ?_)
      rw [List.drop_zero, List.take_of_length_le (Nat.le_of_eq l0)]
      exact h _ (hS.sel [] rfl rfl)
end
end Go.Proofs.YtibofabkpgigoaaGreatDoor
