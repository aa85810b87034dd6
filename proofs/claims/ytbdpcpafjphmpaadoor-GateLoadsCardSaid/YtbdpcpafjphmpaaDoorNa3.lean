/- Names of refs: the rules, one by one. -/
import Derived.Test.YtbdpcpafjphmpaaDoorNa2
set_option linter.unusedSimpArgs false
set_option linter.unusedVariables false
namespace Go.Proofs.YtbdpcpafjphmpaaDoor
open Go.En

def wrongB : Bs := [126, 94, 58, 63, 42, 91, 92]
/-- may a byte stand in a name? -/
def may (c : UInt8) : Bool := decide (33 ≤ c.toNat) && (decide (c.toNat ≤ 126) && !Lib.contains wrongB [c])
def rul (k : Nat) (s : Bs) : Bool := match k with
  | 0 => decide (s = []) || decide (100 < s.length)
  | 1 => s.any fun c => !may c
  | 2 => (prt s).any fun p => decide (p = [])
  | 3 => (prt s).any fun p => [46].isPrefixOf p
  | 4 => Lib.contains s [46, 46]
  | 5 => (prt s).any fun p => [46, 108, 111, 99, 107].isSuffixOf p
  | 6 => [46].isSuffixOf s
  | _ => Lib.contains s [64, 123]
/-- the first rule that is broken, from one on; 0: none is -/
def brkF (s : Bs) : Nat → Nat → Nat
  | 0, _ => 0
  | n + 1, k => if rul k s then k + 1 else brkF s n (k + 1)
def brk (s : Bs) : Nat := brkF s 8 0
theorem brkF_lt (s : Bs) : ∀ (n k : Nat), brkF s n k ≤ n + k
  | 0, k => by simp [brkF]
  | n + 1, k => by
    unfold brkF
    split
    · omega
    · have := brkF_lt s n (k + 1); omega
theorem brkF_0 (s : Bs) : ∀ (n k : Nat), brkF s n k = 0 → ∀ j, k ≤ j → j < k + n → rul j s = false
  | 0, k, _, j, h1, h2 => by omega
  | n + 1, k, h, j, h1, h2 => by
    unfold brkF at h
    split at h
    · omega
    · rename_i hr
      by_cases e : j = k
      · subst e; simpa using hr
      · exact brkF_0 s n (k + 1) h j (by omega) (by omega)
theorem brkF_n (s : Bs) : ∀ (n k : Nat), (∀ j, k ≤ j → j < k + n → rul j s = false) → brkF s n k = 0
  | 0, _, _ => rfl
  | n + 1, k, h => by
    unfold brkF
    rw [if_neg (by rw [h k (Nat.le_refl _) (by omega)]; simp)]
    exact brkF_n s n (k + 1) fun j h1 h2 => h j (by omega) (by omega)
theorem brkF_at (s : Bs) : ∀ (n k i : Nat), i < n → (∀ j, k ≤ j → j < k + i → rul j s = false) → rul (k + i) s = true → brkF s n k = k + i + 1
  | 0, _, _, h, _, _ => by omega
  | n + 1, k, i, h, hl, hr => by
    unfold brkF
    by_cases e : i = 0
    · subst e
      rw [if_pos (by simpa using hr)]
    · rw [if_neg (by rw [hl k (Nat.le_refl _) (by omega)]; simp)]
      have := brkF_at s n (k + 1) (i - 1) (by omega) (fun j h1 h2 => hl j (by omega) (by omega)) (by rw [show k + 1 + (i - 1) = k + i by omega]; exact hr)
      rw [this]; omega
section
variable {w w0 : World} {S0 : Nat → Prop} {L B : List Res} {K : Value → World → Prop} {s : Bs}
theorem b_r1 (h : K (.bool (rul 0 s)) w) : CK Tryd.prog 50 [sv s] w K := by
  refine call_k Tryd.func50 k50 Tryd.ntmps50 (Nat.le_of_ble_eq_true rfl) ?_
  (repeat (first | refine g_sq ?_ | refine g_rg ?_ | refine g_r0 ?_ | refine g_ok rfl rfl ?_ | refine g_no rfl ?_ | refine g_no0 rfl ?_ | refine g_bk ?_ | refine g_b ?_ | refine g_sk ?_ | refine g_cT rfl ?_ | refine g_cF rfl ?_ | refine g_x rfl ?_ | refine g_lb ?_))
  have e : rul 0 s = (decide (s = []) || decide (100 < s.length)) := rfl
  generalize hq : decide ((⟨s.toArray⟩ : ByteArray).data.toList = (⟨#[]⟩ : ByteArray).data.toList) = q
  have hq2 : decide (s = []) = q := hq
  rw [e, hq2] at h
  cases q
  · (repeat (first | refine g_sq ?_ | refine g_rg ?_ | refine g_r0 ?_ | refine g_ok rfl rfl ?_ | refine g_no rfl ?_ | refine g_no0 rfl ?_ | refine g_bk ?_ | refine g_b ?_ | refine g_sk ?_ | refine g_cT rfl ?_ | refine g_cF rfl ?_ | refine g_x rfl ?_ | refine g_lb ?_))
    refine g_ret (q_1 rfl ?_)
    simp only [cmv]
    simp only [Bool.false_or] at h
    have e2 : decide ((100 : Int) < ((⟨s.toArray⟩ : ByteArray).size : Nat)) = decide (100 < s.length) := by
      rw [decide_eq_decide]
      show (100 : Int) < (s.length : Int) ↔ _
      omega
    rw [e2]
    exact h
  · (repeat (first | refine g_sq ?_ | refine g_rg ?_ | refine g_r0 ?_ | refine g_ok rfl rfl ?_ | refine g_no rfl ?_ | refine g_no0 rfl ?_ | refine g_bk ?_ | refine g_b ?_ | refine g_sk ?_ | refine g_cT rfl ?_ | refine g_cF rfl ?_ | refine g_x rfl ?_ | refine g_lb ?_))
    exact g_ret (q_1 rfl h)
theorem b_r2 (h : K (.bool (decide (s = []))) w) : CK Tryd.prog 53 [sv s] w K := by
  refine call_k Tryd.func53 k53 Tryd.ntmps53 (Nat.le_of_ble_eq_true rfl) ?_
  (repeat (first | refine g_sq ?_ | refine g_rg ?_ | refine g_r0 ?_ | refine g_ok rfl rfl ?_ | refine g_no rfl ?_ | refine g_no0 rfl ?_ | refine g_bk ?_ | refine g_b ?_ | refine g_sk ?_ | refine g_cT rfl ?_ | refine g_cF rfl ?_ | refine g_x rfl ?_ | refine g_lb ?_))
  exact g_ret (q_1 rfl h)
theorem b_r3 (h : K (.bool ([46].isPrefixOf s)) w) : CK Tryd.prog 54 [sv s] w K := by
  refine call_k Tryd.func54 k54 Tryd.ntmps54 (Nat.le_of_ble_eq_true rfl) ?_
  (repeat (first | refine g_sq ?_ | refine g_rg ?_ | refine g_r0 ?_ | refine g_ok rfl rfl ?_ | refine g_no rfl ?_ | refine g_no0 rfl ?_ | refine g_bk ?_ | refine g_b ?_ | refine g_sk ?_ | refine g_cT rfl ?_ | refine g_cF rfl ?_ | refine g_x rfl ?_ | refine g_lb ?_))
  refine g_cl rfl rfl (c_HasPrefix (s := s) (p := [46]) ?_)
  (repeat (first | refine g_sq ?_ | refine g_rg ?_ | refine g_r0 ?_ | refine g_ok rfl rfl ?_ | refine g_no rfl ?_ | refine g_no0 rfl ?_ | refine g_bk ?_ | refine g_b ?_ | refine g_sk ?_ | refine g_cT rfl ?_ | refine g_cF rfl ?_ | refine g_x rfl ?_ | refine g_lb ?_))
  exact g_ret (q_1 rfl h)
theorem b_r4 (hs : s.length ≤ 9223372036854775807) (h : K (.bool ([46, 108, 111, 99, 107].isSuffixOf s)) w) : CK Tryd.prog 57 [sv s] w K := by
  refine call_k Tryd.func57 k57 Tryd.ntmps57 (Nat.le_of_ble_eq_true rfl) ?_
  (repeat (first | refine g_sq ?_ | refine g_rg ?_ | refine g_r0 ?_ | refine g_ok rfl rfl ?_ | refine g_no rfl ?_ | refine g_no0 rfl ?_ | refine g_bk ?_ | refine g_b ?_ | refine g_sk ?_ | refine g_cT rfl ?_ | refine g_cF rfl ?_ | refine g_x rfl ?_ | refine g_lb ?_))
  refine g_cl rfl rfl (c_HasSuffix (s := s) (p := [46, 108, 111, 99, 107]) hs ?_)
  (repeat (first | refine g_sq ?_ | refine g_rg ?_ | refine g_r0 ?_ | refine g_ok rfl rfl ?_ | refine g_no rfl ?_ | refine g_no0 rfl ?_ | refine g_bk ?_ | refine g_b ?_ | refine g_sk ?_ | refine g_cT rfl ?_ | refine g_cF rfl ?_ | refine g_x rfl ?_ | refine g_lb ?_))
  exact g_ret (q_1 rfl h)
theorem b_r5 (hs : s.length ≤ 9223372036854775807) (h : K (.bool ([46].isSuffixOf s)) w) : CK Tryd.prog 59 [sv s] w K := by
  refine call_k Tryd.func59 k59 Tryd.ntmps59 (Nat.le_of_ble_eq_true rfl) ?_
  (repeat (first | refine g_sq ?_ | refine g_rg ?_ | refine g_r0 ?_ | refine g_ok rfl rfl ?_ | refine g_no rfl ?_ | refine g_no0 rfl ?_ | refine g_bk ?_ | refine g_b ?_ | refine g_sk ?_ | refine g_cT rfl ?_ | refine g_cF rfl ?_ | refine g_x rfl ?_ | refine g_lb ?_))
  refine g_cl rfl rfl (c_HasSuffix (s := s) (p := [46]) hs ?_)
  (repeat (first | refine g_sq ?_ | refine g_rg ?_ | refine g_r0 ?_ | refine g_ok rfl rfl ?_ | refine g_no rfl ?_ | refine g_no0 rfl ?_ | refine g_bk ?_ | refine g_b ?_ | refine g_sk ?_ | refine g_cT rfl ?_ | refine g_cF rfl ?_ | refine g_x rfl ?_ | refine g_lb ?_))
  exact g_ret (q_1 rfl h)
theorem b_has {p : Bs} {b : Nat} (hg : Gl w) (hs : s.length < 4294967281) (hB : Blk w b [sv p] 9) (h : K (.bool (Lib.contains s p)) w) : CK Tryd.prog 66 [sv s, dp b] w K := by
  refine call_k Tryd.func66 k66 Tryd.ntmps66 (Nat.le_of_ble_eq_true rfl) ?_
  (repeat (first | refine g_sq ?_ | refine g_rg ?_ | refine g_r0 ?_ | refine g_ok rfl rfl ?_ | refine g_no rfl ?_ | refine g_no0 rfl ?_ | refine g_bk ?_ | refine g_b ?_ | refine g_sk ?_ | refine g_cT rfl ?_ | refine g_cF rfl ?_ | refine g_x rfl ?_ | refine g_lb ?_))
  refine g_l1 rfl rfl hB rfl ?_
  refine g_cl rfl rfl (c_Contains (s := s) (p := p) hg hs ?_)
  (repeat (first | refine g_sq ?_ | refine g_rg ?_ | refine g_r0 ?_ | refine g_ok rfl rfl ?_ | refine g_no rfl ?_ | refine g_no0 rfl ?_ | refine g_bk ?_ | refine g_b ?_ | refine g_sk ?_ | refine g_cT rfl ?_ | refine g_cF rfl ?_ | refine g_x rfl ?_ | refine g_lb ?_))
  exact g_ret (q_1 rfl h)
theorem dec_1 {s : Bs} {k : Nat} (hk : k < s.length) (hb : s[k].toNat < 128) : Utf8.decode ⟨s.toArray⟩ k = (s[k].toNat, 1) := by
  have e : ((⟨s.toArray⟩ : ByteArray).get! (k + 0)) = s[k] := by
    show (s.toArray)[k + 0]! = s[k]
    simp [hk]
  unfold Utf8.decode
  simp only [e]
  rw [if_pos (by simpa using hb)]
theorem dec_2 {s : Bs} {k : Nat} (hk : k < s.length) (hb : ¬ s[k].toNat < 128) : 128 ≤ (Utf8.decode ⟨s.toArray⟩ k).1 := by
  have e : ((⟨s.toArray⟩ : ByteArray).get! (k + 0)) = s[k] := by
    show (s.toArray)[k + 0]! = s[k]
    simp [hk]
  have hr : Utf8.runeError = 65533 := rfl
  unfold Utf8.decode
  simp only [e]
  rw [if_neg (by simpa using hb)]
  split
  · split
    · simp only; omega
    · rw [hr]; simp
  · split
    · split
      · rename_i h; simp only [Bool.and_eq_true, decide_eq_true_eq] at h; have := h.1; simp only; omega
      · rw [hr]; simp
    · split
      · split
        · rename_i h; simp only [Bool.and_eq_true, decide_eq_true_eq] at h; have := h.1; simp only; omega
        · rw [hr]; simp
      · rw [hr]; simp
theorem enc_1 {c : UInt8} (h : c.toNat < 128) : Utf8.encode ((c.toNat : Nat) : Int) = ⟨#[c]⟩ := by
  have hv : Utf8.valid ((c.toNat : Nat) : Int) = true := by
    unfold Utf8.valid
    simp
    omega
  unfold Utf8.encode
  rw [if_pos hv]
  simp [h]
theorem b_byte (hg : Gl w) (h : ∀ w', St w (fun _ => False) w' [] → K (.bool (s.any fun c => !may c)) w') : CK Tryd.prog 51 [sv s] w K := by
  refine call_k Tryd.func51 k51 Tryd.ntmps51 (Nat.le_of_ble_eq_true rfl) ?_
  (repeat (first | refine g_sq ?_ | refine g_rg ?_ | refine g_r0 ?_ | refine g_ok rfl rfl ?_ | refine g_no rfl ?_ | refine g_no0 rfl ?_ | refine g_bk ?_ | refine g_b ?_ | refine g_sk ?_ | refine g_cT rfl ?_ | refine g_cF rfl ?_ | refine g_x rfl ?_ | refine g_lb ?_))
  refine g_ef rfl (ef_rg (s := ⟨s.toArray⟩) (St.nil w (fun _ => False)) rfl fun b w1 hS => ?_)
  (repeat (first | refine g_sq ?_ | refine g_rg ?_ | refine g_r0 ?_ | refine g_ok rfl rfl ?_ | refine g_no rfl ?_ | refine g_no0 rfl ?_ | refine g_bk ?_ | refine g_b ?_ | refine g_sk ?_ | refine g_cT rfl ?_ | refine g_cF rfl ?_ | refine g_x rfl ?_ | refine g_lb ?_))
  refine g_lp (ι := Nat) (fun k => [(0, sv s), (6, dp b)]) (fun k w' => k ≤ s.length ∧ (∀ j (hj : j < k) (hl : j < s.length), may s[j] = true) ∧ St w (fun _ => False) w' [obj b (.stringIter ⟨s.toArray⟩ k)]) (fun k => s.length - k) 0
    ⟨rfl, rfl, trivial⟩ ⟨Nat.zero_le _, fun j hj => absurd hj (Nat.not_lt_zero j), hS⟩ ?_
  clear hS
  rintro k w1 ⟨hk, hm, hS⟩
  (repeat (first | refine g_sq ?_ | refine g_rg ?_ | refine g_r0 ?_ | refine g_ok rfl rfl ?_ | refine g_no rfl ?_ | refine g_no0 rfl ?_ | refine g_bk ?_ | refine g_b ?_ | refine g_sk ?_ | refine g_cT rfl ?_ | refine g_cF rfl ?_ | refine g_x rfl ?_ | refine g_lb ?_))
  refine g_ef rfl (ef_nx hS 0 rfl rfl (fun hlt w1 hS => ?_) (fun hge => ?_))
  · have hlt : k < s.length := hlt
    (repeat (first | refine g_sq ?_ | refine g_rg ?_ | refine g_r0 ?_ | refine g_ok rfl rfl ?_ | refine g_no rfl ?_ | refine g_no0 rfl ?_ | refine g_bk ?_ | refine g_b ?_ | refine g_sk ?_ | refine g_cT rfl ?_ | refine g_cF rfl ?_ | refine g_x rfl ?_ | refine g_lb ?_))
    by_cases hb : s[k].toNat < 128
    · rw [dec_1 hlt hb] at hS ⊢
      generalize hq1 : cmv BinOp.lss ((s[k].toNat : Nat) : Int) 33 = q1
      have bad : may s[k] = false → s.any (fun c => !may c) = true := fun h => List.any_eq_true.2 ⟨s[k], List.getElem_mem hlt, by simp [h]⟩
      cases q1
      all_goals simp only [cmv, decide_eq_true_eq, decide_eq_false_iff_not] at hq1
      rotate_left
      · (repeat (first | refine g_sq ?_ | refine g_rg ?_ | refine g_r0 ?_ | refine g_ok rfl rfl ?_ | refine g_no rfl ?_ | refine g_no0 rfl ?_ | refine g_bk ?_ | refine g_b ?_ | refine g_sk ?_ | refine g_cT rfl ?_ | refine g_cF rfl ?_ | refine g_x rfl ?_ | refine g_lb ?_))
        have e := bad (by unfold may; rw [decide_eq_false (by omega)]; rfl)
        rw [e] at h
        exact g_ret (q_1 rfl (h _ (hS.sel [] rfl rfl)))
      (repeat (first | refine g_sq ?_ | refine g_rg ?_ | refine g_r0 ?_ | refine g_ok rfl rfl ?_ | refine g_no rfl ?_ | refine g_no0 rfl ?_ | refine g_bk ?_ | refine g_b ?_ | refine g_sk ?_ | refine g_cT rfl ?_ | refine g_cF rfl ?_ | refine g_x rfl ?_ | refine g_lb ?_))
      generalize hq2 : cmv BinOp.gtr ((s[k].toNat : Nat) : Int) 126 = q2
      cases q2
      all_goals simp only [cmv, decide_eq_true_eq, decide_eq_false_iff_not] at hq2
      rotate_left
      · (repeat (first | refine g_sq ?_ | refine g_rg ?_ | refine g_r0 ?_ | refine g_ok rfl rfl ?_ | refine g_no rfl ?_ | refine g_no0 rfl ?_ | refine g_bk ?_ | refine g_b ?_ | refine g_sk ?_ | refine g_cT rfl ?_ | refine g_cF rfl ?_ | refine g_x rfl ?_ | refine g_lb ?_))
        have e := bad (by unfold may; rw [decide_eq_false (show ¬ s[k].toNat ≤ 126 by omega), Bool.false_and, Bool.and_false])
        rw [e] at h
        exact g_ret (q_1 rfl (h _ (hS.sel [] rfl rfl)))
      (repeat (first | refine g_sq ?_ | refine g_rg ?_ | refine g_r0 ?_ | refine g_ok rfl rfl ?_ | refine g_no rfl ?_ | refine g_no0 rfl ?_ | refine g_bk ?_ | refine g_b ?_ | refine g_sk ?_ | refine g_cT rfl ?_ | refine g_cF rfl ?_ | refine g_x rfl ?_ | refine g_lb ?_))
      rw [enc_1 hb]
      refine g_cl rfl rfl (c_Contains (s := wrongB) (p := [s[k]]) (hg.in hS) (by decide) ?_)
      (repeat (first | refine g_sq ?_ | refine g_rg ?_ | refine g_r0 ?_ | refine g_ok rfl rfl ?_ | refine g_no rfl ?_ | refine g_no0 rfl ?_ | refine g_bk ?_ | refine g_b ?_ | refine g_sk ?_ | refine g_cT rfl ?_ | refine g_cF rfl ?_ | refine g_x rfl ?_ | refine g_lb ?_))
      refine g_cd (t := Lib.contains wrongB [s[k]]) rfl (fun hc => ?_) (fun hc => ?_)
      · (repeat (first | refine g_sq ?_ | refine g_rg ?_ | refine g_r0 ?_ | refine g_ok rfl rfl ?_ | refine g_no rfl ?_ | refine g_no0 rfl ?_ | refine g_bk ?_ | refine g_b ?_ | refine g_sk ?_ | refine g_cT rfl ?_ | refine g_cF rfl ?_ | refine g_x rfl ?_ | refine g_lb ?_))
        have e := bad (by unfold may; rw [hc]; simp)
        rw [e] at h
        exact g_ret (q_1 rfl (h _ (hS.sel [] rfl rfl)))
      · (repeat (first | refine g_sq ?_ | refine g_rg ?_ | refine g_r0 ?_ | refine g_ok rfl rfl ?_ | refine g_no rfl ?_ | refine g_no0 rfl ?_ | refine g_bk ?_ | refine g_b ?_ | refine g_sk ?_ | refine g_cT rfl ?_ | refine g_cF rfl ?_ | refine g_x rfl ?_ | refine g_lb ?_))
        refine g_l (k + 1) ⟨rfl, rfl, trivial⟩ ⟨hlt, fun j hj hl => ?_, hS⟩ (by omega)
        by_cases e : j = k
        · subst e
          unfold may
          rw [decide_eq_true (show 33 ≤ s[j].toNat by omega), decide_eq_true (show s[j].toNat ≤ 126 by omega), hc]
          rfl
        · exact hm j (by omega) hl
    · have hd := dec_2 hlt hb
      generalize Utf8.decode ⟨s.toArray⟩ k = dc at hS hd ⊢
      have e : s.any (fun c => !may c) = true := List.any_eq_true.2 ⟨s[k], List.getElem_mem hlt, by
        unfold may
        rw [decide_eq_false (show ¬ s[k].toNat ≤ 126 by omega)]
        simp⟩
      rw [e] at h
      generalize hq1 : cmv BinOp.lss (dc.1 : Int) 33 = q1
      cases q1
      all_goals simp only [cmv, decide_eq_true_eq, decide_eq_false_iff_not] at hq1
      · (repeat (first | refine g_sq ?_ | refine g_rg ?_ | refine g_r0 ?_ | refine g_ok rfl rfl ?_ | refine g_no rfl ?_ | refine g_no0 rfl ?_ | refine g_bk ?_ | refine g_b ?_ | refine g_sk ?_ | refine g_cT rfl ?_ | refine g_cF rfl ?_ | refine g_x rfl ?_ | refine g_lb ?_))
        generalize hq2 : cmv BinOp.gtr (dc.1 : Int) 126 = q2
        cases q2
        all_goals simp only [cmv, decide_eq_true_eq, decide_eq_false_iff_not] at hq2
        · omega
        (repeat (first | refine g_sq ?_ | refine g_rg ?_ | refine g_r0 ?_ | refine g_ok rfl rfl ?_ | refine g_no rfl ?_ | refine g_no0 rfl ?_ | refine g_bk ?_ | refine g_b ?_ | refine g_sk ?_ | refine g_cT rfl ?_ | refine g_cF rfl ?_ | refine g_x rfl ?_ | refine g_lb ?_))
        exact g_ret (q_1 rfl (h _ (hS.sel [] rfl rfl)))
      · omega
  · have hge : ¬ k < s.length := hge
    have e : s.any (fun c => !may c) = false := by
      rw [List.any_eq_false]
      intro c hc
      obtain ⟨j, hj, rfl⟩ := List.getElem_of_mem hc
      simp [hm j (by omega) hj]
    rw [e] at h
    (repeat (first | refine g_sq ?_ | refine g_rg ?_ | refine g_r0 ?_ | refine g_ok rfl rfl ?_ | refine g_no rfl ?_ | refine g_no0 rfl ?_ | refine g_bk ?_ | refine g_b ?_ | refine g_sk ?_ | refine g_cT rfl ?_ | refine g_cF rfl ?_ | refine g_x rfl ?_ | refine g_lb ?_))
    exact g_ret (q_1 rfl (h _ (hS.sel [] rfl rfl)))
theorem b_part {bad : Bs → Bool} {q b : Nat} (hq : ∀ {w : World} {K : Value → World → Prop} {p : Bs}, p ∈ prt s → K (.bool (bad p)) w → CK Tryd.prog q [sv p] w K) (he : ∀ (args : Array Value) (w : World), (callFunc q args).run Tryd.prog w = .ok (.enter q args) w)
    (hg : Gl w) (hs : s.length < 4294967281) (hB : Blr w b [.func (.func q) ⟨[]⟩ ⟨[]⟩] 92) (h : ∀ w', St w (fun _ => False) w' [] → K (.bool ((prt s).any bad)) w') : CK Tryd.prog 63 [sv s, dp b] w K := by
  refine call_k Tryd.func63 k63 Tryd.ntmps63 (Nat.le_of_ble_eq_true rfl) ?_
  (repeat (first | refine g_sq ?_ | refine g_rg ?_ | refine g_r0 ?_ | refine g_ok rfl rfl ?_ | refine g_no rfl ?_ | refine g_no0 rfl ?_ | refine g_bk ?_ | refine g_b ?_ | refine g_sk ?_ | refine g_cT rfl ?_ | refine g_cF rfl ?_ | refine g_x rfl ?_ | refine g_lb ?_))
  refine g_cl rfl rfl (c_Split (s := s) hg hs (St.nil w (fun _ => False)) fun w1 g n hn hns hS => ?_)
  have hBr : ∀ {w' : World} {L' : List Res}, St w (fun _ => False) w' L' → Blr w' b [.func (.func q) ⟨[]⟩ ⟨[]⟩] 92 := fun hS => hB.same (hS.fr.kept b hB.lt (fun h => h))
  (repeat (first | refine g_sq ?_ | refine g_rg ?_ | refine g_r0 ?_ | refine g_ok rfl rfl ?_ | refine g_no rfl ?_ | refine g_no0 rfl ?_ | refine g_bk ?_ | refine g_b ?_ | refine g_sk ?_ | refine g_cT rfl ?_ | refine g_cF rfl ?_ | refine g_x rfl ?_ | refine g_lb ?_))
  refine g_lp (ι := Nat) (fun k => [(0, sv s), (1, dp b), (7, .slice (some ⟨g, 0, none⟩) (n + 1) (n + 1)), (8, .int .i64 ((n + 1 : Nat) : Int)), (9, .int .i64 k)]) (fun k w' => k ≤ n + 1 ∧ (∀ j (hj : j < (prt s).length), j < k → bad (prt s)[j] = false) ∧ St w (fun _ => False) w' [cel g ((prt s).map sv) 9]) (fun k => n + 1 - k) 0
    ⟨rfl, rfl, rfl, rfl, rfl, trivial⟩ ⟨Nat.zero_le _, fun j _ hj => absurd hj (Nat.not_lt_zero j), hS⟩ ?_
  clear hS
  rintro k w1 ⟨hk, hm, hS⟩
  (repeat (first | refine g_sq ?_ | refine g_rg ?_ | refine g_r0 ?_ | refine g_ok rfl rfl ?_ | refine g_no rfl ?_ | refine g_no0 rfl ?_ | refine g_bk ?_ | refine g_b ?_ | refine g_sk ?_ | refine g_cT rfl ?_ | refine g_cF rfl ?_ | refine g_x rfl ?_ | refine g_lb ?_))
  refine g_cd rfl (fun hc => ?_) (fun hc => ?_)
  all_goals simp only [cmv, decide_eq_true_eq, decide_eq_false_iff_not] at hc
  · have hlt : k < (prt s).length := by omega
    have hp : (prt s)[k]? = some (prt s)[k] := List.getElem?_eq_getElem hlt
    have hpm : (prt s)[k] ∈ prt s := List.getElem_mem hlt
    have hmk := hm
    (repeat (first | refine g_sq ?_ | refine g_rg ?_ | refine g_r0 ?_ | refine g_ok rfl rfl ?_ | refine g_no rfl ?_ | refine g_no0 rfl ?_ | refine g_bk ?_ | refine g_b ?_ | refine g_sk ?_ | refine g_cT rfl ?_ | refine g_cF rfl ?_ | refine g_x rfl ?_ | refine g_lb ?_))
    refine g_rq rfl rfl ⟨by omega, by omega⟩ ?_
    refine g_l1 (v := sv (prt s)[k]) rfl rfl (hS.b 0 rfl) (by rw [Nat.zero_add, Int.toNat_natCast, Nat.mul_one, List.getElem?_map, hp]; rfl) ?_
    (repeat (first | refine g_sq ?_ | refine g_rg ?_ | refine g_r0 ?_ | refine g_ok rfl rfl ?_ | refine g_no rfl ?_ | refine g_no0 rfl ?_ | refine g_bk ?_ | refine g_b ?_ | refine g_sk ?_ | refine g_cT rfl ?_ | refine g_cF rfl ?_ | refine g_x rfl ?_ | refine g_lb ?_))
    refine g_l1r rfl rfl (hBr hS) rfl ?_
    (repeat (first | refine g_sq ?_ | refine g_rg ?_ | refine g_r0 ?_ | refine g_ok rfl rfl ?_ | refine g_no rfl ?_ | refine g_no0 rfl ?_ | refine g_bk ?_ | refine g_b ?_ | refine g_sk ?_ | refine g_cT rfl ?_ | refine g_cF rfl ?_ | refine g_x rfl ?_ | refine g_lb ?_))
    refine g_ef rfl (ef_cv (vs := [sv (prt s)[k]]) rfl rfl he (hq hpm ?_))
    (repeat (first | refine g_sq ?_ | refine g_rg ?_ | refine g_r0 ?_ | refine g_ok rfl rfl ?_ | refine g_no rfl ?_ | refine g_no0 rfl ?_ | refine g_bk ?_ | refine g_b ?_ | refine g_sk ?_ | refine g_cT rfl ?_ | refine g_cF rfl ?_ | refine g_x rfl ?_ | refine g_lb ?_))
    refine g_cd (t := bad (prt s)[k]) rfl (fun hc2 => ?_) (fun hc2 => ?_)
    · have e : (prt s).any bad = true := List.any_eq_true.2 ⟨_, hpm, hc2⟩
      rw [e] at h
      (repeat (first | refine g_sq ?_ | refine g_rg ?_ | refine g_r0 ?_ | refine g_ok rfl rfl ?_ | refine g_no rfl ?_ | refine g_no0 rfl ?_ | refine g_bk ?_ | refine g_b ?_ | refine g_sk ?_ | refine g_cT rfl ?_ | refine g_cF rfl ?_ | refine g_x rfl ?_ | refine g_lb ?_))
      exact g_ret (q_1 rfl (h _ (hS.sel [] rfl rfl)))
    · (repeat (first | refine g_sq ?_ | refine g_rg ?_ | refine g_r0 ?_ | refine g_ok rfl rfl ?_ | refine g_no rfl ?_ | refine g_no0 rfl ?_ | refine g_bk ?_ | refine g_b ?_ | refine g_sk ?_ | refine g_cT rfl ?_ | refine g_cF rfl ?_ | refine g_x rfl ?_ | refine g_lb ?_))
      refine g_rq rfl rfl (in64 (by simp only [arv]; omega)) ?_
      (repeat (first | refine g_sq ?_ | refine g_rg ?_ | refine g_r0 ?_ | refine g_ok rfl rfl ?_ | refine g_no rfl ?_ | refine g_no0 rfl ?_ | refine g_bk ?_ | refine g_b ?_ | refine g_sk ?_ | refine g_cT rfl ?_ | refine g_cF rfl ?_ | refine g_x rfl ?_ | refine g_lb ?_))
      refine g_l (k + 1) ⟨rfl, rfl, rfl, rfl, rfl, trivial⟩ ⟨by omega, fun j hj hl => ?_, hS⟩ (by omega)
      by_cases e : j = k
      · subst e; exact hc2
      · exact hm j hj (by omega)
  · have e : (prt s).any bad = false := by
      rw [List.any_eq_false]
      intro c hc
      obtain ⟨j, hj, rfl⟩ := List.getElem_of_mem hc
      simp [hm j hj (by omega)]
    rw [e] at h
    (repeat (first | refine g_sq ?_ | refine g_rg ?_ | refine g_r0 ?_ | refine g_ok rfl rfl ?_ | refine g_no rfl ?_ | refine g_no0 rfl ?_ | refine g_bk ?_ | refine g_b ?_ | refine g_sk ?_ | refine g_cT rfl ?_ | refine g_cF rfl ?_ | refine g_x rfl ?_ | refine g_lb ?_))
    exact g_ret (q_1 rfl (h _ (hS.sel [] rfl rfl)))
end
end Go.Proofs.YtbdpcpafjphmpaaDoor
