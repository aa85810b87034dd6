/- The document's layer 20: texts of listings, tips, finding. -/
import Derived.Test.YtibofabkpgigoaaGreatDoorNh7
import Derived.Test.YtibofabkpgigoaaGreatDoorNh3
import Derived.Test.YtibofabkpgigoaaGreatDoorNb7
import Derived.Test.YtibofabkpgigoaaGreatDoorNb9
import Derived.Test.YtibofabkpgigoaaGreatDoorNe9
import Derived.Test.YtibofabkpgigoaaGreatDoorNc2
import Derived.Test.YtibofabkpgigoaaGreatDoorNf2
import Derived.Test.YtibofabkpgigoaaGreatDoorNd5
import Derived.Test.YtibofabkpgigoaaGreatDoorNd2
set_option linter.unusedSimpArgs false
set_option linter.unusedVariables false
namespace Go.Proofs.YtibofabkpgigoaaGreatDoor
open Go.En

theorem flt_take (d : List Li) (k : Nat) : (((d.take k).map ln1).flatten).length ≤ ((d.map ln1).flatten).length := by
  conv => rhs; rw [← List.take_append_drop k d, List.map_append, List.flatten_append, List.length_append]
  exact Nat.le_add_right _ _
theorem rd_at1 {l : List Value} {off n : Nat} {d : List Li} (h : (l.drop off).take (n * 33) = fl lc d) (hn : d.length = n) {i : Nat} (hi : i < d.length) : (l.drop (off + i * 33 + 1)).take 32 = bys d[i].2.1 := by
  have h1 := congrArg (List.drop 1) (rd_at lc_len h hn hi)
  rw [List.drop_take, List.drop_drop] at h1
  exact h1
theorem eE_no {d : List Li} (h : chk d = false) : eE d = 200 := by unfold eE; rw [if_neg (by rw [h]; decide)]
theorem eE_ok {d : List Li} (h : chk d = true) : eE d = 0 := by unfold eE; rw [if_pos h]
theorem dec_sv (a b : Bs) : decide ((⟨a.toArray⟩ : ByteArray).data.toList = (⟨b.toArray⟩ : ByteArray).data.toList) = decide (a = b) := rfl
section
variable {w w0 : World} {S0 : Nat → Prop} {L B : List Res} {K : Value → World → Prop} {s : Bs} {E0 E1 : Nat}
set_option maxHeartbeats 2000000 in
theorem r_Text20 {d : List Li} {v : Value} {n : Nat} (hd : d.length = n) (hn : n < 2000000) (hlen : ∀ x ∈ d, x.1.length < 4294967281) (htot : (d.map ln1).flatten.length < 4294967281) (hr : Rd v E0 33 n (fl lc d) w)
    (h : ∀ w', St w (fun _ => False) w' [] → K (sv (txt d)) w') : CK Tryz.prog 30 [v] w K := by
  have hS := St.nil w (fun _ => False)
  have hrr : ∀ {L : List Res} (w' : World), St w (fun _ => False) w' L → Rd v E0 33 n (fl lc d) w' := fun w' hS => hr.same fun b hb => hS.fr.kept b (hr.lt b hb) (fun h => h)
  obtain ⟨a, c, rfl⟩ := hr.form
  refine call_k Tryz.func30 k30 Tryz.ntmps30 (Nat.le_of_ble_eq_true rfl) ?_
  (repeat (first | refine g_sq ?_ | refine g_rg ?_ | refine g_r0 ?_ | refine g_ok rfl rfl ?_ | refine g_no rfl ?_ | refine g_no0 rfl ?_ | refine g_bk ?_ | refine g_b ?_ | refine g_sk ?_ | refine g_cT rfl ?_ | refine g_cF rfl ?_ | refine g_x rfl ?_ | refine g_lb ?_))
  refine g_cl rfl rfl (r_Check20 hd hn hlen (hrr _ hS) fun w1 h' => ?_)
  replace hS := hS.call0.2 _ _ h'
  rw [List.append_nil] at hS
  clear h'
  cases hck : chk d
  · have e2 : txt d = [] := by unfold txt; rw [if_neg (by rw [hck]; decide)]
    rw [eE_no hck]
    rw [e2] at h
    (repeat (first | refine g_sq ?_ | refine g_rg ?_ | refine g_r0 ?_ | refine g_ok rfl rfl ?_ | refine g_no rfl ?_ | refine g_no0 rfl ?_ | refine g_bk ?_ | refine g_b ?_ | refine g_sk ?_ | refine g_cT rfl ?_ | refine g_cF rfl ?_ | refine g_x rfl ?_ | refine g_lb ?_))
    exact g_ret (q_1 rfl (h _ hS))
  · have e2 : txt d = (d.map ln1).flatten := by unfold txt; rw [if_pos hck]
    rw [eE_ok hck]
    rw [e2] at h
    (repeat (first | refine g_sq ?_ | refine g_rg ?_ | refine g_r0 ?_ | refine g_ok rfl rfl ?_ | refine g_no rfl ?_ | refine g_no0 rfl ?_ | refine g_bk ?_ | refine g_b ?_ | refine g_sk ?_ | refine g_cT rfl ?_ | refine g_cF rfl ?_ | refine g_x rfl ?_ | refine g_lb ?_))
    refine g_lp (ι := Nat) (fun k => [(0, .slice a n c), (3, sv ((d.take k).map ln1).flatten), (4, .int .i64 k)]) (fun k w' => k ≤ n ∧ St w (fun _ => False) w' []) (fun k => n - k) 0 ⟨rfl, rfl, rfl, trivial⟩ ⟨Nat.zero_le _, hS⟩ ?_
    clear hS
    rintro k w1 ⟨hk, hS⟩
    (repeat (first | refine g_sq ?_ | refine g_rg ?_ | refine g_r0 ?_ | refine g_ok rfl rfl ?_ | refine g_no rfl ?_ | refine g_no0 rfl ?_ | refine g_bk ?_ | refine g_b ?_ | refine g_sk ?_ | refine g_cT rfl ?_ | refine g_cF rfl ?_ | refine g_x rfl ?_ | refine g_lb ?_))
    (refine g_cd rfl (fun hlt => ?_) (fun hlt => ?_) <;> simp only [cmv, arv, Bool.not_eq_true', Bool.not_eq_false', decide_eq_true_eq, decide_eq_false_iff_not] at hlt)
    · have hlt : k < d.length := by omega
      have hA := Nat.lt_of_le_of_lt (flt_take d (k + 1)) htot
      have hst : ((d.take (k + 1)).map ln1).flatten = ((d.take k).map ln1).flatten ++ ln1 d[k] := by
        rw [List.take_succ_eq_append_getElem hlt, List.map_append, List.flatten_append]
        simp
      rw [hst, List.length_append, ln1_len] at hA
      have hi2 := d[k].2.2
      have hhx : (hex d[k].2.1).length = 64 := by rw [hex_len, hi2]
      (repeat (first | refine g_sq ?_ | refine g_rg ?_ | refine g_r0 ?_ | refine g_ok rfl rfl ?_ | refine g_no rfl ?_ | refine g_no0 rfl ?_ | refine g_bk ?_ | refine g_b ?_ | refine g_sk ?_ | refine g_cT rfl ?_ | refine g_cF rfl ?_ | refine g_x rfl ?_ | refine g_lb ?_))
      refine g_dr mixed ?_
      replace hS := hS.drew
      obtain ⟨b, off, cap, l, e1, hcap, hl, hx, hb⟩ := Rd.block (hrr _ hS) (by omega)
      cases e1
      have hbd : off + k * 33 + 33 ≤ l.length := by have : (k + 1) * 33 ≤ c * 33 := Nat.mul_le_mul_right 33 (by omega); omega
      (repeat (first | refine d_ok rfl rfl rfl ?_ | refine d_no rfl rfl ?_))
      refine d_rq rfl rfl rfl ⟨by omega, by omega⟩ ?_
      (repeat (first | refine d_ok rfl rfl rfl ?_ | refine d_no rfl rfl ?_))
      refine d_qt rfl rfl rfl (qt_ldmr rfl hb (by rw [Int.toNat_natCast]; omega)) ?_
      rw [Int.toNat_natCast, rd_at1 hx hd hlt]
      (repeat (first | refine d_ok rfl rfl rfl ?_ | refine d_no rfl rfl ?_))
      refine d_rq rfl rfl rfl ⟨by omega, by omega⟩ ?_
      (repeat (first | refine d_ok rfl rfl rfl ?_ | refine d_no rfl rfl ?_))
      refine d_l1r rfl rfl rfl hb (by rw [Int.toNat_natCast]; exact rd_at0 (c := c) hx hd hlt) ?_
      refine d_cl rfl rfl rfl (r_Text (id := d[k].2.1) d[k].2.2 fun w1 h' => ?_)
      replace hS := hS.call0.2 _ _ h'
      rw [List.append_nil] at hS
      obtain ⟨b3, off3, cap3, l3, e3, hcap3, hl3, hx3, hb3⟩ := Rd.block (hrr _ hS) (by omega)
      cases e3
      refine ⟨rc_1r rfl rfl rfl rfl hb3 (by rw [Int.toNat_natCast]; exact rd_at0 (c := c) hx3 hd hlt) rc_0, ?_⟩
      generalize ((d.take k).map ln1).flatten = A at hst hA ⊢
      have x1 := sv_app2 A (hex d[k].2.1)
      have x2 : (.string ((⟨(A ++ hex d[k].2.1).toArray⟩ : ByteArray) ++ ⟨#[32]⟩) : Value) = sv (A ++ hex d[k].2.1 ++ [32]) := sv_app2 _ [32]
      have x3 := sv_app2 (A ++ hex d[k].2.1 ++ [32]) d[k].1
      have x4 : (.string ((⟨(A ++ hex d[k].2.1 ++ [32] ++ d[k].1).toArray⟩ : ByteArray) ++ ⟨#[10]⟩) : Value) = sv (A ++ hex d[k].2.1 ++ [32] ++ d[k].1 ++ [10]) := sv_app2 _ [10]
      (repeat (first | refine d_ok rfl rfl rfl ?_ | refine d_no rfl rfl ?_))
      refine d_rq rfl rfl rfl (by simp [Lib.size_eq, hhx]; omega) ?_
      rw [x1]
      (repeat (first | refine d_ok rfl rfl rfl ?_ | refine d_no rfl rfl ?_))
      refine d_rq rfl rfl rfl (by simp [Lib.size_eq, hhx]; omega) ?_
      rw [x2]
      (repeat (first | refine d_ok rfl rfl rfl ?_ | refine d_no rfl rfl ?_))
      refine d_rq rfl rfl rfl (by simp [Lib.size_eq, hhx]; omega) ?_
      rw [x3]
      (repeat (first | refine d_ok rfl rfl rfl ?_ | refine d_no rfl rfl ?_))
      refine d_rq rfl rfl rfl (by simp [Lib.size_eq, hhx]; omega) ?_
      rw [x4]
      (repeat (first | refine d_ok rfl rfl rfl ?_ | refine d_no rfl rfl ?_))
      refine d_e rfl rfl ?_
      refine ef_qt ((pev_ok rfl).2 _) ⟨rc_0, ?_⟩
      refine d_fin ?_
      (repeat (first | refine g_sq ?_ | refine g_rg ?_ | refine g_r0 ?_ | refine g_ok rfl rfl ?_ | refine g_no rfl ?_ | refine g_no0 rfl ?_ | refine g_bk ?_ | refine g_b ?_ | refine g_sk ?_ | refine g_cT rfl ?_ | refine g_cF rfl ?_ | refine g_x rfl ?_ | refine g_lb ?_))
      refine g_rq rfl rfl (in64 (by simp only [arv]; omega)) ?_
      (repeat (first | refine g_sq ?_ | refine g_rg ?_ | refine g_r0 ?_ | refine g_ok rfl rfl ?_ | refine g_no rfl ?_ | refine g_no0 rfl ?_ | refine g_bk ?_ | refine g_b ?_ | refine g_sk ?_ | refine g_cT rfl ?_ | refine g_cF rfl ?_ | refine g_x rfl ?_ | refine g_lb ?_))
      refine g_l (k + 1) ⟨rfl, ?_, rfl, trivial⟩ ⟨by omega, hS⟩ (by omega)
      rw [hst]
      have e9 : A ++ hex d[k].2.1 ++ [32] ++ d[k].1 ++ [10] = A ++ ln1 d[k] := by unfold ln1; simp
      rw [← e9]
      rfl
    · have e : d.take k = d := List.take_of_length_le (by omega)
      rw [e]
      (repeat (first | refine g_sq ?_ | refine g_rg ?_ | refine g_r0 ?_ | refine g_ok rfl rfl ?_ | refine g_no rfl ?_ | refine g_no0 rfl ?_ | refine g_bk ?_ | refine g_b ?_ | refine g_sk ?_ | refine g_cT rfl ?_ | refine g_cF rfl ?_ | refine g_x rfl ?_ | refine g_lb ?_))
      exact g_ret (q_1 rfl (h _ hS))
theorem r_Texts20 {d e : List Bs} {v u : Value} {n m : Nat} (hd : d.length = n) (he : e.length = m) (hn : n < 2000000) (hm : m < 2000000) (hr : Rd v E0 1 n (d.map sv) w) (hu : Rd u E1 1 m (e.map sv) w) (h : ∀ w', St w (fun _ => False) w' [] → K (.bool (decide (d = e))) w') : CK Tryz.prog 28 [v, u] w K := by
  have hS := St.nil w (fun _ => False)
  have hrr : ∀ {L : List Res} (w' : World), St w (fun _ => False) w' L → Rd v E0 1 n (d.map sv) w' := fun w' hS => hr.same fun b hb => hS.fr.kept b (hr.lt b hb) (fun h => h)
  have huu : ∀ {L : List Res} (w' : World), St w (fun _ => False) w' L → Rd u E1 1 m (e.map sv) w' := fun w' hS => hu.same fun b hb => hS.fr.kept b (hu.lt b hb) (fun h => h)
  obtain ⟨a, c, rfl⟩ := hr.form
  obtain ⟨a2, c2, rfl⟩ := hu.form
  refine call_k Tryz.func28 k28 Tryz.ntmps28 (Nat.le_of_ble_eq_true rfl) ?_
  (repeat (first | refine g_sq ?_ | refine g_rg ?_ | refine g_r0 ?_ | refine g_ok rfl rfl ?_ | refine g_no rfl ?_ | refine g_no0 rfl ?_ | refine g_bk ?_ | refine g_b ?_ | refine g_sk ?_ | refine g_cT rfl ?_ | refine g_cF rfl ?_ | refine g_x rfl ?_ | refine g_lb ?_))
  (refine g_cd rfl (fun hc => ?_) (fun hc => ?_) <;> simp only [cmv, arv, Bool.not_eq_true', Bool.not_eq_false', decide_eq_true_eq, decide_eq_false_iff_not] at hc)
  · have e1 : decide (d = e) = false := decide_eq_false fun h1 => hc (by rw [← hd, ← he, h1])
    rw [e1] at h
    (repeat (first | refine g_sq ?_ | refine g_rg ?_ | refine g_r0 ?_ | refine g_ok rfl rfl ?_ | refine g_no rfl ?_ | refine g_no0 rfl ?_ | refine g_bk ?_ | refine g_b ?_ | refine g_sk ?_ | refine g_cT rfl ?_ | refine g_cF rfl ?_ | refine g_x rfl ?_ | refine g_lb ?_))
    exact g_ret (q_1 rfl (h _ hS))
  · have hnm : n = m := by omega
    subst hnm
    (repeat (first | refine g_sq ?_ | refine g_rg ?_ | refine g_r0 ?_ | refine g_ok rfl rfl ?_ | refine g_no rfl ?_ | refine g_no0 rfl ?_ | refine g_bk ?_ | refine g_b ?_ | refine g_sk ?_ | refine g_cT rfl ?_ | refine g_cF rfl ?_ | refine g_x rfl ?_ | refine g_lb ?_))
    refine g_lp (ι := Nat) (fun k => [(0, .slice a n c), (1, .slice a2 n c2), (5, .int .i64 k)]) (fun k w' => k ≤ n ∧ d.take k = e.take k ∧ St w (fun _ => False) w' []) (fun k => n - k) 0 ⟨rfl, rfl, rfl, trivial⟩ ⟨Nat.zero_le _, rfl, hS⟩ ?_
    clear hS
    rintro k w1 ⟨hk, hP, hS⟩
    (repeat (first | refine g_sq ?_ | refine g_rg ?_ | refine g_r0 ?_ | refine g_ok rfl rfl ?_ | refine g_no rfl ?_ | refine g_no0 rfl ?_ | refine g_bk ?_ | refine g_b ?_ | refine g_sk ?_ | refine g_cT rfl ?_ | refine g_cF rfl ?_ | refine g_x rfl ?_ | refine g_lb ?_))
    (refine g_cd rfl (fun hlt => ?_) (fun hlt => ?_) <;> simp only [cmv, arv, Bool.not_eq_true', Bool.not_eq_false', decide_eq_true_eq, decide_eq_false_iff_not] at hlt)
    · have hlt : k < n := by omega
      obtain ⟨b1, off, cap, l, e1, hcap, hl, hx, hb⟩ := Rd.block (hrr _ hS.drew) (by omega)
      cases e1
      obtain ⟨b3, off3, cap3, l3, e3, hcap3, hl3, hx3, hb3⟩ := Rd.block (huu _ hS.drew) (by omega)
      cases e3
      have hdm : (d.map sv).length = n := by rw [List.length_map]; exact hd
      have hem : (e.map sv).length = n := by rw [List.length_map]; exact he
      (repeat (first | refine g_sq ?_ | refine g_rg ?_ | refine g_r0 ?_ | refine g_ok rfl rfl ?_ | refine g_no rfl ?_ | refine g_no0 rfl ?_ | refine g_bk ?_ | refine g_b ?_ | refine g_sk ?_ | refine g_cT rfl ?_ | refine g_cF rfl ?_ | refine g_x rfl ?_ | refine g_lb ?_))
      refine g_dr mixed ?_
      replace hS := hS.drew
      (repeat (first | refine d_ok rfl rfl rfl ?_ | refine d_no rfl rfl ?_))
      refine d_rq rfl rfl rfl ⟨by omega, by omega⟩ ?_
      refine d_l1r rfl rfl rfl hb (by rw [Int.toNat_natCast]; exact rd_x' hx hdm (by omega)) ?_
      rw [List.getElem_map]
      (repeat (first | refine d_ok rfl rfl rfl ?_ | refine d_no rfl rfl ?_))
      refine d_rq rfl rfl rfl ⟨by omega, by omega⟩ ?_
      refine d_l1r rfl rfl rfl hb3 (by rw [Int.toNat_natCast]; exact rd_x' hx3 hem (by omega)) ?_
      rw [List.getElem_map]
      (repeat (first | refine d_ok rfl rfl rfl ?_ | refine d_no rfl rfl ?_))
      refine d_fin ?_
      generalize hde : decide ((⟨(d[k]'(by omega)).toArray⟩ : ByteArray).data.toList = (⟨(e[k]'(by omega)).toArray⟩ : ByteArray).data.toList) = q
      rw [dec_sv] at hde
      cases q
      · have e1 : decide (d = e) = false := decide_eq_false fun h1 => by
          subst h1
          simp at hde
        rw [e1] at h
        (repeat (first | refine g_sq ?_ | refine g_rg ?_ | refine g_r0 ?_ | refine g_ok rfl rfl ?_ | refine g_no rfl ?_ | refine g_no0 rfl ?_ | refine g_bk ?_ | refine g_b ?_ | refine g_sk ?_ | refine g_cT rfl ?_ | refine g_cF rfl ?_ | refine g_x rfl ?_ | refine g_lb ?_))
        exact g_ret (q_1 rfl (h _ hS))
      · rw [decide_eq_true_eq] at hde
        (repeat (first | refine g_sq ?_ | refine g_rg ?_ | refine g_r0 ?_ | refine g_ok rfl rfl ?_ | refine g_no rfl ?_ | refine g_no0 rfl ?_ | refine g_bk ?_ | refine g_b ?_ | refine g_sk ?_ | refine g_cT rfl ?_ | refine g_cF rfl ?_ | refine g_x rfl ?_ | refine g_lb ?_))
        refine g_rq rfl rfl (in64 (by simp only [arv]; omega)) ?_
        (repeat (first | refine g_sq ?_ | refine g_rg ?_ | refine g_r0 ?_ | refine g_ok rfl rfl ?_ | refine g_no rfl ?_ | refine g_no0 rfl ?_ | refine g_bk ?_ | refine g_b ?_ | refine g_sk ?_ | refine g_cT rfl ?_ | refine g_cF rfl ?_ | refine g_x rfl ?_ | refine g_lb ?_))
        refine g_l (k + 1) ⟨rfl, rfl, rfl, trivial⟩ ⟨by omega, ?_, hS⟩ (by omega)
        rw [List.take_succ_eq_append_getElem (by omega), List.take_succ_eq_append_getElem (by omega), hP, hde]
    · have e1 : decide (d = e) = true := decide_eq_true (by rw [← List.take_of_length_le (l := d) (i := k) (by omega), hP, List.take_of_length_le (by omega)])
      rw [e1] at h
      (repeat (first | refine g_sq ?_ | refine g_rg ?_ | refine g_r0 ?_ | refine g_ok rfl rfl ?_ | refine g_no rfl ?_ | refine g_no0 rfl ?_ | refine g_bk ?_ | refine g_b ?_ | refine g_sk ?_ | refine g_cT rfl ?_ | refine g_cF rfl ?_ | refine g_x rfl ?_ | refine g_lb ?_))
      exact g_ret (q_1 rfl (h _ hS))
set_option maxHeartbeats 2000000 in
theorem r_Tips20 {d : List Li} {v : Value} {n : Nat} (hd : d.length = n) (hn : n < 2000000) (hlen : ∀ x ∈ d, x.1.length < 4294967281) (hr : Rd v E0 33 n (fl lc d) w)
    (h : ∀ v' w', St w (fun _ => False) w' [row v' 35 32 (tipsOf d s).length (fl ic (tipsOf d s))] → K v' w') : CK Tryz.prog 27 [v, sv s] w K := by
  have hS := St.nil w (fun _ => False)
  have hrr : ∀ {L : List Res} (w' : World), St w (fun _ => False) w' L → Rd v E0 33 n (fl lc d) w' := fun w' hS => hr.same fun b hb => hS.fr.kept b (hr.lt b hb) (fun h => h)
  obtain ⟨a, c, rfl⟩ := hr.form
  refine call_k Tryz.func27 k27 Tryz.ntmps27 (Nat.le_of_ble_eq_true rfl) ?_
  (repeat (first | refine g_sq ?_ | refine g_rg ?_ | refine g_r0 ?_ | refine g_ok rfl rfl ?_ | refine g_no rfl ?_ | refine g_no0 rfl ?_ | refine g_bk ?_ | refine g_b ?_ | refine g_sk ?_ | refine g_cT rfl ?_ | refine g_cF rfl ?_ | refine g_x rfl ?_ | refine g_lb ?_))
  refine g_lp (ι := Nat × Value × List Id) (fun x => [(0, .slice a n c), (1, sv s), (5, x.2.1), (6, .int .i64 x.1)]) (fun x w' => x.1 ≤ n ∧ x.2.2 = tipsF (d.take x.1) s ∧ (chk d = false → x.1 = 0) ∧ St w (fun _ => False) w' [row x.2.1 35 32 x.2.2.length (fl ic x.2.2)]) (fun x => n - x.1) (0, .slice none 0 0, [])
    ⟨rfl, rfl, rfl, rfl, trivial⟩ ⟨Nat.zero_le _, rfl, fun _ => rfl, hS.nilrow 35 32⟩ ?_
  clear hS
  rintro ⟨k, vo, o⟩ w1 ⟨hk, ho, hz, hS⟩
  dsimp only at hk ho hz hS ⊢
  have hol : o.length ≤ k := by
    rw [ho]
    unfold tipsF
    rw [List.length_map]
    refine Nat.le_trans (List.length_filter_le _ _) ?_
    rw [List.length_take]
    omega
  have fin : (chk d = true → k = n) → o = (if chk d = true then tipsF d s else []) := fun h1 => by
    cases hck : chk d
    · rw [hz hck] at ho
      rw [ho]
      rfl
    · rw [if_pos rfl, ho, List.take_of_length_le (by have := h1 hck; omega)]
  have done : (chk d = true → k = n) → ∀ {w1 : World} {vo : Value}, St w (fun _ => False) w1 [row vo 35 32 o.length (fl ic o)] → CK Tryz.prog 58 [vo] w1 fun v w' => St w (fun _ => False) w' [row vo 35 32 o.length (fl ic o), row v 35 32 (tipsOf d s).length (fl ic (tipsOf d s))] := fun h1 {w1} {vo} hS => by
    refine r_Set (d := o) rfl (by omega) (Ow.rd (hS.ok 0 _ rfl)) fun v2 w2 h' => ?_
    replace hS := hS.call0.2 _ _ h'
    have e2 : tipsOf d s = iset o := by
      unfold tipsOf
      rw [fin h1]
      cases chk d
      · rw [if_neg (by decide), if_neg (by decide)]
        exact iset_none.symm
      · rw [if_pos rfl, if_pos rfl]
    rw [e2]
    exact hS
  (repeat (first | refine g_sq ?_ | refine g_rg ?_ | refine g_r0 ?_ | refine g_ok rfl rfl ?_ | refine g_no rfl ?_ | refine g_no0 rfl ?_ | refine g_bk ?_ | refine g_b ?_ | refine g_sk ?_ | refine g_cT rfl ?_ | refine g_cF rfl ?_ | refine g_x rfl ?_ | refine g_lb ?_))
  (generalize q1 : cmv _ _ _ = q; cases q <;> simp only [cmv, arv, Bool.not_eq_true', Bool.not_eq_false', decide_eq_true_eq, decide_eq_false_iff_not] at q1 <;> first | (exfalso; omega) | skip)
  · (repeat (first | refine g_sq ?_ | refine g_rg ?_ | refine g_r0 ?_ | refine g_ok rfl rfl ?_ | refine g_no rfl ?_ | refine g_no0 rfl ?_ | refine g_bk ?_ | refine g_b ?_ | refine g_sk ?_ | refine g_cT rfl ?_ | refine g_cF rfl ?_ | refine g_x rfl ?_ | refine g_lb ?_))
    refine g_cl rfl rfl (CK.mono (done (fun _ => by omega) hS) fun v2 w2 hS => ?_)
    (repeat (first | refine g_sq ?_ | refine g_rg ?_ | refine g_r0 ?_ | refine g_ok rfl rfl ?_ | refine g_no rfl ?_ | refine g_no0 rfl ?_ | refine g_bk ?_ | refine g_b ?_ | refine g_sk ?_ | refine g_cT rfl ?_ | refine g_cF rfl ?_ | refine g_x rfl ?_ | refine g_lb ?_))
    exact g_ret (q_1 rfl (h _ _ (hS.sel [1] rfl rfl)))
  · have hlt : k < d.length := by omega
    (repeat (first | refine g_sq ?_ | refine g_rg ?_ | refine g_r0 ?_ | refine g_ok rfl rfl ?_ | refine g_no rfl ?_ | refine g_no0 rfl ?_ | refine g_bk ?_ | refine g_b ?_ | refine g_sk ?_ | refine g_cT rfl ?_ | refine g_cF rfl ?_ | refine g_x rfl ?_ | refine g_lb ?_))
    refine g_cl rfl rfl (r_Check20 hd hn hlen (hrr _ hS) fun w1 h' => ?_)
    replace hS := hS.call0.2 _ _ h'
    rw [List.append_nil] at hS
    clear h'
    cases hck : chk d
    · rw [eE_no hck]
      (repeat (first | refine g_sq ?_ | refine g_rg ?_ | refine g_r0 ?_ | refine g_ok rfl rfl ?_ | refine g_no rfl ?_ | refine g_no0 rfl ?_ | refine g_bk ?_ | refine g_b ?_ | refine g_sk ?_ | refine g_cT rfl ?_ | refine g_cF rfl ?_ | refine g_x rfl ?_ | refine g_lb ?_))
      refine g_cl rfl rfl (CK.mono (done (fun h1 => by rw [hck] at h1; cases h1) hS) fun v2 w2 hS => ?_)
      (repeat (first | refine g_sq ?_ | refine g_rg ?_ | refine g_r0 ?_ | refine g_ok rfl rfl ?_ | refine g_no rfl ?_ | refine g_no0 rfl ?_ | refine g_bk ?_ | refine g_b ?_ | refine g_sk ?_ | refine g_cT rfl ?_ | refine g_cF rfl ?_ | refine g_x rfl ?_ | refine g_lb ?_))
      exact g_ret (q_1 rfl (h _ _ (hS.sel [1] rfl rfl)))
    · rw [eE_ok hck]
      obtain ⟨b, off, cap, l, e1, hcap, hl, hx, hb⟩ := Rd.block (hrr _ hS) (by omega)
      cases e1
      have hbd : off + k * 33 + 33 ≤ l.length := by have : (k + 1) * 33 ≤ c * 33 := Nat.mul_le_mul_right 33 (by omega); omega
      have hst : tipsF (d.take (k + 1)) s = tipsF (d.take k) s ++ if ofRef s d[k] then [d[k].2] else [] := by
        unfold tipsF
        rw [List.take_succ_eq_append_getElem hlt, List.filter_append, List.map_append]
        congr 1
        cases hq : ofRef s d[k]
        · simp [hq]
        · simp [hq]
      (repeat (first | refine g_sq ?_ | refine g_rg ?_ | refine g_r0 ?_ | refine g_ok rfl rfl ?_ | refine g_no rfl ?_ | refine g_no0 rfl ?_ | refine g_bk ?_ | refine g_b ?_ | refine g_sk ?_ | refine g_cT rfl ?_ | refine g_cF rfl ?_ | refine g_x rfl ?_ | refine g_lb ?_))
      refine g_rq rfl rfl ⟨by omega, by omega⟩ ?_
      refine g_lmr rfl rfl hb (by rw [Int.toNat_natCast]; exact hbd) ?_
      rw [Int.toNat_natCast, rd_at lc_len hx hd hlt]
      refine g_cl rfl rfl (r_one (x := d[k]) (by have := hlen _ (List.getElem_mem hlt); omega) fun w1 h' => ?_)
      replace hS := hS.call0.2 _ _ h'
      rw [List.append_nil] at hS
      clear h'
      rw [oneR_ok (chk_ent hck _ (List.getElem_mem hlt))]
      (repeat (first | refine g_sq ?_ | refine g_rg ?_ | refine g_r0 ?_ | refine g_ok rfl rfl ?_ | refine g_no rfl ?_ | refine g_no0 rfl ?_ | refine g_bk ?_ | refine g_b ?_ | refine g_sk ?_ | refine g_cT rfl ?_ | refine g_cF rfl ?_ | refine g_x rfl ?_ | refine g_lb ?_))
      generalize hq : decide ((⟨(ent d[k]).1.toArray⟩ : ByteArray).data.toList = (⟨s.toArray⟩ : ByteArray).data.toList) = q
      have hq2 : ofRef s d[k] = q := hq
      rw [hq2] at hst
      cases q
      · (repeat (first | refine g_sq ?_ | refine g_rg ?_ | refine g_r0 ?_ | refine g_ok rfl rfl ?_ | refine g_no rfl ?_ | refine g_no0 rfl ?_ | refine g_bk ?_ | refine g_b ?_ | refine g_sk ?_ | refine g_cT rfl ?_ | refine g_cF rfl ?_ | refine g_x rfl ?_ | refine g_lb ?_))
        refine g_rq rfl rfl (in64 (by simp only [arv]; omega)) ?_
        (repeat (first | refine g_sq ?_ | refine g_rg ?_ | refine g_r0 ?_ | refine g_ok rfl rfl ?_ | refine g_no rfl ?_ | refine g_no0 rfl ?_ | refine g_bk ?_ | refine g_b ?_ | refine g_sk ?_ | refine g_cT rfl ?_ | refine g_cF rfl ?_ | refine g_x rfl ?_ | refine g_lb ?_))
        refine g_l (k + 1, vo, o) ⟨rfl, rfl, rfl, rfl, trivial⟩ ⟨by simp only; omega, ?_, nofun, hS⟩ (by simp only; omega)
        dsimp only
        rw [hst, ho, if_neg (by decide), List.append_nil]
      · obtain ⟨b3, off3, cap3, l3, e3, hcap3, hl3, hx3, hb3⟩ := Rd.block (hrr _ hS) (by omega)
        cases e3
        have hbd3 : off + k * 33 + 33 ≤ l3.length := by have : (k + 1) * 33 ≤ c * 33 := Nat.mul_le_mul_right 33 (by omega); omega
        (repeat (first | refine g_sq ?_ | refine g_rg ?_ | refine g_r0 ?_ | refine g_ok rfl rfl ?_ | refine g_no rfl ?_ | refine g_no0 rfl ?_ | refine g_bk ?_ | refine g_b ?_ | refine g_sk ?_ | refine g_cT rfl ?_ | refine g_cF rfl ?_ | refine g_x rfl ?_ | refine g_lb ?_))
        refine g_rq rfl rfl ⟨by omega, by omega⟩ ?_
        (repeat (first | refine g_sq ?_ | refine g_rg ?_ | refine g_r0 ?_ | refine g_ok rfl rfl ?_ | refine g_no rfl ?_ | refine g_no0 rfl ?_ | refine g_bk ?_ | refine g_b ?_ | refine g_sk ?_ | refine g_cT rfl ?_ | refine g_cF rfl ?_ | refine g_x rfl ?_ | refine g_lb ?_))
        refine g_lmr rfl rfl hb3 (by rw [Int.toNat_natCast]; omega) ?_
        rw [Int.toNat_natCast, rd_at1 hx3 hd hlt]
        have hone : (ic d[k].2).all (·.oneCell') = true := List.all_eq_true.2 (ic_one d[k].2)
        refine g_ef rfl (ef_bl (rs := ic d[k].2) hS (evcs_1 rfl (ic_len _)) fun g w2 hS => ?_)
        refine g_ef rfl (ef_ap (bytes := 32) (n := o.length) (m := 1) (ys := ic d[k].2) hS 0 rfl rfl rfl (.inl ⟨35, .inr ⟨g, 0, 1, _, rfl, Nat.le_refl _, Nat.le_of_eq (by rw [ic_len]), by rw [List.drop_zero, List.take_of_length_le (Nat.le_of_eq (ic_len _))], (hS.b 1 rfl).r⟩⟩) hone (by omega) (by omega) fun v1 w2 hS => ?_)
        have hap : fl ic o ++ ic d[k].2 = fl ic (o ++ [d[k].2]) := by rw [fl_app]; simp [fl]
        rw [hap, show o.length + 1 = (o ++ [d[k].2]).length by simp] at hS
        (repeat (first | refine g_sq ?_ | refine g_rg ?_ | refine g_r0 ?_ | refine g_ok rfl rfl ?_ | refine g_no rfl ?_ | refine g_no0 rfl ?_ | refine g_bk ?_ | refine g_b ?_ | refine g_sk ?_ | refine g_cT rfl ?_ | refine g_cF rfl ?_ | refine g_x rfl ?_ | refine g_lb ?_))
        refine g_rq rfl rfl (in64 (by simp only [arv]; omega)) ?_
        (repeat (first | refine g_sq ?_ | refine g_rg ?_ | refine g_r0 ?_ | refine g_ok rfl rfl ?_ | refine g_no rfl ?_ | refine g_no0 rfl ?_ | refine g_bk ?_ | refine g_b ?_ | refine g_sk ?_ | refine g_cT rfl ?_ | refine g_cF rfl ?_ | refine g_x rfl ?_ | refine g_lb ?_))
        refine g_l (k + 1, v1, o ++ [d[k].2]) ⟨rfl, rfl, rfl, rfl, trivial⟩ ⟨by simp only; omega, ?_, nofun, hS.sel [0] rfl rfl⟩ (by simp only; omega)
        dsimp only
        rw [hst, ho, if_pos rfl]
theorem r_Find20 {d : List Li} {v : Value} {n : Nat} (hd : d.length = n) (hn : n < 2000000) (hlen : ∀ x ∈ d, x.1.length < 4294967281) (hr : Rd v E0 33 n (fl lc d) w)
    (h : ∀ w', St w (fun _ => False) w' [] → K (.tuple ⟨[.agg ⟨bys ((fnd d s).getD ⟨zid, zid_len⟩).1⟩, .bool (fnd d s).isSome]⟩) w') : CK Tryz.prog 23 [v, sv s] w K := by
  have hS := St.nil w (fun _ => False)
  have hrr : ∀ {L : List Res} (w' : World), St w (fun _ => False) w' L → Rd v E0 33 n (fl lc d) w' := fun w' hS => hr.same fun b hb => hS.fr.kept b (hr.lt b hb) (fun h => h)
  obtain ⟨a, c, rfl⟩ := hr.form
  have l0 : (bys zid).length = 32 := by rw [bys_length, zid_len]
  refine call_k Tryz.func23 k23 Tryz.ntmps23 (Nat.le_of_ble_eq_true rfl) ?_
  (repeat (first | refine g_sq ?_ | refine g_rg ?_ | refine g_r0 ?_ | refine g_ok rfl rfl ?_ | refine g_no rfl ?_ | refine g_no0 rfl ?_ | refine g_bk ?_ | refine g_b ?_ | refine g_sk ?_ | refine g_cT rfl ?_ | refine g_cF rfl ?_ | refine g_x rfl ?_ | refine g_lb ?_))
  refine g_ef rfl (ef_al hS fun b4 w1 hS => ?_)
  replace hS : St w (fun _ => False) w1 [cel b4 (bys zid) 35] := hS
  (repeat (first | refine g_sq ?_ | refine g_rg ?_ | refine g_r0 ?_ | refine g_ok rfl rfl ?_ | refine g_no rfl ?_ | refine g_no0 rfl ?_ | refine g_bk ?_ | refine g_b ?_ | refine g_sk ?_ | refine g_cT rfl ?_ | refine g_cF rfl ?_ | refine g_x rfl ?_ | refine g_lb ?_))
  refine g_atx (ι := Unit) 2 (fun _ => [(4, dp b4)]) (fun _ w' => fnd d s = none ∧ St w (fun _ => False) w' [cel b4 (bys zid) 35]) rfl ?_ ?_
  · refine g_lp (ι := Nat) (fun k => [(0, .slice a n c), (1, sv s), (4, dp b4), (6, .int .i64 k)]) (fun k w' => k ≤ n ∧ (∀ j (hj : j < d.length), j < k → d[j].1 ≠ s) ∧ St w (fun _ => False) w' [cel b4 (bys zid) 35]) (fun k => n - k) 0
      ⟨rfl, rfl, rfl, rfl, trivial⟩ ⟨Nat.zero_le _, fun j _ h => absurd h (Nat.not_lt_zero j), hS⟩ ?_
    clear hS
    rintro k w1 ⟨hk, hP, hS⟩
    (repeat (first | refine g_sq ?_ | refine g_rg ?_ | refine g_r0 ?_ | refine g_ok rfl rfl ?_ | refine g_no rfl ?_ | refine g_no0 rfl ?_ | refine g_bk ?_ | refine g_b ?_ | refine g_sk ?_ | refine g_cT rfl ?_ | refine g_cF rfl ?_ | refine g_x rfl ?_ | refine g_lb ?_))
    (generalize q1 : cmv _ _ _ = q; cases q <;> simp only [cmv, arv, Bool.not_eq_true', Bool.not_eq_false', decide_eq_true_eq, decide_eq_false_iff_not] at q1 <;> first | (exfalso; omega) | skip)
    · (repeat (first | refine g_sq ?_ | refine g_rg ?_ | refine g_r0 ?_ | refine g_ok rfl rfl ?_ | refine g_no rfl ?_ | refine g_no0 rfl ?_ | refine g_bk ?_ | refine g_b ?_ | refine g_sk ?_ | refine g_cT rfl ?_ | refine g_cF rfl ?_ | refine g_x rfl ?_ | refine g_lb ?_))
      refine g_jx () ⟨rfl, trivial⟩ ⟨?_, hS⟩
      unfold fnd
      cases chk d
      · rw [if_neg (by decide)]
      · rw [if_pos rfl]
        have : d.find? (fun x => decide (x.1 = s)) = none := by
          rw [List.find?_eq_none]
          intro x hx
          obtain ⟨j, hj, rfl⟩ := List.getElem_of_mem hx
          rw [decide_eq_true_eq]
          exact hP j hj (by omega)
        rw [this]
        rfl
    · have hlt : k < d.length := by omega
      (repeat (first | refine g_sq ?_ | refine g_rg ?_ | refine g_r0 ?_ | refine g_ok rfl rfl ?_ | refine g_no rfl ?_ | refine g_no0 rfl ?_ | refine g_bk ?_ | refine g_b ?_ | refine g_sk ?_ | refine g_cT rfl ?_ | refine g_cF rfl ?_ | refine g_x rfl ?_ | refine g_lb ?_))
      refine g_cl rfl rfl (r_Check20 hd hn hlen (hrr _ hS) fun w1 h' => ?_)
      replace hS := hS.call0.2 _ _ h'
      rw [List.append_nil] at hS
      clear h'
      cases hck : chk d
      · rw [eE_no hck]
        (repeat (first | refine g_sq ?_ | refine g_rg ?_ | refine g_r0 ?_ | refine g_ok rfl rfl ?_ | refine g_no rfl ?_ | refine g_no0 rfl ?_ | refine g_bk ?_ | refine g_b ?_ | refine g_sk ?_ | refine g_cT rfl ?_ | refine g_cF rfl ?_ | refine g_x rfl ?_ | refine g_lb ?_))
        exact g_jx () ⟨rfl, trivial⟩ ⟨by unfold fnd; rw [if_neg (by rw [hck]; decide)], hS⟩
      · rw [eE_ok hck]
        obtain ⟨b, off, cap, l, e1, hcap, hl, hx, hb⟩ := Rd.block (hrr _ hS) (by omega)
        cases e1
        have hbd : off + k * 33 + 33 ≤ l.length := by have : (k + 1) * 33 ≤ c * 33 := Nat.mul_le_mul_right 33 (by omega); omega
        (repeat (first | refine g_sq ?_ | refine g_rg ?_ | refine g_r0 ?_ | refine g_ok rfl rfl ?_ | refine g_no rfl ?_ | refine g_no0 rfl ?_ | refine g_bk ?_ | refine g_b ?_ | refine g_sk ?_ | refine g_cT rfl ?_ | refine g_cF rfl ?_ | refine g_x rfl ?_ | refine g_lb ?_))
        refine g_rq rfl rfl ⟨by omega, by omega⟩ ?_
        (repeat (first | refine g_sq ?_ | refine g_rg ?_ | refine g_r0 ?_ | refine g_ok rfl rfl ?_ | refine g_no rfl ?_ | refine g_no0 rfl ?_ | refine g_bk ?_ | refine g_b ?_ | refine g_sk ?_ | refine g_cT rfl ?_ | refine g_cF rfl ?_ | refine g_x rfl ?_ | refine g_lb ?_))
        refine g_l1r rfl rfl hb (by rw [Int.toNat_natCast]; exact rd_at0 (c := c) hx hd hlt) ?_
        (repeat (first | refine g_sq ?_ | refine g_rg ?_ | refine g_r0 ?_ | refine g_ok rfl rfl ?_ | refine g_no rfl ?_ | refine g_no0 rfl ?_ | refine g_bk ?_ | refine g_b ?_ | refine g_sk ?_ | refine g_cT rfl ?_ | refine g_cF rfl ?_ | refine g_x rfl ?_ | refine g_lb ?_))
        generalize hq : decide ((⟨d[k].1.toArray⟩ : ByteArray).data.toList = (⟨s.toArray⟩ : ByteArray).data.toList) = q
        rw [dec_sv] at hq
        cases q
        · (repeat (first | refine g_sq ?_ | refine g_rg ?_ | refine g_r0 ?_ | refine g_ok rfl rfl ?_ | refine g_no rfl ?_ | refine g_no0 rfl ?_ | refine g_bk ?_ | refine g_b ?_ | refine g_sk ?_ | refine g_cT rfl ?_ | refine g_cF rfl ?_ | refine g_x rfl ?_ | refine g_lb ?_))
          refine g_rq rfl rfl (in64 (by simp only [arv]; omega)) ?_
          (repeat (first | refine g_sq ?_ | refine g_rg ?_ | refine g_r0 ?_ | refine g_ok rfl rfl ?_ | refine g_no rfl ?_ | refine g_no0 rfl ?_ | refine g_bk ?_ | refine g_b ?_ | refine g_sk ?_ | refine g_cT rfl ?_ | refine g_cF rfl ?_ | refine g_x rfl ?_ | refine g_lb ?_))
          refine g_l (k + 1) ⟨rfl, rfl, rfl, rfl, trivial⟩ ⟨by omega, fun j hj hjk => ?_, hS⟩ (by omega)
          by_cases e : j = k
          · subst e; exact of_decide_eq_false hq
          · exact hP j hj (by omega)
        · have e3 : fnd d s = some d[k].2 := by
            unfold fnd
            rw [if_pos hck]
            have : d.find? (fun x => decide (x.1 = s)) = some d[k] := by
              rw [List.find?_eq_some_iff_getElem]
              refine ⟨by simpa using of_decide_eq_true hq, k, hlt, rfl, fun j hj => ?_⟩
              simpa using hP j (by omega) hj
            rw [this]
            rfl
          rw [e3] at h
          have l1 : (bys d[k].2.1).length = 32 := ic_len d[k].2
          (repeat (first | refine g_sq ?_ | refine g_rg ?_ | refine g_r0 ?_ | refine g_ok rfl rfl ?_ | refine g_no rfl ?_ | refine g_no0 rfl ?_ | refine g_bk ?_ | refine g_b ?_ | refine g_sk ?_ | refine g_cT rfl ?_ | refine g_cF rfl ?_ | refine g_x rfl ?_ | refine g_lb ?_))
          refine g_rq rfl rfl ⟨by omega, by omega⟩ ?_
          (repeat (first | refine g_sq ?_ | refine g_rg ?_ | refine g_r0 ?_ | refine g_ok rfl rfl ?_ | refine g_no rfl ?_ | refine g_no0 rfl ?_ | refine g_bk ?_ | refine g_b ?_ | refine g_sk ?_ | refine g_cT rfl ?_ | refine g_cF rfl ?_ | refine g_x rfl ?_ | refine g_lb ?_))
          refine g_lmr rfl rfl hb (by rw [Int.toNat_natCast]; omega) ?_
          rw [Int.toNat_natCast, rd_at1 hx hd hlt]
          (repeat (first | refine g_sq ?_ | refine g_rg ?_ | refine g_r0 ?_ | refine g_ok rfl rfl ?_ | refine g_no rfl ?_ | refine g_no0 rfl ?_ | refine g_bk ?_ | refine g_b ?_ | refine g_sk ?_ | refine g_cT rfl ?_ | refine g_cF rfl ?_ | refine g_x rfl ?_ | refine g_lb ?_))
          refine g_ef0 rfl (ef_st hS 0 rfl rfl rfl l1 (Nat.le_of_eq l0.symm) (bys_one _) fun w1 hS => ?_)
          replace hS := hS.ceq (l' := bys d[k].2.1) 0 rfl (spl_full _ _ (l1.trans l0.symm))
          (repeat (first | refine g_sq ?_ | refine g_rg ?_ | refine g_r0 ?_ | refine g_ok rfl rfl ?_ | refine g_no rfl ?_ | refine g_no0 rfl ?_ | refine g_bk ?_ | refine g_b ?_ | refine g_sk ?_ | refine g_cT rfl ?_ | refine g_cF rfl ?_ | refine g_x rfl ?_ | refine g_lb ?_))
          refine g_ret (q_c2 (n := 32) rfl (by kernel_rfl) (hS.b 0 rfl) (Nat.le_of_eq l1.symm) rfl ?_)
          rw [List.drop_zero, List.take_of_length_le (Nat.le_of_eq l1)]
          exact h _ (hS.sel [] rfl rfl)
  · clear hS
    rintro _ T w1 hT ⟨e2, hS⟩
    refine g_wkc hT ?_
    rw [e2] at h
    (repeat (first | refine g_sq ?_ | refine g_rg ?_ | refine g_r0 ?_ | refine g_ok rfl rfl ?_ | refine g_no rfl ?_ | refine g_no0 rfl ?_ | refine g_bk ?_ | refine g_b ?_ | refine g_sk ?_ | refine g_cT rfl ?_ | refine g_cF rfl ?_ | refine g_x rfl ?_ | refine g_lb ?_))
    refine g_ef0 rfl (ef_st (u := .agg ⟨bys zid⟩) hS 0 rfl rfl rfl l0 (Nat.le_of_eq l0.symm) (by decide) fun w1 hS => ?_)
    replace hS := hS.ceq (l' := bys zid) 0 rfl (spl_full _ _ rfl)
    (repeat (first | refine g_sq ?_ | refine g_rg ?_ | refine g_r0 ?_ | refine g_ok rfl rfl ?_ | refine g_no rfl ?_ | refine g_no0 rfl ?_ | refine g_bk ?_ | refine g_b ?_ | refine g_sk ?_ | refine g_cT rfl ?_ | refine g_cF rfl ?_ | refine g_x rfl ?_ | refine g_lb ?_))
    refine g_ret (q_c2 (n := 32) rfl (by kernel_rfl) (hS.b 0 rfl) (Nat.le_of_eq l0.symm) rfl ?_)
    rw [List.drop_zero, List.take_of_length_le (Nat.le_of_eq l0)]
    exact h _ (hS.sel [] rfl rfl)
end
end Go.Proofs.YtibofabkpgigoaaGreatDoor
namespace Go.Proofs.YtibofabkpgigoaaGreatDoor
open Go.En

theorem sset_of {l m : List Bs} (hm : m.Pairwise (lts fun s : Bs => s)) (h : ∀ x, x ∈ m ↔ x ∈ l) : sset l = m :=
  lts_unique _ (fun _ _ e => e) (kset_sorted _ (fun _ _ e => e) l) hm fun x => (mem_kset _ l x).trans (h x).symm
theorem ble_of {a b : Bs} (h : ¬ Lib.compareBytes a b < 0) : ble b a = true := by
  unfold ble
  rw [decide_eq_true_eq]
  have := cb_neg a b
  omega
theorem str_no {o : List Bs} {x : Bs} {j : Nat} (ho : o.Pairwise (lts fun s : Bs => s)) (h1 : ∀ i (hi : i < o.length), i < j → Lib.compareBytes o[i] x < 0) (h2 : ∀ hj : j < o.length, ¬ Lib.compareBytes o[j] x < 0) (h3 : ∀ hj : j < o.length, o[j] ≠ x) : x ∉ o := by
  intro hx
  obtain ⟨i, hi, rfl⟩ := List.getElem_of_mem hx
  rcases Nat.lt_trichotomy i j with hij | rfl | hij
  · have := h1 i hi hij
    rw [cb_self] at this
    omega
  · exact h3 hi rfl
  · have hj : j < o.length := by omega
    have h4 : ble o[j] o[i] = true := (List.pairwise_iff_getElem.1 ho j i hj hi hij).1
    have h5 := h2 hj
    exact h3 hj (ble_anti h4 (ble_of h5))
theorem str_ins {o : List Bs} {x : Bs} {j : Nat} (ho : o.Pairwise (lts fun s : Bs => s)) (hx : x ∉ o) (h1 : ∀ i (hi : i < o.length), i < j → Lib.compareBytes o[i] x < 0) (h2 : ∀ hj : j < o.length, ¬ Lib.compareBytes o[j] x < 0) :
    (insAt o j x).Pairwise (lts fun s : Bs => s) := by
  refine insAt_pw ho (fun a ha => ?_) (fun b hb => ?_)
  · obtain ⟨i, hi, e⟩ := List.mem_take_iff_getElem.1 ha
    have h3 := h1 i (by omega) (by omega)
    rw [e] at h3
    refine ⟨?_, fun e => hx (by rw [← e]; exact List.mem_of_mem_take ha)⟩
    show ble a x = true
    unfold ble
    rw [decide_eq_true_eq]
    omega
  · obtain ⟨hj, hb2⟩ := drop_pw ho hb
    have hle : ble x o[j] = true := ble_of (h2 hj)
    refine ⟨?_, fun e => hx (by rw [e]; exact List.mem_of_mem_drop hb)⟩
    rcases hb2 with rfl | hb2
    · exact hle
    · exact ble_trans hle hb2.1
theorem one_strs (l : List Bs) : (l.map sv).all (·.oneCell') = true := List.all_eq_true.2 fun x hx => by
  obtain ⟨s, _, rfl⟩ := List.mem_map.1 hx
  rfl
theorem in_srt {o : List Li} {x : Li} {j : Nat} (ho : o.Pairwise fun x y => ble x.1 y.1 = true) (h1 : ∀ i (hi : i < o.length), i < j → ble o[i].1 x.1 = true) (h2 : ∀ hj : j < o.length, ¬ ble o[j].1 x.1 = true) :
    (insAt o j x).Pairwise fun x y => ble x.1 y.1 = true := by
  refine insAt_pw ho (fun a ha => ?_) (fun b hb => ?_)
  · obtain ⟨i, hi, e⟩ := List.mem_take_iff_getElem.1 ha
    have h3 := h1 i (by omega) (by omega)
    rw [e] at h3
    exact h3
  · obtain ⟨hj, hb2⟩ := drop_pw ho hb
    have h3 := h2 hj
    have hle : ble x.1 o[j].1 = true := by
      refine ble_of fun h4 => h3 ?_
      unfold ble
      rw [decide_eq_true_eq]
      omega
    rcases hb2 with rfl | hb2
    · exact hle
    · exact ble_trans hle hb2
theorem lss_cb (a b : Bs) : scv .lss (⟨a.toArray⟩ : ByteArray).data.toList (⟨b.toArray⟩ : ByteArray).data.toList = decide (Lib.compareBytes a b < 0) := by
  show Op.bytesLess _ _ = _
  rw [bless_eq]
theorem leq_ble (a b : Bs) : scv .leq (⟨a.toArray⟩ : ByteArray).data.toList (⟨b.toArray⟩ : ByteArray).data.toList = ble a b := by
  show (Op.bytesLess a b || decide (a = b)) = _
  rw [bless_eq]
  unfold ble
  rw [Bool.eq_iff_iff, Bool.or_eq_true, decide_eq_true_eq, decide_eq_true_eq, decide_eq_true_eq]
  constructor
  · rintro (h | rfl)
    · omega
    · rw [cb_self]
      omega
  · intro h
    by_cases e : Lib.compareBytes a b = 0
    · exact .inr (cb_zero e)
    · left
      omega
section
variable {w w0 : World} {S0 : Nat → Prop} {L B : List Res} {K : Value → World → Prop} {s : Bs} {E0 E1 : Nat}
set_option maxHeartbeats 4000000 in
theorem r_Refs20 {d : List Li} {v : Value} {n : Nat} (hd : d.length = n) (hn : n < 2000000) (hlen : ∀ x ∈ d, x.1.length < 4294967281) (hr : Rd v E0 33 n (fl lc d) w)
    (h : ∀ v' w', St w (fun _ => False) w' [row v' 9 1 (refsOf d).length ((refsOf d).map sv)] → K v' w') : CK Tryz.prog 29 [v] w K := by
  have hS := St.nil w (fun _ => False)
  have hrr : ∀ {L : List Res} (w' : World), St w (fun _ => False) w' L → Rd v E0 33 n (fl lc d) w' := fun w' hS => hr.same fun b hb => hS.fr.kept b (hr.lt b hb) (fun h => h)
  obtain ⟨a, c, rfl⟩ := hr.form
  refine call_k Tryz.func29 k29 Tryz.ntmps29 (Nat.le_of_ble_eq_true rfl) ?_
  (repeat (first | refine g_sq ?_ | refine g_rg ?_ | refine g_r0 ?_ | refine g_ok rfl rfl ?_ | refine g_no rfl ?_ | refine g_no0 rfl ?_ | refine g_bk ?_ | refine g_b ?_ | refine g_sk ?_ | refine g_cT rfl ?_ | refine g_cF rfl ?_ | refine g_x rfl ?_ | refine g_lb ?_))
  refine g_cl rfl rfl (r_Check20 hd hn hlen (hrr _ hS) fun w1 h' => ?_)
  replace hS := hS.call0.2 _ _ h'
  rw [List.append_nil] at hS
  clear h'
  cases hck : chk d
  · have e2 : refsOf d = [] := by unfold refsOf; rw [if_neg (by rw [hck]; decide)]
    rw [eE_no hck]
    rw [e2] at h
    (repeat (first | refine g_sq ?_ | refine g_rg ?_ | refine g_r0 ?_ | refine g_ok rfl rfl ?_ | refine g_no rfl ?_ | refine g_no0 rfl ?_ | refine g_bk ?_ | refine g_b ?_ | refine g_sk ?_ | refine g_cT rfl ?_ | refine g_cF rfl ?_ | refine g_x rfl ?_ | refine g_lb ?_))
    exact g_ret (q_1 rfl (h _ _ (hS.nilrow 9 1)))
  · have e2 : refsOf d = sset (d.map fun x => (ent x).1) := by unfold refsOf; rw [if_pos hck]
    rw [eE_ok hck]
    rw [e2] at h
    (repeat (first | refine g_sq ?_ | refine g_rg ?_ | refine g_r0 ?_ | refine g_ok rfl rfl ?_ | refine g_no rfl ?_ | refine g_no0 rfl ?_ | refine g_bk ?_ | refine g_b ?_ | refine g_sk ?_ | refine g_cT rfl ?_ | refine g_cF rfl ?_ | refine g_x rfl ?_ | refine g_lb ?_))
    refine g_lp (ι := Nat × Value × List Bs) (fun x => [(0, .slice a n c), (3, x.2.1), (4, .int .i64 x.1)]) (fun x w' => x.1 ≤ n ∧ x.2.2.length ≤ x.1 ∧ x.2.2.Pairwise (lts fun s : Bs => s) ∧ (∀ y, y ∈ x.2.2 ↔ y ∈ (d.take x.1).map fun x => (ent x).1) ∧ St w (fun _ => False) w' [row x.2.1 9 1 x.2.2.length (x.2.2.map sv)]) (fun x => n - x.1) (0, .slice none 0 0, [])
      ⟨rfl, rfl, rfl, trivial⟩ ⟨Nat.zero_le _, Nat.zero_le _, List.Pairwise.nil, fun y => Iff.rfl, hS.nilrow 9 1⟩ ?_
    clear hS
    rintro ⟨k, vo, o⟩ w1 ⟨hk, hol, ho, hm, hS⟩
    dsimp only at hk hol ho hm hS ⊢
    (repeat (first | refine g_sq ?_ | refine g_rg ?_ | refine g_r0 ?_ | refine g_ok rfl rfl ?_ | refine g_no rfl ?_ | refine g_no0 rfl ?_ | refine g_bk ?_ | refine g_b ?_ | refine g_sk ?_ | refine g_cT rfl ?_ | refine g_cF rfl ?_ | refine g_x rfl ?_ | refine g_lb ?_))
    (refine g_cd rfl (fun hc => ?_) (fun hc => ?_) <;> simp only [cmv, arv, Bool.not_eq_true', Bool.not_eq_false', decide_eq_true_eq, decide_eq_false_iff_not] at hc)
    · have hlt : k < d.length := by omega
      obtain ⟨b, off, cap, l, e1, hcap, hl, hx, hb⟩ := Rd.block (hrr _ hS) (by omega)
      cases e1
      have hbd : off + k * 33 + 33 ≤ l.length := by have : (k + 1) * 33 ≤ c * 33 := Nat.mul_le_mul_right 33 (by omega); omega
      obtain ⟨ao, co, rfl⟩ := hS.rlen 0 rfl
      (repeat (first | refine g_sq ?_ | refine g_rg ?_ | refine g_r0 ?_ | refine g_ok rfl rfl ?_ | refine g_no rfl ?_ | refine g_no0 rfl ?_ | refine g_bk ?_ | refine g_b ?_ | refine g_sk ?_ | refine g_cT rfl ?_ | refine g_cF rfl ?_ | refine g_x rfl ?_ | refine g_lb ?_))
      refine g_rq rfl rfl ⟨by omega, by omega⟩ ?_
      refine g_lmr rfl rfl hb (by rw [Int.toNat_natCast]; exact hbd) ?_
      rw [Int.toNat_natCast, rd_at lc_len hx hd hlt]
      refine g_cl rfl rfl (r_one (x := d[k]) (by have := hlen _ (List.getElem_mem hlt); omega) fun w1 h' => ?_)
      replace hS := hS.call0.2 _ _ h'
      rw [List.append_nil] at hS
      clear h'
      rw [oneR_ok (chk_ent hck _ (List.getElem_mem hlt))]
      have hmt : ∀ y, y ∈ ((d.take (k + 1)).map fun x => (ent x).1) ↔ y = (ent d[k]).1 ∨ y ∈ (d.take k).map fun x => (ent x).1 := fun y => by
        rw [List.take_succ_eq_append_getElem hlt, List.map_append, List.mem_append, List.map_singleton, List.mem_singleton]
        exact Or.comm
      dsimp only
      generalize (ent d[k]).1 = X at hmt ⊢
      (repeat (first | refine g_sq ?_ | refine g_rg ?_ | refine g_r0 ?_ | refine g_ok rfl rfl ?_ | refine g_no rfl ?_ | refine g_no0 rfl ?_ | refine g_bk ?_ | refine g_b ?_ | refine g_sk ?_ | refine g_cT rfl ?_ | refine g_cF rfl ?_ | refine g_x rfl ?_ | refine g_lb ?_))
      refine g_atx (ι := Nat) 2 (fun j => [(0, .slice (some ⟨b, off, none⟩) n c), (3, .slice ao o.length co), (4, .int .i64 k), (5, sv X), (8, .int .i64 j)]) (fun j w' => j ≤ o.length ∧ (∀ i (hi : i < o.length), i < j → Lib.compareBytes o[i] X < 0) ∧ (∀ hj : j < o.length, ¬ Lib.compareBytes o[j] X < 0) ∧ St w (fun _ => False) w' [row (.slice ao o.length co) 9 1 o.length (o.map sv)]) rfl ?_ ?_
      · refine g_lp (ι := Nat) (fun j => [(0, .slice (some ⟨b, off, none⟩) n c), (3, .slice ao o.length co), (4, .int .i64 k), (5, sv X), (8, .int .i64 j)]) (fun j w' => j ≤ o.length ∧ (∀ i (hi : i < o.length), i < j → Lib.compareBytes o[i] X < 0) ∧ St w (fun _ => False) w' [row (.slice ao o.length co) 9 1 o.length (o.map sv)]) (fun j => o.length - j) 0 ⟨rfl, rfl, rfl, rfl, rfl, trivial⟩ ⟨Nat.zero_le _, fun i _ h => absurd h (Nat.not_lt_zero i), hS⟩ ?_
        clear hS
        rintro j w1 ⟨hj, h1, hS⟩
        (repeat (first | refine g_sq ?_ | refine g_rg ?_ | refine g_r0 ?_ | refine g_ok rfl rfl ?_ | refine g_no rfl ?_ | refine g_no0 rfl ?_ | refine g_bk ?_ | refine g_b ?_ | refine g_sk ?_ | refine g_cT rfl ?_ | refine g_cF rfl ?_ | refine g_x rfl ?_ | refine g_lb ?_))
        (generalize q1 : cmv _ _ _ = q; cases q <;> simp only [cmv, arv, Bool.not_eq_true', Bool.not_eq_false', decide_eq_true_eq, decide_eq_false_iff_not] at q1 <;> first | (exfalso; omega) | skip)
        · (repeat (first | refine g_sq ?_ | refine g_rg ?_ | refine g_r0 ?_ | refine g_ok rfl rfl ?_ | refine g_no rfl ?_ | refine g_no0 rfl ?_ | refine g_bk ?_ | refine g_b ?_ | refine g_sk ?_ | refine g_cT rfl ?_ | refine g_cF rfl ?_ | refine g_x rfl ?_ | refine g_lb ?_))
          exact g_jx j ⟨rfl, rfl, rfl, rfl, rfl, trivial⟩ ⟨by omega, h1, fun hjo => absurd hjo (by omega), hS⟩
        · have hjo : j < o.length := by omega
          obtain ⟨b2, off2, cap2, l2, e2, hcap2, hl2, hx2, hb2⟩ := Rd.block (Ow.rd (hS.ok 0 _ rfl)) (by omega)
          cases e2
          (repeat (first | refine g_sq ?_ | refine g_rg ?_ | refine g_r0 ?_ | refine g_ok rfl rfl ?_ | refine g_no rfl ?_ | refine g_no0 rfl ?_ | refine g_bk ?_ | refine g_b ?_ | refine g_sk ?_ | refine g_cT rfl ?_ | refine g_cF rfl ?_ | refine g_x rfl ?_ | refine g_lb ?_))
          refine g_rq rfl rfl ⟨by omega, by omega⟩ ?_
          refine g_l1r rfl rfl hb2 (by rw [Int.toNat_natCast]; exact rd_x' hx2 (by rw [List.length_map]) (by rw [List.length_map]; exact hjo)) ?_
          rw [List.getElem_map]
          (repeat (first | refine g_sq ?_ | refine g_rg ?_ | refine g_r0 ?_ | refine g_ok rfl rfl ?_ | refine g_no rfl ?_ | refine g_no0 rfl ?_ | refine g_bk ?_ | refine g_b ?_ | refine g_sk ?_ | refine g_cT rfl ?_ | refine g_cF rfl ?_ | refine g_x rfl ?_ | refine g_lb ?_))
          rw [lss_cb]
          by_cases hlc : Lib.compareBytes o[j] X < 0
          · rw [decide_eq_true hlc]
            (repeat (first | refine g_sq ?_ | refine g_rg ?_ | refine g_r0 ?_ | refine g_ok rfl rfl ?_ | refine g_no rfl ?_ | refine g_no0 rfl ?_ | refine g_bk ?_ | refine g_b ?_ | refine g_sk ?_ | refine g_cT rfl ?_ | refine g_cF rfl ?_ | refine g_x rfl ?_ | refine g_lb ?_))
            refine g_rq rfl rfl (in64 (by simp only [arv]; omega)) ?_
            (repeat (first | refine g_sq ?_ | refine g_rg ?_ | refine g_r0 ?_ | refine g_ok rfl rfl ?_ | refine g_no rfl ?_ | refine g_no0 rfl ?_ | refine g_bk ?_ | refine g_b ?_ | refine g_sk ?_ | refine g_cT rfl ?_ | refine g_cF rfl ?_ | refine g_x rfl ?_ | refine g_lb ?_))
            refine g_l (j + 1) ⟨rfl, rfl, rfl, rfl, rfl, trivial⟩ ⟨by omega, fun i hi hij => ?_, hS⟩ (by omega)
            by_cases e : i = j
            · subst e; exact hlc
            · exact h1 i hi (by omega)
          · rw [decide_eq_false hlc]
            (repeat (first | refine g_sq ?_ | refine g_rg ?_ | refine g_r0 ?_ | refine g_ok rfl rfl ?_ | refine g_no rfl ?_ | refine g_no0 rfl ?_ | refine g_bk ?_ | refine g_b ?_ | refine g_sk ?_ | refine g_cT rfl ?_ | refine g_cF rfl ?_ | refine g_x rfl ?_ | refine g_lb ?_))
            exact g_jx j ⟨rfl, rfl, rfl, rfl, rfl, trivial⟩ ⟨by omega, h1, fun _ => hlc, hS⟩
      · clear hS
        rintro j T w1 hT ⟨hj, h1, h2, hS⟩
        refine g_wkc hT ?_
        (repeat (first | refine g_sq ?_ | refine g_rg ?_ | refine g_r0 ?_ | refine g_ok rfl rfl ?_ | refine g_no rfl ?_ | refine g_no0 rfl ?_ | refine g_bk ?_ | refine g_b ?_ | refine g_sk ?_ | refine g_cT rfl ?_ | refine g_cF rfl ?_ | refine g_x rfl ?_ | refine g_lb ?_))
        refine g_atx (ι := Unit) 2 (fun _ => [(0, .slice (some ⟨b, off, none⟩) n c), (3, .slice ao o.length co), (4, .int .i64 k), (5, sv X), (8, .int .i64 j)]) (fun _ w' => X ∉ o ∧ St w (fun _ => False) w' [row (.slice ao o.length co) 9 1 o.length (o.map sv)]) rfl ?_ ?_
        · (generalize q2 : cmv _ _ _ = q; cases q <;> simp only [cmv, arv, Bool.not_eq_true', Bool.not_eq_false', decide_eq_true_eq, decide_eq_false_iff_not] at q2 <;> first | (exfalso; omega) | skip)
          · (repeat (first | refine g_sq ?_ | refine g_rg ?_ | refine g_r0 ?_ | refine g_ok rfl rfl ?_ | refine g_no rfl ?_ | refine g_no0 rfl ?_ | refine g_bk ?_ | refine g_b ?_ | refine g_sk ?_ | refine g_cT rfl ?_ | refine g_cF rfl ?_ | refine g_x rfl ?_ | refine g_lb ?_))
            exact g_jx () ⟨rfl, rfl, rfl, rfl, rfl, trivial⟩ ⟨str_no ho h1 h2 (fun hjo => absurd hjo (by omega)), hS⟩
          · have hjo : j < o.length := by omega
            obtain ⟨b2, off2, cap2, l2, e2, hcap2, hl2, hx2, hb2⟩ := Rd.block (Ow.rd (hS.ok 0 _ rfl)) (by omega)
            cases e2
            (repeat (first | refine g_sq ?_ | refine g_rg ?_ | refine g_r0 ?_ | refine g_ok rfl rfl ?_ | refine g_no rfl ?_ | refine g_no0 rfl ?_ | refine g_bk ?_ | refine g_b ?_ | refine g_sk ?_ | refine g_cT rfl ?_ | refine g_cF rfl ?_ | refine g_x rfl ?_ | refine g_lb ?_))
            refine g_rq rfl rfl ⟨by omega, by omega⟩ ?_
            refine g_l1r rfl rfl hb2 (by rw [Int.toNat_natCast]; exact rd_x' hx2 (by rw [List.length_map]) (by rw [List.length_map]; exact hjo)) ?_
            rw [List.getElem_map]
            (repeat (first | refine g_sq ?_ | refine g_rg ?_ | refine g_r0 ?_ | refine g_ok rfl rfl ?_ | refine g_no rfl ?_ | refine g_no0 rfl ?_ | refine g_bk ?_ | refine g_b ?_ | refine g_sk ?_ | refine g_cT rfl ?_ | refine g_cF rfl ?_ | refine g_x rfl ?_ | refine g_lb ?_))
            generalize hq : decide ((⟨o[j].toArray⟩ : ByteArray).data.toList = (⟨X.toArray⟩ : ByteArray).data.toList) = q
            rw [dec_sv] at hq
            cases q
            · (repeat (first | refine g_sq ?_ | refine g_rg ?_ | refine g_r0 ?_ | refine g_ok rfl rfl ?_ | refine g_no rfl ?_ | refine g_no0 rfl ?_ | refine g_bk ?_ | refine g_b ?_ | refine g_sk ?_ | refine g_cT rfl ?_ | refine g_cF rfl ?_ | refine g_x rfl ?_ | refine g_lb ?_))
              exact g_jx () ⟨rfl, rfl, rfl, rfl, rfl, trivial⟩ ⟨str_no ho h1 h2 (fun _ => of_decide_eq_false hq), hS⟩
            · have hin : X ∈ o := by rw [← of_decide_eq_true hq]; exact List.getElem_mem hjo
              (repeat (first | refine g_sq ?_ | refine g_rg ?_ | refine g_r0 ?_ | refine g_ok rfl rfl ?_ | refine g_no rfl ?_ | refine g_no0 rfl ?_ | refine g_bk ?_ | refine g_b ?_ | refine g_sk ?_ | refine g_cT rfl ?_ | refine g_cF rfl ?_ | refine g_x rfl ?_ | refine g_lb ?_))
              refine g_rq rfl rfl (in64 (by simp only [arv]; omega)) ?_
              (repeat (first | refine g_sq ?_ | refine g_rg ?_ | refine g_r0 ?_ | refine g_ok rfl rfl ?_ | refine g_no rfl ?_ | refine g_no0 rfl ?_ | refine g_bk ?_ | refine g_b ?_ | refine g_sk ?_ | refine g_cT rfl ?_ | refine g_cF rfl ?_ | refine g_x rfl ?_ | refine g_lb ?_))
              refine g_l (k + 1, .slice (some ⟨b2, off2, none⟩) o.length co, o) ⟨rfl, rfl, rfl, trivial⟩ ⟨by simp only; omega, by simp only; omega, ho, fun y => ?_, hS⟩ (by simp only; omega)
              dsimp only
              rw [hmt, ← hm]
              exact ⟨.inr, fun h => h.elim (fun e => e ▸ hin) id⟩
        · clear hS
          rintro _ T w1 hT ⟨hin, hS⟩
          refine g_wkc hT ?_
          have hO := str_ins ho hin h1 h2
          have hOm := insAt_mem o j X
          have hOl := insAt_len o (j := j) X
          have hle := (hS.ok 0 _ rfl : Ow _ _ _ _ _ _).le
          have hrd : ∀ {L : List Res} {w' : World}, St w (fun _ => False) w' (row (.slice ao o.length co) 9 1 o.length (o.map sv) :: L) → Rd (.slice ao j co) 9 1 j ((o.take j).map sv) w' := fun hS => by
            have := Rd.hd (Ow.rd (hS.ok 0 _ rfl)) hj
            rw [Nat.mul_one, ← List.map_take] at this
            exact this
          replace hS := hS.nilrow 9 1
          (repeat (first | refine g_sq ?_ | refine g_rg ?_ | refine g_r0 ?_ | refine g_ok rfl rfl ?_ | refine g_no rfl ?_ | refine g_no0 rfl ?_ | refine g_bk ?_ | refine g_b ?_ | refine g_sk ?_ | refine g_cT rfl ?_ | refine g_cF rfl ?_ | refine g_x rfl ?_ | refine g_lb ?_))
          refine g_qt rfl (qt_slh rfl hle.2 rfl hj hle.1) ?_
          refine g_ef rfl (ef_ap (bytes := 16) (n := 0) (m := j) (ys := (o.take j).map sv) hS 1 rfl rfl rfl (.inl ⟨_, hrd hS⟩) (one_strs _) (by omega) (by omega) fun v1 w2 hS => ?_)
          rw [Nat.zero_add, List.nil_append] at hS
          (repeat (first | refine g_sq ?_ | refine g_rg ?_ | refine g_r0 ?_ | refine g_ok rfl rfl ?_ | refine g_no rfl ?_ | refine g_no0 rfl ?_ | refine g_bk ?_ | refine g_b ?_ | refine g_sk ?_ | refine g_cT rfl ?_ | refine g_cF rfl ?_ | refine g_x rfl ?_ | refine g_lb ?_))
          refine g_ef rfl (ef_bl (rs := [sv X]) hS rfl fun g w2 hS => ?_)
          refine g_ef rfl (ef_ap (bytes := 16) (n := j) (m := 1) (ys := [sv X]) hS 1 rfl rfl rfl (.inl ⟨9, .inr ⟨g, 0, 1, _, rfl, Nat.le_refl _, Nat.le_refl _, rfl, (hS.b 2 rfl).r⟩⟩) rfl (by omega) (by omega) fun v2 w2 hS => ?_)
          have hap : (o.take j).map sv ++ [sv X] = (o.take j ++ [X]).map sv := by simp
          rw [hap] at hS
          obtain ⟨a', hrd2, hq⟩ := sl_drop (Ow.rd (hS.ok 0 _ rfl)) hle.1 hj
          rw [Nat.mul_one, ← List.map_drop] at hrd2
          (repeat (first | refine g_sq ?_ | refine g_rg ?_ | refine g_r0 ?_ | refine g_ok rfl rfl ?_ | refine g_no rfl ?_ | refine g_no0 rfl ?_ | refine g_bk ?_ | refine g_b ?_ | refine g_sk ?_ | refine g_cT rfl ?_ | refine g_cF rfl ?_ | refine g_x rfl ?_ | refine g_lb ?_))
          refine g_qt rfl (hq _ rfl rfl) ?_
          refine g_ef rfl (ef_ap (bytes := 16) (n := j + 1) (m := o.length - j) (ys := (o.drop j).map sv) hS 1 rfl rfl rfl (.inl ⟨_, hrd2⟩) (one_strs _) (by omega) (by omega) fun v3 w2 hS => ?_)
          have e3 : (o.take j ++ [X]).map sv ++ (o.drop j).map sv = (insAt o j X).map sv := by
            rw [← List.map_append]
            congr 1
            unfold insAt
            simp
          rw [e3, show j + 1 + (o.length - j) = (insAt o j X).length by rw [hOl]; omega] at hS
          (repeat (first | refine g_sq ?_ | refine g_rg ?_ | refine g_r0 ?_ | refine g_ok rfl rfl ?_ | refine g_no rfl ?_ | refine g_no0 rfl ?_ | refine g_bk ?_ | refine g_b ?_ | refine g_sk ?_ | refine g_cT rfl ?_ | refine g_cF rfl ?_ | refine g_x rfl ?_ | refine g_lb ?_))
          refine g_rq rfl rfl (in64 (by simp only [arv]; omega)) ?_
          (repeat (first | refine g_sq ?_ | refine g_rg ?_ | refine g_r0 ?_ | refine g_ok rfl rfl ?_ | refine g_no rfl ?_ | refine g_no0 rfl ?_ | refine g_bk ?_ | refine g_b ?_ | refine g_sk ?_ | refine g_cT rfl ?_ | refine g_cF rfl ?_ | refine g_x rfl ?_ | refine g_lb ?_))
          refine g_l (k + 1, v3, insAt o j X) ⟨rfl, rfl, rfl, trivial⟩ ⟨by simp only; omega, by simp only; rw [hOl]; omega, hO, fun y => ?_, hS.sel [1] rfl rfl⟩ (by simp only; omega)
          dsimp only
          rw [hmt, ← hm, hOm]
    · have ek : k = n := by omega
      subst ek
      have e : sset (d.map fun x => (ent x).1) = o := sset_of ho fun y => by rw [hm, List.take_of_length_le (by omega)]
      rw [e] at h
      (repeat (first | refine g_sq ?_ | refine g_rg ?_ | refine g_r0 ?_ | refine g_ok rfl rfl ?_ | refine g_no rfl ?_ | refine g_no0 rfl ?_ | refine g_bk ?_ | refine g_b ?_ | refine g_sk ?_ | refine g_cT rfl ?_ | refine g_cF rfl ?_ | refine g_x rfl ?_ | refine g_lb ?_))
      exact g_ret (q_1 rfl (h _ _ hS))
set_option maxHeartbeats 4000000 in
theorem r_in {o : List Li} {x : Li} {v : Value} {n : Nat} (hd : o.length = n) (hn : n < 2000000) (hr : Ow v 41 33 n (fl lc o) w)
    (h : ∀ j v' w', (∀ i (hi : i < o.length), i < j → ble o[i].1 x.1 = true) → (∀ hj : j < o.length, ¬ ble o[j].1 x.1 = true) → St w (fun _ => False) w' [row v' 41 33 (insAt o j x).length (fl lc (insAt o j x))] → K v' w') : CK Tryz.prog 56 [v, .agg ⟨lc x⟩] w K := by
  have hS := St.nil w (fun _ => False)
  have hrr : ∀ {L : List Res} (w' : World), St w (fun _ => False) w' L → Rd v 41 33 n (fl lc o) w' := fun w' hS => hr.rd.same fun b hb => hS.fr.kept b (hr.rd.lt b hb) (fun h => h)
  obtain ⟨a, c, rfl⟩ := hr.rd.form
  have hle := hr.le
  have lx := lc_len x
  refine call_k Tryz.func56 k56 Tryz.ntmps56 (Nat.le_of_ble_eq_true rfl) ?_
  (repeat (first | refine g_sq ?_ | refine g_rg ?_ | refine g_r0 ?_ | refine g_ok rfl rfl ?_ | refine g_no rfl ?_ | refine g_no0 rfl ?_ | refine g_bk ?_ | refine g_b ?_ | refine g_sk ?_ | refine g_cT rfl ?_ | refine g_cF rfl ?_ | refine g_x rfl ?_ | refine g_lb ?_))
  refine g_ef rfl (ef_bx hS rfl fun b1 w1 hS => ?_)
  replace hS : St w (fun _ => False) w1 [cel b1 (lc x) 41] := hS
  (repeat (first | refine g_sq ?_ | refine g_rg ?_ | refine g_r0 ?_ | refine g_ok rfl rfl ?_ | refine g_no rfl ?_ | refine g_no0 rfl ?_ | refine g_bk ?_ | refine g_b ?_ | refine g_sk ?_ | refine g_cT rfl ?_ | refine g_cF rfl ?_ | refine g_x rfl ?_ | refine g_lb ?_))
  refine g_atx (ι := Nat) 2 (fun j => [(0, .slice a n c), (3, dp b1), (5, .int .i64 j)]) (fun j w' => j ≤ o.length ∧ (∀ i (hi : i < o.length), i < j → ble o[i].1 x.1 = true) ∧ (∀ hj : j < o.length, ¬ ble o[j].1 x.1 = true) ∧ St w (fun _ => False) w' [cel b1 (lc x) 41]) rfl ?_ ?_
  · refine g_lp (ι := Nat) (fun j => [(0, .slice a n c), (3, dp b1), (5, .int .i64 j)]) (fun j w' => j ≤ o.length ∧ (∀ i (hi : i < o.length), i < j → ble o[i].1 x.1 = true) ∧ St w (fun _ => False) w' [cel b1 (lc x) 41]) (fun j => o.length - j) 0 ⟨rfl, rfl, rfl, trivial⟩ ⟨Nat.zero_le _, fun i _ h => absurd h (Nat.not_lt_zero i), hS⟩ ?_
    clear hS
    rintro j w1 ⟨hj, h1, hS⟩
    (repeat (first | refine g_sq ?_ | refine g_rg ?_ | refine g_r0 ?_ | refine g_ok rfl rfl ?_ | refine g_no rfl ?_ | refine g_no0 rfl ?_ | refine g_bk ?_ | refine g_b ?_ | refine g_sk ?_ | refine g_cT rfl ?_ | refine g_cF rfl ?_ | refine g_x rfl ?_ | refine g_lb ?_))
    refine g_dr mixed ?_
    replace hS := hS.drew
    (repeat (first | refine d_ok rfl rfl rfl ?_ | refine d_no rfl rfl ?_))
    (generalize q1 : cmv _ _ _ = q; cases q <;> simp only [cmv, arv, Bool.not_eq_true', Bool.not_eq_false', decide_eq_true_eq, decide_eq_false_iff_not] at q1 <;> first | (exfalso; omega) | skip)
    · (repeat (first | refine d_ok rfl rfl rfl ?_ | refine d_no rfl rfl ?_))
      refine d_fin ?_
      (repeat (first | refine g_sq ?_ | refine g_rg ?_ | refine g_r0 ?_ | refine g_ok rfl rfl ?_ | refine g_no rfl ?_ | refine g_no0 rfl ?_ | refine g_bk ?_ | refine g_b ?_ | refine g_sk ?_ | refine g_cT rfl ?_ | refine g_cF rfl ?_ | refine g_x rfl ?_ | refine g_lb ?_))
      exact g_jx j ⟨rfl, rfl, rfl, trivial⟩ ⟨by omega, h1, fun hjo => absurd hjo (by omega), hS⟩
    · have hjo : j < o.length := by omega
      obtain ⟨b2, off2, cap2, l2, e2, hcap2, hl2, hx2, hb2⟩ := Rd.block (hrr _ hS) (by omega)
      cases e2
      (repeat (first | refine d_ok rfl rfl rfl ?_ | refine d_no rfl rfl ?_))
      refine d_rq rfl rfl rfl ⟨by omega, by omega⟩ ?_
      (repeat (first | refine d_ok rfl rfl rfl ?_ | refine d_no rfl rfl ?_))
      refine d_l1r rfl rfl rfl hb2 (by rw [Int.toNat_natCast]; exact rd_at0 (c := c) hx2 hd hjo) ?_
      (repeat (first | refine d_ok rfl rfl rfl ?_ | refine d_no rfl rfl ?_))
      refine d_l1 rfl rfl rfl (hS.b 0 rfl) (v := sv x.1) rfl ?_
      (repeat (first | refine d_ok rfl rfl rfl ?_ | refine d_no rfl rfl ?_))
      refine d_fin ?_
      rw [leq_ble]
      cases hlc : ble o[j].1 x.1
      · (repeat (first | refine g_sq ?_ | refine g_rg ?_ | refine g_r0 ?_ | refine g_ok rfl rfl ?_ | refine g_no rfl ?_ | refine g_no0 rfl ?_ | refine g_bk ?_ | refine g_b ?_ | refine g_sk ?_ | refine g_cT rfl ?_ | refine g_cF rfl ?_ | refine g_x rfl ?_ | refine g_lb ?_))
        exact g_jx j ⟨rfl, rfl, rfl, trivial⟩ ⟨by omega, h1, fun _ => by rw [hlc]; decide, hS⟩
      · (repeat (first | refine g_sq ?_ | refine g_rg ?_ | refine g_r0 ?_ | refine g_ok rfl rfl ?_ | refine g_no rfl ?_ | refine g_no0 rfl ?_ | refine g_bk ?_ | refine g_b ?_ | refine g_sk ?_ | refine g_cT rfl ?_ | refine g_cF rfl ?_ | refine g_x rfl ?_ | refine g_lb ?_))
        refine g_rq rfl rfl (in64 (by simp only [arv]; omega)) ?_
        (repeat (first | refine g_sq ?_ | refine g_rg ?_ | refine g_r0 ?_ | refine g_ok rfl rfl ?_ | refine g_no rfl ?_ | refine g_no0 rfl ?_ | refine g_bk ?_ | refine g_b ?_ | refine g_sk ?_ | refine g_cT rfl ?_ | refine g_cF rfl ?_ | refine g_x rfl ?_ | refine g_lb ?_))
        refine g_l (j + 1) ⟨rfl, rfl, rfl, trivial⟩ ⟨by omega, fun i hi hij => ?_, hS⟩ (by omega)
        by_cases e : i = j
        · subst e; exact hlc
        · exact h1 i hi (by omega)
  · clear hS
    rintro j T w1 hT ⟨hj, h1, h2, hS⟩
    refine g_wkc hT ?_
    have hOl := insAt_len o (j := j) x
    have hjn : j ≤ n := by omega
    (repeat (first | refine g_sq ?_ | refine g_rg ?_ | refine g_r0 ?_ | refine g_ok rfl rfl ?_ | refine g_no rfl ?_ | refine g_no0 rfl ?_ | refine g_bk ?_ | refine g_b ?_ | refine g_sk ?_ | refine g_cT rfl ?_ | refine g_cF rfl ?_ | refine g_x rfl ?_ | refine g_lb ?_))
    refine g_atx (ι := Value) 1 (fun v => [(0, .slice a n c), (5, .int .i64 j), (6, v)]) (fun v w' => St w (fun _ => False) w' [row v 41 33 (j + 1) (fl lc (o.take j ++ [x]))]) rfl ?_ ?_
    · refine g_dr mixed ?_
      replace hS := hS.drew
      have htk : (fl lc o).take (j * 33) = fl lc (o.take j) := fl_take lc_len j o
      have hrd : ∀ {L : List Res} {w' : World}, St w (fun _ => False) w' L → Rd (.slice a j c) 41 33 j (fl lc (o.take j)) w' := fun hS => by
        have := Rd.hd (hrr _ hS) hjn
        rw [htk] at this
        exact this
      have hXR : ∀ {L : List Res} {w' : World}, St w (fun _ => False) w' (cel b1 (lc x) 41 :: L) → ∀ {P : Program} {T : TT} {y : Operand}, ev T y = some (dp b1) → Qt P (.ld y (some 33)) T w' (.agg ⟨lc x⟩) := fun {L} {w'} hS {P} {T} {y} hev => by
        have := qt_ldm (P := P) (n := 33) hev (hS.b 0 rfl) (Nat.le_of_eq lx.symm)
        rw [List.drop_zero, List.take_of_length_le (Nat.le_of_eq lx)] at this
        exact this
      replace hS := hS.nilrow 41 33
      have hone : (lc x).all (·.oneCell') = true := List.all_eq_true.2 (lc_one x)
      have hap : fl lc (o.take j) ++ lc x = fl lc (o.take j ++ [x]) := by rw [fl_app]; simp [fl]
      (repeat (first | refine d_ok rfl rfl rfl ?_ | refine d_no rfl rfl ?_))
      refine d_qp rfl rfl rfl (fun w => qt_slh rfl hle.2 rfl hjn hle.1) ?_
      (repeat (first | refine d_ok rfl rfl rfl ?_ | refine d_no rfl rfl ?_))
      refine d_qt rfl rfl rfl (hXR hS rfl) ?_
      refine d_a2 ?_ (d_a1 ?_)
      · refine d_e rfl rfl ?_
        refine ef_ap (bytes := 48) (n := 0) (m := j) (ys := fl lc (o.take j)) hS 1 rfl rfl rfl (.inl ⟨_, hrd hS⟩) (fl_one lc_one _) (by omega) (by omega) fun v1 w2 hS => ?_
        rw [Nat.zero_add, List.nil_append] at hS
        refine ⟨rc_qt rfl rfl rfl rfl (hXR hS rfl) rc_0, ?_⟩
        refine d_e rfl rfl ?_
        refine ef_bl (rs := lc x) hS (evcs_1 rfl (lc_len _)) fun g w2 hS => ⟨rc_0, ?_⟩
        refine d_e rfl rfl ?_
        refine ef_ap (bytes := 48) (n := j) (m := 1) (ys := lc x) hS 1 rfl rfl rfl (.inl ⟨41, .inr ⟨g, 0, 1, _, rfl, Nat.le_refl _, Nat.le_of_eq (by rw [lc_len]), by rw [List.drop_zero, List.take_of_length_le (Nat.le_of_eq (lc_len _))], (hS.b 2 rfl).r⟩⟩) hone (by omega) (by omega) fun v2 w2 hS => ⟨rc_0, ?_⟩
        rw [hap] at hS
        refine d_e rfl rfl ?_
        refine ef_qt ((pev_ok rfl).2 _) ⟨rc_0, ?_⟩
        refine d_fin ?_
        exact g_jx v2 ⟨rfl, rfl, rfl, trivial⟩ (hS.sel [1] rfl rfl)
      · refine d_e rfl rfl ?_
        refine ef_bl (rs := lc x) hS (evcs_1 rfl (lc_len _)) fun g w2 hS => ⟨rc_0, ?_⟩
        refine d_e rfl rfl ?_
        refine ef_ap (bytes := 48) (n := 0) (m := j) (ys := fl lc (o.take j)) hS 1 rfl rfl rfl (.inl ⟨_, hrd hS⟩) (fl_one lc_one _) (by omega) (by omega) fun v1 w2 hS => ⟨rc_0, ?_⟩
        rw [Nat.zero_add, List.nil_append] at hS
        refine d_e rfl rfl ?_
        refine ef_ap (bytes := 48) (n := j) (m := 1) (ys := lc x) hS 1 rfl rfl rfl (.inl ⟨41, .inr ⟨g, 0, 1, _, rfl, Nat.le_refl _, Nat.le_of_eq (by rw [lc_len]), by rw [List.drop_zero, List.take_of_length_le (Nat.le_of_eq (lc_len _))], (hS.b 2 rfl).r⟩⟩) hone (by omega) (by omega) fun v2 w2 hS => ⟨rc_0, ?_⟩
        rw [hap] at hS
        refine d_e rfl rfl ?_
        refine ef_qt ((pev_ok rfl).2 _) ⟨rc_0, ?_⟩
        refine d_fin ?_
        exact g_jx v2 ⟨rfl, rfl, rfl, trivial⟩ (hS.sel [1] rfl rfl)
    · clear hS
      rintro v T w1 hT hS
      refine g_wkc hT ?_
      obtain ⟨a', hrd, hq⟩ := sl_drop (hrr _ hS) hle.1 hjn
      rw [fl_drop lc_len] at hrd
      (repeat (first | refine g_sq ?_ | refine g_rg ?_ | refine g_r0 ?_ | refine g_ok rfl rfl ?_ | refine g_no rfl ?_ | refine g_no0 rfl ?_ | refine g_bk ?_ | refine g_b ?_ | refine g_sk ?_ | refine g_cT rfl ?_ | refine g_cF rfl ?_ | refine g_x rfl ?_ | refine g_lb ?_))
      refine g_qt rfl (hq _ rfl rfl) ?_
      refine g_ef rfl (ef_ap (bytes := 48) (n := j + 1) (m := n - j) (ys := fl lc (o.drop j)) hS 0 rfl rfl rfl (.inl ⟨_, hrd⟩) (fl_one lc_one _) (by omega) (by omega) fun v2 w2 hS => ?_)
      have e3 : fl lc (o.take j ++ [x]) ++ fl lc (o.drop j) = fl lc (insAt o j x) := by
        rw [← fl_app]
        congr 1
        unfold insAt
        simp
      rw [e3, show j + 1 + (n - j) = (insAt o j x).length by rw [hOl]; omega] at hS
      (repeat (first | refine g_sq ?_ | refine g_rg ?_ | refine g_r0 ?_ | refine g_ok rfl rfl ?_ | refine g_no rfl ?_ | refine g_no0 rfl ?_ | refine g_bk ?_ | refine g_b ?_ | refine g_sk ?_ | refine g_cT rfl ?_ | refine g_cF rfl ?_ | refine g_x rfl ?_ | refine g_lb ?_))
      exact g_ret (q_1 rfl (h j _ _ h1 h2 hS))
set_option maxHeartbeats 4000000 in
theorem r_Join20 {v : Value} {n : Nat} {ps : List Lv1} (hd : ps.length = n) (hn : n < 2000000) (ht : (flat ps).length < 2000000) (hlen : ∀ x ∈ flat ps, x.1.length < 4294967281) (hr : Rd v E0 1 n (ps.map (·.1)) w) (hp : ∀ p ∈ ps, LvR w p)
    (h : ∀ v' w', St w (fun _ => False) w' [row v' 41 33 (jnL (ps.map (·.2))).length (fl lc (jnL (ps.map (·.2))))] → K (.tuple ⟨[v', .int .i64 (jnE (ps.map (·.2)))]⟩) w') : CK Tryz.prog 25 [v] w K := by
  have hS := St.nil w (fun _ => False)
  have hrr : ∀ {L : List Res} (w' : World), St w (fun _ => False) w' L → Rd v E0 1 n (ps.map (·.1)) w' := fun w' hS => hr.same fun b hb => hS.fr.kept b (hr.lt b hb) (fun h => h)
  have bad : joinS (ps.map (·.2)) = none → ∀ {L : List Res} w', St w (fun _ => False) w' L → K (.tuple ⟨[.slice none 0 0, .int .i64 200]⟩) w' := fun e {L} w' hS => by
    have e1 : jnE (ps.map (·.2)) = 200 := by unfold jnE; rw [e]; rfl
    have e2 : jnL (ps.map (·.2)) = [] := by unfold jnL; rw [e]; rfl
    rw [e1, e2] at h
    exact h _ _ ((hS.sel [] rfl rfl).nilrow 41 33)
  have hfl : (ps.map (·.2)).flatten = flat ps := rfl
  have hpm1 : (ps.map (·.1)).length = n := by rw [List.length_map]; exact hd
  obtain ⟨a, c, rfl⟩ := hr.form
  refine call_k Tryz.func25 k25 Tryz.ntmps25 (Nat.le_of_ble_eq_true rfl) ?_
  (repeat (first | refine g_sq ?_ | refine g_rg ?_ | refine g_r0 ?_ | refine g_ok rfl rfl ?_ | refine g_no rfl ?_ | refine g_no0 rfl ?_ | refine g_bk ?_ | refine g_b ?_ | refine g_sk ?_ | refine g_cT rfl ?_ | refine g_cF rfl ?_ | refine g_x rfl ?_ | refine g_lb ?_))
  refine g_lp (ι := Nat × Value × List Li) (fun x => [(0, .slice a n c), (4, x.2.1), (5, .int .i64 x.1)]) (fun x w' => x.1 ≤ n ∧ (∀ j (hj : j < ps.length), j < x.1 → chk ps[j].2 = true) ∧ x.2.2.Perm (flat (ps.take x.1)) ∧ x.2.2.Pairwise (fun x y => ble x.1 y.1 = true) ∧ St w (fun _ => False) w' [row x.2.1 41 33 x.2.2.length (fl lc x.2.2)]) (fun x => n - x.1) (0, .slice none 0 0, [])
    ⟨rfl, rfl, rfl, trivial⟩ ⟨Nat.zero_le _, fun j _ h => absurd h (Nat.not_lt_zero j), List.Perm.refl _, List.Pairwise.nil, hS.nilrow 41 33⟩ ?_
  clear hS
  rintro ⟨k, vo, o⟩ w1 ⟨hk, hC, hP, hO, hS⟩
  dsimp only at hk hC hP hO hS ⊢
  (repeat (first | refine g_sq ?_ | refine g_rg ?_ | refine g_r0 ?_ | refine g_ok rfl rfl ?_ | refine g_no rfl ?_ | refine g_no0 rfl ?_ | refine g_bk ?_ | refine g_b ?_ | refine g_sk ?_ | refine g_cT rfl ?_ | refine g_cF rfl ?_ | refine g_x rfl ?_ | refine g_lb ?_))
  (refine g_cd rfl (fun hc => ?_) (fun hc => ?_) <;> simp only [cmv, arv, Bool.not_eq_true', Bool.not_eq_false', decide_eq_true_eq, decide_eq_false_iff_not] at hc)
  · have hlt : k < ps.length := by omega
    have hkm : ps[k] ∈ ps := List.getElem_mem hlt
    have hkl := flat_len hkm
    have hft : flat (ps.take (k + 1)) = flat (ps.take k) ++ ps[k].2 := by rw [List.take_succ_eq_append_getElem hlt, flat_app, flat_one]
    have hft2 := flat_take ps (k + 1)
    rw [hft, List.length_append] at hft2
    obtain ⟨b, off, cap, l, e1, hcap, hl, hx, hb⟩ := Rd.block (hrr _ hS) (by omega)
    cases e1
    obtain ⟨Ek, hpk⟩ := hp _ hkm
    obtain ⟨ap, cp, ep⟩ := hpk.form
    have hpkk : ∀ {L : List Res} (w' : World), St w (fun _ => False) w' L → Rd ps[k].1 Ek 33 ps[k].2.length (fl lc ps[k].2) w' := fun w' hS => hpk.same fun b hb => hS.fr.kept b (hpk.lt b hb) (fun h => h)
    rw [ep] at hpkk
    have hxk : ∀ {L : List Res} (w' : World), St w (fun _ => False) w' L → ∃ l2, Blr w' b l2 E0 ∧ l2[off + k * 1]? = some (.slice ap ps[k].2.length cp) := fun w' hS => by
      obtain ⟨b2, off2, cap2, l2, e2, hcap2, hl2, hx2, hb2⟩ := Rd.block (hrr _ hS) (by omega)
      cases e2
      refine ⟨l2, hb2, ?_⟩
      rw [rd_x' hx2 hpm1 (by omega), List.getElem_map, ep]
    obtain ⟨l2, hb2, hv2⟩ := hxk _ hS
    (repeat (first | refine g_sq ?_ | refine g_rg ?_ | refine g_r0 ?_ | refine g_ok rfl rfl ?_ | refine g_no rfl ?_ | refine g_no0 rfl ?_ | refine g_bk ?_ | refine g_b ?_ | refine g_sk ?_ | refine g_cT rfl ?_ | refine g_cF rfl ?_ | refine g_x rfl ?_ | refine g_lb ?_))
    refine g_rq rfl rfl ⟨by omega, by omega⟩ ?_
    refine g_l1r rfl rfl hb2 (by rw [Int.toNat_natCast]; exact hv2) ?_
    (repeat (first | refine g_sq ?_ | refine g_rg ?_ | refine g_r0 ?_ | refine g_ok rfl rfl ?_ | refine g_no rfl ?_ | refine g_no0 rfl ?_ | refine g_bk ?_ | refine g_b ?_ | refine g_sk ?_ | refine g_cT rfl ?_ | refine g_cF rfl ?_ | refine g_x rfl ?_ | refine g_lb ?_))
    refine g_cl rfl rfl (r_Check20 rfl (by omega) (fun x hx => hlen x (flat_mem hkm hx)) (hpkk _ hS) fun w1 h' => ?_)
    replace hS := hS.call0.2 _ _ h'
    rw [List.append_nil] at hS
    clear h'
    cases hck : chk ps[k].2
    · rw [eE_no hck]
      (repeat (first | refine g_sq ?_ | refine g_rg ?_ | refine g_r0 ?_ | refine g_ok rfl rfl ?_ | refine g_no rfl ?_ | refine g_no0 rfl ?_ | refine g_bk ?_ | refine g_b ?_ | refine g_sk ?_ | refine g_cT rfl ?_ | refine g_cF rfl ?_ | refine g_x rfl ?_ | refine g_lb ?_))
      refine g_ret (q_2 rfl rfl (bad ?_ _ hS))
      unfold joinS
      rw [if_neg]
      intro h1
      have := List.all_eq_true.1 h1.1 ps[k].2 (List.mem_map.2 ⟨_, hkm, rfl⟩)
      rw [hck] at this
      cases this
    · rw [eE_ok hck]
      (repeat (first | refine g_sq ?_ | refine g_rg ?_ | refine g_r0 ?_ | refine g_ok rfl rfl ?_ | refine g_no rfl ?_ | refine g_no0 rfl ?_ | refine g_bk ?_ | refine g_b ?_ | refine g_sk ?_ | refine g_cT rfl ?_ | refine g_cF rfl ?_ | refine g_x rfl ?_ | refine g_lb ?_))
      refine g_lp (ι := Nat × Value × List Li) (fun x => [(0, .slice (some ⟨b, off, none⟩) n c), (4, x.2.1), (5, .int .i64 k), (6, .int .i64 x.1)]) (fun x w' => x.1 ≤ ps[k].2.length ∧ x.2.2.Perm (flat (ps.take k) ++ ps[k].2.take x.1) ∧ x.2.2.Pairwise (fun x y => ble x.1 y.1 = true) ∧ St w (fun _ => False) w' [row x.2.1 41 33 x.2.2.length (fl lc x.2.2)]) (fun x => ps[k].2.length - x.1) (0, vo, o)
        ⟨rfl, rfl, rfl, rfl, trivial⟩ ⟨Nat.zero_le _, by simpa using hP, hO, hS⟩ ?_
      clear hS hP hO
      rintro ⟨i, vo, o⟩ w1 ⟨hi, hP, hO, hS⟩
      dsimp only at hi hP hO hS ⊢
      have hol := hP.length_eq
      rw [List.length_append, List.length_take] at hol
      obtain ⟨l3, hb3, hv3⟩ := hxk _ hS
      (repeat (first | refine g_sq ?_ | refine g_rg ?_ | refine g_r0 ?_ | refine g_ok rfl rfl ?_ | refine g_no rfl ?_ | refine g_no0 rfl ?_ | refine g_bk ?_ | refine g_b ?_ | refine g_sk ?_ | refine g_cT rfl ?_ | refine g_cF rfl ?_ | refine g_x rfl ?_ | refine g_lb ?_))
      refine g_rq rfl rfl ⟨by omega, by omega⟩ ?_
      refine g_l1r rfl rfl hb3 (by rw [Int.toNat_natCast]; exact hv3) ?_
      (repeat (first | refine g_sq ?_ | refine g_rg ?_ | refine g_r0 ?_ | refine g_ok rfl rfl ?_ | refine g_no rfl ?_ | refine g_no0 rfl ?_ | refine g_bk ?_ | refine g_b ?_ | refine g_sk ?_ | refine g_cT rfl ?_ | refine g_cF rfl ?_ | refine g_x rfl ?_ | refine g_lb ?_))
      (refine g_cd rfl (fun hli => ?_) (fun hli => ?_) <;> simp only [cmv, arv, Bool.not_eq_true', Bool.not_eq_false', decide_eq_true_eq, decide_eq_false_iff_not] at hli)
      · have hli : i < ps[k].2.length := by omega
        obtain ⟨b4, off4, cap4, l4, e4, hcap4, hl4, hx4, hb4⟩ := Rd.block (hpkk _ hS) (by omega)
        cases e4
        have hbd4 : off4 + i * 33 + 33 ≤ l4.length := by have : (i + 1) * 33 ≤ cp * 33 := Nat.mul_le_mul_right 33 (by omega); omega
        (repeat (first | refine g_sq ?_ | refine g_rg ?_ | refine g_r0 ?_ | refine g_ok rfl rfl ?_ | refine g_no rfl ?_ | refine g_no0 rfl ?_ | refine g_bk ?_ | refine g_b ?_ | refine g_sk ?_ | refine g_cT rfl ?_ | refine g_cF rfl ?_ | refine g_x rfl ?_ | refine g_lb ?_))
        refine g_rq rfl rfl ⟨by omega, by omega⟩ ?_
        refine g_l1r rfl rfl hb3 (by rw [Int.toNat_natCast]; exact hv3) ?_
        (repeat (first | refine g_sq ?_ | refine g_rg ?_ | refine g_r0 ?_ | refine g_ok rfl rfl ?_ | refine g_no rfl ?_ | refine g_no0 rfl ?_ | refine g_bk ?_ | refine g_b ?_ | refine g_sk ?_ | refine g_cT rfl ?_ | refine g_cF rfl ?_ | refine g_x rfl ?_ | refine g_lb ?_))
        refine g_rq rfl rfl ⟨by omega, by omega⟩ ?_
        refine g_lmr rfl rfl hb4 (by rw [Int.toNat_natCast]; exact hbd4) ?_
        rw [Int.toNat_natCast, rd_at lc_len hx4 rfl hli]
        refine g_cl rfl rfl (r_in (o := o) (x := ps[k].2[i]) rfl (by omega) (hS.ok 0 _ rfl) fun j v2 w2 h1 h2 h' => ?_)
        replace hS := hS.call0.2 _ _ h'
        (repeat (first | refine g_sq ?_ | refine g_rg ?_ | refine g_r0 ?_ | refine g_ok rfl rfl ?_ | refine g_no rfl ?_ | refine g_no0 rfl ?_ | refine g_bk ?_ | refine g_b ?_ | refine g_sk ?_ | refine g_cT rfl ?_ | refine g_cF rfl ?_ | refine g_x rfl ?_ | refine g_lb ?_))
        refine g_rq rfl rfl (in64 (by simp only [arv]; omega)) ?_
        (repeat (first | refine g_sq ?_ | refine g_rg ?_ | refine g_r0 ?_ | refine g_ok rfl rfl ?_ | refine g_no rfl ?_ | refine g_no0 rfl ?_ | refine g_bk ?_ | refine g_b ?_ | refine g_sk ?_ | refine g_cT rfl ?_ | refine g_cF rfl ?_ | refine g_x rfl ?_ | refine g_lb ?_))
        refine g_l (i + 1, v2, insAt o j ps[k].2[i]) ⟨rfl, rfl, rfl, rfl, trivial⟩ ⟨by simp only; omega, ?_, in_srt hO h1 h2, hS.sel [1] rfl rfl⟩ (by simp only; omega)
        dsimp only
        rw [List.take_succ_eq_append_getElem hli, ← List.append_assoc]
        exact (insAt_perm _ _ _).trans ((List.Perm.cons _ hP).trans (List.perm_append_singleton _ _).symm)
      · have ei : ps[k].2.take i = ps[k].2 := List.take_of_length_le (by omega)
        rw [ei, ← hft] at hP
        (repeat (first | refine g_sq ?_ | refine g_rg ?_ | refine g_r0 ?_ | refine g_ok rfl rfl ?_ | refine g_no rfl ?_ | refine g_no0 rfl ?_ | refine g_bk ?_ | refine g_b ?_ | refine g_sk ?_ | refine g_cT rfl ?_ | refine g_cF rfl ?_ | refine g_x rfl ?_ | refine g_lb ?_))
        refine g_rq rfl rfl (in64 (by simp only [arv]; omega)) ?_
        (repeat (first | refine g_sq ?_ | refine g_rg ?_ | refine g_r0 ?_ | refine g_ok rfl rfl ?_ | refine g_no rfl ?_ | refine g_no0 rfl ?_ | refine g_bk ?_ | refine g_b ?_ | refine g_sk ?_ | refine g_cT rfl ?_ | refine g_cF rfl ?_ | refine g_x rfl ?_ | refine g_lb ?_))
        refine g_l (k + 1, vo, o) ⟨rfl, rfl, rfl, trivial⟩ ⟨by simp only; omega, fun j hj hjk => ?_, hP, hO, hS⟩ (by simp only; omega)
        by_cases e : j = k
        · subst e; exact hck
        · exact hC j hj (by simp only at hjk; omega)
  · have ek : k = n := by omega
    subst ek
    have hall : (ps.map (·.2)).all chk = true := List.all_eq_true.2 fun l hl => by
      obtain ⟨p, hp, rfl⟩ := List.mem_map.1 hl
      obtain ⟨j, hj, rfl⟩ := List.getElem_of_mem hp
      exact hC j hj (by omega)
    rw [List.take_of_length_le (by omega)] at hP
    obtain ⟨hc1, hc2⟩ := chk_srt hP hO
    have hol := hP.length_eq
    (repeat (first | refine g_sq ?_ | refine g_rg ?_ | refine g_r0 ?_ | refine g_ok rfl rfl ?_ | refine g_no rfl ?_ | refine g_no0 rfl ?_ | refine g_bk ?_ | refine g_b ?_ | refine g_sk ?_ | refine g_cT rfl ?_ | refine g_cF rfl ?_ | refine g_x rfl ?_ | refine g_lb ?_))
    refine g_cl rfl rfl (r_Check20 rfl (by omega) (fun x hx => hlen x (hP.mem_iff.1 hx)) (Ow.rd (hS.ok 0 _ rfl)) fun w1 h' => ?_)
    replace hS := hS.call0.2 _ _ h'
    rw [List.append_nil] at hS
    clear h'
    cases hck : chk o
    · rw [eE_no hck]
      rw [hck] at hc1
      (repeat (first | refine g_sq ?_ | refine g_rg ?_ | refine g_r0 ?_ | refine g_ok rfl rfl ?_ | refine g_no rfl ?_ | refine g_no0 rfl ?_ | refine g_bk ?_ | refine g_b ?_ | refine g_sk ?_ | refine g_cT rfl ?_ | refine g_cF rfl ?_ | refine g_x rfl ?_ | refine g_lb ?_))
      refine g_ret (q_2 rfl rfl (bad ?_ _ hS))
      unfold joinS
      rw [if_neg]
      intro h1
      rw [hfl, ← hc1] at h1
      cases h1.2
    · rw [eE_ok hck]
      have hj : joinS (ps.map (·.2)) = some o := by
        unfold joinS
        rw [hfl, ← hc2 hck, if_pos ⟨hall, hck⟩]
      have e1 : jnE (ps.map (·.2)) = 0 := by unfold jnE; rw [hj]; rfl
      have e2 : jnL (ps.map (·.2)) = o := by unfold jnL; rw [hj]; rfl
      rw [e1, e2] at h
      (repeat (first | refine g_sq ?_ | refine g_rg ?_ | refine g_r0 ?_ | refine g_ok rfl rfl ?_ | refine g_no rfl ?_ | refine g_no0 rfl ?_ | refine g_bk ?_ | refine g_b ?_ | refine g_sk ?_ | refine g_cT rfl ?_ | refine g_cF rfl ?_ | refine g_x rfl ?_ | refine g_lb ?_))
      exact g_ret (q_2 rfl rfl (h _ _ hS))
end
end Go.Proofs.YtibofabkpgigoaaGreatDoor
namespace Go.Proofs.YtibofabkpgigoaaGreatDoor
open Go.En

theorem first_u {P r2 : Bs} {c : UInt8} {k : Nat} (hP : c ∉ P) (hk : (P ++ c :: r2)[k]? = some c) (hn : c ∉ (P ++ c :: r2).take k) : k = P.length := by
  rcases Nat.lt_trichotomy k P.length with h | h | h
  · rw [List.getElem?_append_left h] at hk
    exact absurd (List.mem_of_getElem? hk) hP
  · exact h
  · exfalso
    apply hn
    refine List.mem_of_getElem? (i := P.length) ?_
    rw [List.getElem?_take, if_pos h, List.getElem?_append_right (Nat.le_refl _), Nat.sub_self]
    rfl
theorem ps_drop {s : Bs} {d o : List Li} {f m : Nat} (hp : prs s = some d) (ho : o = d.take m) (hf : f = ((o.map ln1).flatten).length) : s.drop f = ((d.drop m).map ln1).flatten := by
  obtain ⟨ht, hck⟩ := prs_ok hp
  unfold txt at ht
  rw [if_pos hck] at ht
  have e : s = (o.map ln1).flatten ++ ((d.drop m).map ln1).flatten := by
    rw [ho, ← List.flatten_append, ← List.map_append, List.take_append_drop, ht]
  rw [hf]
  conv => lhs; rw [e]
  exact List.drop_left
theorem ps_line {s : Bs} {d o : List Li} {i f m : Nat} (hp : prs s = some d) (ho : o = d.take m) (hf : f = ((o.map ln1).flatten).length) (hno : (10 : UInt8) ∉ (s.drop f).take (i - f)) (hfi : f ≤ i) (hi : i < s.length) (hc : s[i] = 10) :
    ∃ hm : m < d.length, i = f + 65 + d[m].1.length ∧ (s.drop f).take 64 = hex d[m].2.1 ∧ (s.drop (f + 65)).take (i - (f + 65)) = d[m].1 := by
  have hdr := ps_drop hp ho hf
  obtain ⟨ht, hck⟩ := prs_ok hp
  have hm2 : m < d.length := by
    rcases Nat.lt_or_ge m d.length with h | h
    · exact h
    · exfalso
      rw [List.drop_eq_nil_of_le h] at hdr
      have := congrArg List.length hdr
      simp only [List.length_drop, List.map_nil, List.flatten_nil, List.length_nil] at this
      omega
  refine ⟨hm2, ?_⟩
  generalize hx : d[m] = x
  have hxo : (10 : UInt8) ∉ x.1 := ent_no10 (chk_ent hck x (by rw [← hx]; exact List.getElem_mem hm2))
  have hhl : (hex x.2.1).length = 64 := by rw [hex_len, x.2.2]
  have hr : s.drop f = (hex x.2.1 ++ 32 :: x.1) ++ 10 :: ((d.drop (m + 1)).map ln1).flatten := by
    rw [hdr, List.drop_eq_getElem_cons hm2, hx, List.map_cons, List.flatten_cons]
    unfold ln1
    simp
  generalize ((d.drop (m + 1)).map ln1).flatten = R at hr
  have hP : (10 : UInt8) ∉ hex x.2.1 ++ 32 :: x.1 := by
    rw [List.mem_append, List.mem_cons]
    rintro (h | h | h)
    · exact hex_no (by decide) _ h
    · exact absurd h (by decide)
    · exact hxo h
  have hk : (s.drop f)[i - f]? = some 10 := by
    rw [List.getElem?_drop, show f + (i - f) = i by omega, List.getElem?_eq_getElem hi, hc]
  have hkl := first_u hP (by rw [← hr]; exact hk) (by rw [← hr]; exact hno)
  rw [List.length_append, List.length_cons, hhl] at hkl
  refine ⟨by omega, ?_, ?_⟩
  · rw [hr, List.append_assoc]
    exact List.take_left' hhl
  · rw [← List.drop_drop, hr, show i - (f + 65) = x.1.length by omega]
    have e : (hex x.2.1 ++ 32 :: x.1) ++ 10 :: R = (hex x.2.1 ++ [32]) ++ (x.1 ++ 10 :: R) := by simp
    rw [e, List.drop_left' (by rw [List.length_append, hhl]; rfl)]
    exact List.take_left
def PI (s : Bs) (i f : Nat) (o : List Li) : Prop := ∀ d, prs s = some d → (∃ m, m ≤ d.length ∧ o = d.take m) ∧ (10 : UInt8) ∉ (s.drop f).take (i - f)
theorem PI_0 (s : Bs) : PI s 0 0 [] := fun d _ => ⟨⟨0, Nat.zero_le _, rfl⟩, by simp⟩
theorem PI_bad {s : Bs} {i f : Nat} {o : List Li} (hI : PI s i f o) (hf : f = ((o.map ln1).flatten).length) (hfi : f ≤ i) (hi : i < s.length) (hc : s[i] = 10) (h : i - f < 65 ∨ unhE ((s.drop f).take 64) ≠ 0) : prs s = none := by
  cases hp : prs s with
  | none => rfl
  | some d =>
    exfalso
    obtain ⟨⟨m, _, ho⟩, hno⟩ := hI d hp
    obtain ⟨hm2, h1, h2, h3⟩ := ps_line hp ho hf hno hfi hi hc
    rcases h with h | h
    · omega
    · exact h (by rw [h2]; exact unhE_hex _)
theorem PI_line {s : Bs} {i f : Nat} {o : List Li} (hI : PI s i f o) (hf : f = ((o.map ln1).flatten).length) (hfi : f ≤ i) (hi : i < s.length) (hc : s[i] = 10) : PI s (i + 1) (i + 1) (o ++ [((s.drop (f + 65)).take (i - (f + 65)), ⟨unhV ((s.drop f).take 64), unhV_len _⟩)]) := by
  intro d hp
  obtain ⟨⟨m, _, ho⟩, hno⟩ := hI d hp
  obtain ⟨hm2, h1, h2, h3⟩ := ps_line hp ho hf hno hfi hi hc
  refine ⟨⟨m + 1, hm2, ?_⟩, by simp⟩
  have hX : (((s.drop (f + 65)).take (i - (f + 65)), ⟨unhV ((s.drop f).take 64), unhV_len _⟩) : Li) = d[m] := by
    refine Prod.ext h3 (Subtype.ext ?_)
    show unhV _ = d[m].2.1
    rw [h2]
    exact unhV_hex _
  rw [List.take_succ_eq_append_getElem hm2, hX, ← ho]
theorem PI_go {s : Bs} {i f : Nat} {o : List Li} (hI : PI s i f o) (hfi : f ≤ i) (hi : i < s.length) (hc : s[i] ≠ 10) : PI s (i + 1) f o := by
  intro d hp
  obtain ⟨h1, hno⟩ := hI d hp
  refine ⟨h1, ?_⟩
  have hk2 : i - f < (s.drop f).length := by rw [List.length_drop]; omega
  rw [show i + 1 - f = (i - f) + 1 by omega, List.take_succ_eq_append_getElem hk2, List.mem_append, List.mem_singleton]
  rintro (h | h)
  · exact hno h
  · rw [List.getElem_drop] at h
    have : s[f + (i - f)]'(by omega) = s[i] := by congr 1; omega
    rw [this] at h
    exact hc h.symm
theorem PI_end {s : Bs} {f : Nat} {o : List Li} (hI : PI s s.length f o) (hf : f = ((o.map ln1).flatten).length) : prs s = if txt o = s ∧ chk o = true then some o else none := by
  by_cases h : txt o = s ∧ chk o = true
  · rw [if_pos h]
    have := prs_txt h.2
    rw [h.1] at this
    exact this
  · rw [if_neg h]
    cases hp : prs s with
    | none => rfl
    | some d =>
      exfalso
      obtain ⟨⟨m, hm, ho⟩, hno⟩ := hI d hp
      rw [List.take_of_length_le (by rw [List.length_drop]; exact Nat.le_refl _), ps_drop hp ho hf] at hno
      have hm2 : m = d.length := by
        rcases Nat.lt_or_ge m d.length with h1 | h1
        · exfalso
          apply hno
          rw [List.drop_eq_getElem_cons h1, List.map_cons, List.flatten_cons]
          unfold ln1
          simp
        · omega
      rw [hm2, List.take_length] at ho
      subst ho
      exact h (prs_ok hp)
theorem neq10 (c : UInt8) : cmv BinOp.neq ((c.toNat : Nat) : Int) 10 = !decide (c = 10) := by
  have := ceq_c (c := c) (n := 10) (by decide)
  exact congrArg (fun b => !b) this
theorem flt_mem {o : List Li} {x : Li} (h : x ∈ o) : 66 + x.1.length ≤ ((o.map ln1).flatten).length := by
  obtain ⟨a, b, rfl⟩ := List.append_of_mem h
  simp only [List.map_append, List.map_cons, List.flatten_append, List.flatten_cons, List.length_append, ln1_len]
  omega
theorem flt_len : ∀ o : List Li, o.length ≤ ((o.map ln1).flatten).length
  | [] => Nat.le_refl _
  | x :: o => by
    have := flt_len o
    rw [List.map_cons, List.flatten_cons, List.length_append, ln1_len, List.length_cons]
    omega
section
variable {w w0 : World} {S0 : Nat → Prop} {L B : List Res} {K : Value → World → Prop} {s : Bs} {E0 E1 : Nat}
set_option maxHeartbeats 4000000 in
theorem r_Parse20 (hs : s.length ≤ 60000) (h : ∀ v' w', St w (fun _ => False) w' [row v' 41 33 (psL s).length (fl lc (psL s))] → K (.tuple ⟨[v', .int .i64 (psE s)]⟩) w') : CK Tryz.prog 24 [sv s] w K := by
  have hS := St.nil w (fun _ => False)
  have esz : (⟨s.toArray⟩ : ByteArray).size = s.length := by rw [Lib.size_eq]
  have l0 : (bys zid).length = 32 := by rw [bys_length, zid_len]
  have bad : prs s = none → ∀ {L : List Res} w', St w (fun _ => False) w' L → K (.tuple ⟨[.slice none 0 0, .int .i64 200]⟩) w' := fun e {L} w' hS => by
    have e1 : psE s = 200 := by unfold psE; rw [e]; rfl
    have e2 : psL s = [] := by unfold psL; rw [e]; rfl
    rw [e1, e2] at h
    exact h _ _ ((hS.sel [] rfl rfl).nilrow 41 33)
  refine call_k Tryz.func24 k24 Tryz.ntmps24 (Nat.le_of_ble_eq_true rfl) ?_
  (repeat (first | refine g_sq ?_ | refine g_rg ?_ | refine g_r0 ?_ | refine g_ok rfl rfl ?_ | refine g_no rfl ?_ | refine g_no0 rfl ?_ | refine g_bk ?_ | refine g_b ?_ | refine g_sk ?_ | refine g_cT rfl ?_ | refine g_cF rfl ?_ | refine g_x rfl ?_ | refine g_lb ?_))
  refine g_lp (ι := Nat × Nat × Value × List Li) (fun x => [(0, sv s), (4, x.2.2.1), (5, .int .i64 x.2.1), (6, .int .i64 x.1)]) (fun x w' => x.1 ≤ s.length ∧ x.2.1 ≤ x.1 ∧ x.2.1 = ((x.2.2.2.map ln1).flatten).length ∧ PI s x.1 x.2.1 x.2.2.2 ∧ St w (fun _ => False) w' [row x.2.2.1 41 33 x.2.2.2.length (fl lc x.2.2.2)]) (fun x => s.length - x.1) (0, 0, .slice none 0 0, [])
    ⟨rfl, rfl, rfl, rfl, trivial⟩ ⟨Nat.zero_le _, Nat.le_refl _, rfl, PI_0 s, hS.nilrow 41 33⟩ ?_
  clear hS
  rintro ⟨i, f, vo, o⟩ w1 ⟨hi, hfi, hf, hI, hS⟩
  dsimp only at hi hfi hf hI hS ⊢
  have hol := flt_len o
  rw [← hf] at hol
  (repeat (first | refine g_sq ?_ | refine g_rg ?_ | refine g_r0 ?_ | refine g_ok rfl rfl ?_ | refine g_no rfl ?_ | refine g_no0 rfl ?_ | refine g_bk ?_ | refine g_b ?_ | refine g_sk ?_ | refine g_cT rfl ?_ | refine g_cF rfl ?_ | refine g_x rfl ?_ | refine g_lb ?_))
  rw [esz]
  (refine g_cd rfl (fun hc => ?_) (fun hc => ?_) <;> simp only [cmv, arv, Bool.not_eq_true', Bool.not_eq_false', decide_eq_true_eq, decide_eq_false_iff_not] at hc)
  · have hlt : i < s.length := by omega
    (repeat (first | refine g_sq ?_ | refine g_rg ?_ | refine g_r0 ?_ | refine g_ok rfl rfl ?_ | refine g_no rfl ?_ | refine g_no0 rfl ?_ | refine g_bk ?_ | refine g_b ?_ | refine g_sk ?_ | refine g_cT rfl ?_ | refine g_cF rfl ?_ | refine g_x rfl ?_ | refine g_lb ?_))
    refine g_rq rfl rfl ⟨by omega, by show (i : Int) < (s.length : Int); omega⟩ ?_
    rw [gd_at hlt]
    (repeat (first | refine g_sq ?_ | refine g_rg ?_ | refine g_r0 ?_ | refine g_ok rfl rfl ?_ | refine g_no rfl ?_ | refine g_no0 rfl ?_ | refine g_bk ?_ | refine g_b ?_ | refine g_sk ?_ | refine g_cT rfl ?_ | refine g_cF rfl ?_ | refine g_x rfl ?_ | refine g_lb ?_))
    rw [neq10]
    by_cases h10 : s[i] = 10
    · rw [decide_eq_true h10]
      (repeat (first | refine g_sq ?_ | refine g_rg ?_ | refine g_r0 ?_ | refine g_ok rfl rfl ?_ | refine g_no rfl ?_ | refine g_no0 rfl ?_ | refine g_bk ?_ | refine g_b ?_ | refine g_sk ?_ | refine g_cT rfl ?_ | refine g_cF rfl ?_ | refine g_x rfl ?_ | refine g_lb ?_))
      refine g_rq rfl rfl (in64 (by simp only [arv]; omega)) ?_
      have e21 : arv BinOp.sub (i : Int) (f : Int) = ((i - f : Nat) : Int) := by simp only [arv]; omega
      rw [e21]
      (repeat (first | refine g_sq ?_ | refine g_rg ?_ | refine g_r0 ?_ | refine g_ok rfl rfl ?_ | refine g_no rfl ?_ | refine g_no0 rfl ?_ | refine g_bk ?_ | refine g_b ?_ | refine g_sk ?_ | refine g_cT rfl ?_ | refine g_cF rfl ?_ | refine g_x rfl ?_ | refine g_lb ?_))
      (generalize q1 : cmv _ _ _ = q; cases q <;> simp only [cmv, arv, Bool.not_eq_true', Bool.not_eq_false', decide_eq_true_eq, decide_eq_false_iff_not] at q1 <;> first | (exfalso; omega) | skip)
      · have h65 : 65 ≤ i - f := by omega
        have e27 : arv BinOp.add (f : Int) 64 = ((f + 64 : Nat) : Int) := by simp only [arv]; omega
        have e37 : arv BinOp.add (f : Int) 65 = ((f + 65 : Nat) : Int) := by simp only [arv]; omega
        (repeat (first | refine g_sq ?_ | refine g_rg ?_ | refine g_r0 ?_ | refine g_ok rfl rfl ?_ | refine g_no rfl ?_ | refine g_no0 rfl ?_ | refine g_bk ?_ | refine g_b ?_ | refine g_sk ?_ | refine g_cT rfl ?_ | refine g_cF rfl ?_ | refine g_x rfl ?_ | refine g_lb ?_))
        refine g_rq rfl rfl (in64 (by rw [e27]; omega)) ?_
        rw [e27]
        refine g_rq rfl rfl ⟨by omega, by omega, by rw [esz]; omega⟩ ?_
        rw [Int.toNat_natCast, Int.toNat_natCast, sv_ext, Nat.add_sub_cancel_left]
        refine g_cl rfl rfl (r_Parse (s := (s.drop f).take 64) fun w1 h' => ?_)
        replace hS := hS.call0.2 _ _ h'
        rw [List.append_nil] at hS
        clear h'
        have l1 : (bys (unhV ((s.drop f).take 64))).length = 32 := by rw [bys_length, unhV_len]
        (repeat (first | refine g_sq ?_ | refine g_rg ?_ | refine g_r0 ?_ | refine g_ok rfl rfl ?_ | refine g_no rfl ?_ | refine g_no0 rfl ?_ | refine g_bk ?_ | refine g_b ?_ | refine g_sk ?_ | refine g_cT rfl ?_ | refine g_cF rfl ?_ | refine g_x rfl ?_ | refine g_lb ?_))
        refine g_ef rfl (ef_al hS fun b7 w1 hS => ?_)
        replace hS : St w (fun _ => False) w1 [row vo 41 33 o.length (fl lc o), cel b7 (bys zid) 35] := hS
        (repeat (first | refine g_sq ?_ | refine g_rg ?_ | refine g_r0 ?_ | refine g_ok rfl rfl ?_ | refine g_no rfl ?_ | refine g_no0 rfl ?_ | refine g_bk ?_ | refine g_b ?_ | refine g_sk ?_ | refine g_cT rfl ?_ | refine g_cF rfl ?_ | refine g_x rfl ?_ | refine g_lb ?_))
        refine g_ef0 rfl (ef_st (u := .agg ⟨bys (unhV ((s.drop f).take 64))⟩) hS 1 rfl rfl rfl l1 (Nat.le_of_eq l0.symm) (bys_one _) fun w1 hS => ?_)
        replace hS := hS.ceq (l' := bys (unhV ((s.drop f).take 64))) 1 rfl (spl_full _ _ (l1.trans l0.symm))
        (repeat (first | refine g_sq ?_ | refine g_rg ?_ | refine g_r0 ?_ | refine g_ok rfl rfl ?_ | refine g_no rfl ?_ | refine g_no0 rfl ?_ | refine g_bk ?_ | refine g_b ?_ | refine g_sk ?_ | refine g_cT rfl ?_ | refine g_cF rfl ?_ | refine g_x rfl ?_ | refine g_lb ?_))
        by_cases hE : unhE ((s.drop f).take 64) = 0
        · have hst := PI_line hI hf hfi hlt h10
          rw [hE]
          (repeat (first | refine g_sq ?_ | refine g_rg ?_ | refine g_r0 ?_ | refine g_ok rfl rfl ?_ | refine g_no rfl ?_ | refine g_no0 rfl ?_ | refine g_bk ?_ | refine g_b ?_ | refine g_sk ?_ | refine g_cT rfl ?_ | refine g_cF rfl ?_ | refine g_x rfl ?_ | refine g_lb ?_))
          refine g_dr mixed ?_
          replace hS := hS.drew
          (repeat (first | refine d_ok rfl rfl rfl ?_ | refine d_no rfl rfl ?_))
          refine d_rq rfl rfl rfl (in64 (by rw [e37]; omega)) ?_
          rw [e37]
          (repeat (first | refine d_ok rfl rfl rfl ?_ | refine d_no rfl rfl ?_))
          refine d_rq rfl rfl rfl ⟨by omega, by omega, by rw [esz]; omega⟩ ?_
          rw [Int.toNat_natCast, Int.toNat_natCast, sv_ext]
          (repeat (first | refine d_ok rfl rfl rfl ?_ | refine d_no rfl rfl ?_))
          refine d_lm rfl rfl rfl (hS.b 1 rfl) (Nat.le_of_eq l1.symm) ?_
          rw [List.drop_zero, List.take_of_length_le (Nat.le_of_eq l1)]
          refine d_ok rfl rfl (pev_bd (fill_li ((s.drop (f + 65)).take (i - (f + 65)), ⟨unhV ((s.drop f).take 64), unhV_len _⟩) rfl rfl)) ?_
          have hXl : (((s.drop (f + 65)).take (i - (f + 65)), ⟨unhV ((s.drop f).take 64), unhV_len _⟩) : Li).1.length = i - (f + 65) := by
            show ((s.drop (f + 65)).take (i - (f + 65))).length = _
            rw [List.length_take, List.length_drop]
            omega
          generalize (((s.drop (f + 65)).take (i - (f + 65)), ⟨unhV ((s.drop f).take 64), unhV_len _⟩) : Li) = X at hst hXl ⊢
          refine d_e rfl rfl ?_
          refine ef_bl (rs := lc X) hS (evcs_1 rfl (lc_len _)) fun g w2 hS => ⟨rc_0, ?_⟩
          refine d_e rfl rfl ?_
          refine ef_ap (bytes := 48) (n := o.length) (m := 1) (ys := lc X) hS 0 rfl rfl rfl (.inl ⟨41, .inr ⟨g, 0, 1, _, rfl, Nat.le_refl _, Nat.le_of_eq (by rw [lc_len]), by rw [List.drop_zero, List.take_of_length_le (Nat.le_of_eq (lc_len _))], (hS.b 2 rfl).r⟩⟩) (List.all_eq_true.2 (lc_one X)) (by omega) (by omega) fun v2 w2 hS => ⟨rc_0, ?_⟩
          have hap : fl lc o ++ lc X = fl lc (o ++ [X]) := by rw [fl_app]; simp [fl]
          rw [hap, show o.length + 1 = (o ++ [X]).length by simp] at hS
          refine d_e rfl rfl ?_
          refine ef_qt ((pev_ok rfl).2 _) ⟨rc_0, ?_⟩
          refine d_fin ?_
          (repeat (first | refine g_sq ?_ | refine g_rg ?_ | refine g_r0 ?_ | refine g_ok rfl rfl ?_ | refine g_no rfl ?_ | refine g_no0 rfl ?_ | refine g_bk ?_ | refine g_b ?_ | refine g_sk ?_ | refine g_cT rfl ?_ | refine g_cF rfl ?_ | refine g_x rfl ?_ | refine g_lb ?_))
          refine g_rq rfl rfl (in64 (by simp only [arv]; omega)) ?_
          (repeat (first | refine g_sq ?_ | refine g_rg ?_ | refine g_r0 ?_ | refine g_ok rfl rfl ?_ | refine g_no rfl ?_ | refine g_no0 rfl ?_ | refine g_bk ?_ | refine g_b ?_ | refine g_sk ?_ | refine g_cT rfl ?_ | refine g_cF rfl ?_ | refine g_x rfl ?_ | refine g_lb ?_))
          refine g_rq rfl rfl (in64 (by simp only [arv]; omega)) ?_
          (repeat (first | refine g_sq ?_ | refine g_rg ?_ | refine g_r0 ?_ | refine g_ok rfl rfl ?_ | refine g_no rfl ?_ | refine g_no0 rfl ?_ | refine g_bk ?_ | refine g_b ?_ | refine g_sk ?_ | refine g_cT rfl ?_ | refine g_cF rfl ?_ | refine g_x rfl ?_ | refine g_lb ?_))
          refine g_l (i + 1, i + 1, v2, o ++ [X]) ⟨rfl, rfl, rfl, rfl, trivial⟩ ⟨by simp only; omega, Nat.le_refl _, ?_, hst, hS.sel [0] rfl rfl⟩ (by simp only; omega)
          dsimp only
          rw [List.map_append, List.flatten_append, List.length_append, ← hf, List.map_singleton, List.flatten_singleton, ln1_len, hXl]
          omega
        · have hE2 : unhE ((s.drop f).take 64) = 30 := by
            unfold unhE at hE ⊢
            split
            · rename_i h; rw [if_pos h] at hE; exact absurd rfl hE
            · rfl
          have hb := PI_bad hI hf hfi hlt h10 (.inr hE)
          rw [hE2]
          (repeat (first | refine g_sq ?_ | refine g_rg ?_ | refine g_r0 ?_ | refine g_ok rfl rfl ?_ | refine g_no rfl ?_ | refine g_no0 rfl ?_ | refine g_bk ?_ | refine g_b ?_ | refine g_sk ?_ | refine g_cT rfl ?_ | refine g_cF rfl ?_ | refine g_x rfl ?_ | refine g_lb ?_))
          exact g_ret (q_2 rfl rfl (bad hb _ hS))
      · have hb := PI_bad hI hf hfi hlt h10 (.inl (by omega))
        (repeat (first | refine g_sq ?_ | refine g_rg ?_ | refine g_r0 ?_ | refine g_ok rfl rfl ?_ | refine g_no rfl ?_ | refine g_no0 rfl ?_ | refine g_bk ?_ | refine g_b ?_ | refine g_sk ?_ | refine g_cT rfl ?_ | refine g_cF rfl ?_ | refine g_x rfl ?_ | refine g_lb ?_))
        exact g_ret (q_2 rfl rfl (bad hb _ hS))
    · rw [decide_eq_false h10]
      (repeat (first | refine g_sq ?_ | refine g_rg ?_ | refine g_r0 ?_ | refine g_ok rfl rfl ?_ | refine g_no rfl ?_ | refine g_no0 rfl ?_ | refine g_bk ?_ | refine g_b ?_ | refine g_sk ?_ | refine g_cT rfl ?_ | refine g_cF rfl ?_ | refine g_x rfl ?_ | refine g_lb ?_))
      refine g_rq rfl rfl (in64 (by simp only [arv]; omega)) ?_
      (repeat (first | refine g_sq ?_ | refine g_rg ?_ | refine g_r0 ?_ | refine g_ok rfl rfl ?_ | refine g_no rfl ?_ | refine g_no0 rfl ?_ | refine g_bk ?_ | refine g_b ?_ | refine g_sk ?_ | refine g_cT rfl ?_ | refine g_cF rfl ?_ | refine g_x rfl ?_ | refine g_lb ?_))
      exact g_l (i + 1, f, vo, o) ⟨rfl, rfl, rfl, rfl, trivial⟩ ⟨by simp only; omega, by simp only; omega, hf, PI_go hI hfi hlt h10, hS⟩ (by simp only; omega)
  · have ei : i = s.length := by omega
    subst ei
    have hend := PI_end hI hf
    have hln : ∀ x ∈ o, x.1.length < 4294967281 := fun x hx => by
      have := flt_mem hx
      omega
    (repeat (first | refine g_sq ?_ | refine g_rg ?_ | refine g_r0 ?_ | refine g_ok rfl rfl ?_ | refine g_no rfl ?_ | refine g_no0 rfl ?_ | refine g_bk ?_ | refine g_b ?_ | refine g_sk ?_ | refine g_cT rfl ?_ | refine g_cF rfl ?_ | refine g_x rfl ?_ | refine g_lb ?_))
    refine g_cl rfl rfl (r_Check20 rfl (by omega) hln (Ow.rd (hS.ok 0 _ rfl)) fun w1 h' => ?_)
    replace hS := hS.call0.2 _ _ h'
    rw [List.append_nil] at hS
    clear h'
    cases hck : chk o
    · rw [hck, if_neg (by rintro ⟨_, h⟩; cases h)] at hend
      rw [eE_no hck]
      (repeat (first | refine g_sq ?_ | refine g_rg ?_ | refine g_r0 ?_ | refine g_ok rfl rfl ?_ | refine g_no rfl ?_ | refine g_no0 rfl ?_ | refine g_bk ?_ | refine g_b ?_ | refine g_sk ?_ | refine g_cT rfl ?_ | refine g_cF rfl ?_ | refine g_x rfl ?_ | refine g_lb ?_))
      exact g_ret (q_2 rfl rfl (bad hend _ hS))
    · rw [eE_ok hck]
      (repeat (first | refine g_sq ?_ | refine g_rg ?_ | refine g_r0 ?_ | refine g_ok rfl rfl ?_ | refine g_no rfl ?_ | refine g_no0 rfl ?_ | refine g_bk ?_ | refine g_b ?_ | refine g_sk ?_ | refine g_cT rfl ?_ | refine g_cF rfl ?_ | refine g_x rfl ?_ | refine g_lb ?_))
      refine g_cl rfl rfl (r_Text20 rfl (by omega) hln (by omega) (Ow.rd (hS.ok 0 _ rfl)) fun w1 h' => ?_)
      replace hS := hS.call0.2 _ _ h'
      rw [List.append_nil] at hS
      clear h'
      (repeat (first | refine g_sq ?_ | refine g_rg ?_ | refine g_r0 ?_ | refine g_ok rfl rfl ?_ | refine g_no rfl ?_ | refine g_no0 rfl ?_ | refine g_bk ?_ | refine g_b ?_ | refine g_sk ?_ | refine g_cT rfl ?_ | refine g_cF rfl ?_ | refine g_x rfl ?_ | refine g_lb ?_))
      generalize hq : decide ((⟨(txt o).toArray⟩ : ByteArray).data.toList = (⟨s.toArray⟩ : ByteArray).data.toList) = q
      rw [dec_sv] at hq
      cases q
      · rw [if_neg (fun h => of_decide_eq_false hq h.1)] at hend
        (repeat (first | refine g_sq ?_ | refine g_rg ?_ | refine g_r0 ?_ | refine g_ok rfl rfl ?_ | refine g_no rfl ?_ | refine g_no0 rfl ?_ | refine g_bk ?_ | refine g_b ?_ | refine g_sk ?_ | refine g_cT rfl ?_ | refine g_cF rfl ?_ | refine g_x rfl ?_ | refine g_lb ?_))
        exact g_ret (q_2 rfl rfl (bad hend _ hS))
      · rw [if_pos ⟨of_decide_eq_true hq, hck⟩] at hend
        have e1 : psE s = 0 := by unfold psE; rw [hend]; rfl
        have e2 : psL s = o := by unfold psL; rw [hend]; rfl
        rw [e1, e2] at h
        (repeat (first | refine g_sq ?_ | refine g_rg ?_ | refine g_r0 ?_ | refine g_ok rfl rfl ?_ | refine g_no rfl ?_ | refine g_no0 rfl ?_ | refine g_bk ?_ | refine g_b ?_ | refine g_sk ?_ | refine g_cT rfl ?_ | refine g_cF rfl ?_ | refine g_x rfl ?_ | refine g_lb ?_))
        exact g_ret (q_2 rfl rfl (h _ _ hS))
end
end Go.Proofs.YtibofabkpgigoaaGreatDoor
namespace Go.Proofs.YtibofabkpgigoaaGreatDoor
open Go.En

theorem flat_bd {m : Nat} : ∀ ps : List Lv1, (∀ p ∈ ps, p.2.length ≤ m) → (flat ps).length ≤ ps.length * m
  | [], _ => by simp [flat]
  | p :: ps, h => by
    have h1 := flat_bd ps fun q hq => h q (List.mem_cons_of_mem _ hq)
    have h2 := h p List.mem_cons_self
    have e : flat (p :: ps) = p.2 ++ flat ps := rfl
    rw [e, List.length_append, List.length_cons, Nat.add_mul]
    omega
section
variable {w w0 : World} {S0 : Nat → Prop} {L B : List Res} {K : Value → World → Prop} {s t : Bs} {E0 E1 : Nat}
theorem r_GreatU {d : List Li} {v : Value} {n : Nat} (hd : d.length = n) (hr : Rd v E0 33 n (fl lc d) w) (h : K (.int .i64 (if grt d = true then 1 else 0)) w) : CK Tryz.prog 8 [v] w K := by
  obtain ⟨a, c, rfl⟩ := hr.form
  refine call_k Tryz.func8 k8 Tryz.ntmps8 (Nat.le_of_ble_eq_true rfl) ?_
  (repeat (first | refine g_sq ?_ | refine g_rg ?_ | refine g_r0 ?_ | refine g_ok rfl rfl ?_ | refine g_no rfl ?_ | refine g_no0 rfl ?_ | refine g_bk ?_ | refine g_b ?_ | refine g_sk ?_ | refine g_cT rfl ?_ | refine g_cF rfl ?_ | refine g_x rfl ?_ | refine g_lb ?_))
  (refine g_cd rfl (fun hc => ?_) (fun hc => ?_) <;> simp only [cmv, arv, Bool.not_eq_true', Bool.not_eq_false', decide_eq_true_eq, decide_eq_false_iff_not] at hc)
  · have e : grt d = true := by unfold grt; rw [decide_eq_true (by omega), Bool.true_or]
    rw [if_pos e] at h
    (repeat (first | refine g_sq ?_ | refine g_rg ?_ | refine g_r0 ?_ | refine g_ok rfl rfl ?_ | refine g_no rfl ?_ | refine g_no0 rfl ?_ | refine g_bk ?_ | refine g_b ?_ | refine g_sk ?_ | refine g_cT rfl ?_ | refine g_cF rfl ?_ | refine g_x rfl ?_ | refine g_lb ?_))
    exact g_ret (q_1 rfl h)
  · (repeat (first | refine g_sq ?_ | refine g_rg ?_ | refine g_r0 ?_ | refine g_ok rfl rfl ?_ | refine g_no rfl ?_ | refine g_no0 rfl ?_ | refine g_bk ?_ | refine g_b ?_ | refine g_sk ?_ | refine g_cT rfl ?_ | refine g_cF rfl ?_ | refine g_x rfl ?_ | refine g_lb ?_))
    refine g_lp (ι := Nat) (fun k => [(0, .slice a n c), (3, .int .i64 k)]) (fun k w' => k ≤ n ∧ (∀ j (hj : j < d.length), j < k → d[j].1.length ≤ 300) ∧ w' = w) (fun k => n - k) 0 ⟨rfl, rfl, trivial⟩ ⟨Nat.zero_le _, fun j _ h => absurd h (Nat.not_lt_zero j), rfl⟩ ?_
    rintro k w1 ⟨hk, hP, rfl⟩
    (repeat (first | refine g_sq ?_ | refine g_rg ?_ | refine g_r0 ?_ | refine g_ok rfl rfl ?_ | refine g_no rfl ?_ | refine g_no0 rfl ?_ | refine g_bk ?_ | refine g_b ?_ | refine g_sk ?_ | refine g_cT rfl ?_ | refine g_cF rfl ?_ | refine g_x rfl ?_ | refine g_lb ?_))
    (refine g_cd rfl (fun hlt => ?_) (fun hlt => ?_) <;> simp only [cmv, arv, Bool.not_eq_true', Bool.not_eq_false', decide_eq_true_eq, decide_eq_false_iff_not] at hlt)
    · have hlt : k < n := by omega
      obtain ⟨b1, off, cap, l, e1, hcap, hl, hx, hb⟩ := Rd.block hr (by omega)
      cases e1
      have hbd : off + k * 33 + 33 ≤ l.length := by have : (k + 1) * 33 ≤ c * 33 := Nat.mul_le_mul_right 33 (by omega); omega
      (repeat (first | refine g_sq ?_ | refine g_rg ?_ | refine g_r0 ?_ | refine g_ok rfl rfl ?_ | refine g_no rfl ?_ | refine g_no0 rfl ?_ | refine g_bk ?_ | refine g_b ?_ | refine g_sk ?_ | refine g_cT rfl ?_ | refine g_cF rfl ?_ | refine g_x rfl ?_ | refine g_lb ?_))
      refine g_rq rfl rfl ⟨by omega, by omega⟩ ?_
      (repeat (first | refine g_sq ?_ | refine g_rg ?_ | refine g_r0 ?_ | refine g_ok rfl rfl ?_ | refine g_no rfl ?_ | refine g_no0 rfl ?_ | refine g_bk ?_ | refine g_b ?_ | refine g_sk ?_ | refine g_cT rfl ?_ | refine g_cF rfl ?_ | refine g_x rfl ?_ | refine g_lb ?_))
      have e5 : l[off + (k : Int).toNat * 33 + 0]? = some (sv (d[k]'(by omega)).1) := by
        have h5 := rd_at lc_len hx hd (show k < d.length by omega)
        have h6 : ((l.drop (off + k * 33)).take 33)[0]? = some (sv (d[k]'(by omega)).1) := by rw [h5]; rfl
        rw [List.getElem?_take_of_lt (by omega), List.getElem?_drop] at h6
        rw [Int.toNat_natCast]
        exact h6
      refine g_l1r rfl rfl hb e5 ?_
      (repeat (first | refine g_sq ?_ | refine g_rg ?_ | refine g_r0 ?_ | refine g_ok rfl rfl ?_ | refine g_no rfl ?_ | refine g_no0 rfl ?_ | refine g_bk ?_ | refine g_b ?_ | refine g_sk ?_ | refine g_cT rfl ?_ | refine g_cF rfl ?_ | refine g_x rfl ?_ | refine g_lb ?_))
      (refine g_cd rfl (fun hq => ?_) (fun hq => ?_) <;> simp only [cmv, arv, Bool.not_eq_true', Bool.not_eq_false', decide_eq_true_eq, decide_eq_false_iff_not] at hq)
      · rw [Lib.size_eq] at hq
        have e : grt d = true := by
          unfold grt
          rw [Bool.or_eq_true]
          refine .inr (List.any_eq_true.2 ⟨d[k]'(by omega), List.getElem_mem _, decide_eq_true ?_⟩)
          have : ((⟨(d[k]'(by omega)).1.toArray⟩ : ByteArray).data.toList.length : Int) = ((d[k]'(by omega)).1.length : Int) := rfl
          omega
        rw [if_pos e] at h
        (repeat (first | refine g_sq ?_ | refine g_rg ?_ | refine g_r0 ?_ | refine g_ok rfl rfl ?_ | refine g_no rfl ?_ | refine g_no0 rfl ?_ | refine g_bk ?_ | refine g_b ?_ | refine g_sk ?_ | refine g_cT rfl ?_ | refine g_cF rfl ?_ | refine g_x rfl ?_ | refine g_lb ?_))
        exact g_ret (q_1 rfl h)
      · rw [Lib.size_eq] at hq
        (repeat (first | refine g_sq ?_ | refine g_rg ?_ | refine g_r0 ?_ | refine g_ok rfl rfl ?_ | refine g_no rfl ?_ | refine g_no0 rfl ?_ | refine g_bk ?_ | refine g_b ?_ | refine g_sk ?_ | refine g_cT rfl ?_ | refine g_cF rfl ?_ | refine g_x rfl ?_ | refine g_lb ?_))
        refine g_rq rfl rfl (in64 (by simp only [arv]; omega)) ?_
        (repeat (first | refine g_sq ?_ | refine g_rg ?_ | refine g_r0 ?_ | refine g_ok rfl rfl ?_ | refine g_no rfl ?_ | refine g_no0 rfl ?_ | refine g_bk ?_ | refine g_b ?_ | refine g_sk ?_ | refine g_cT rfl ?_ | refine g_cF rfl ?_ | refine g_x rfl ?_ | refine g_lb ?_))
        refine g_l (k + 1) ⟨rfl, rfl, trivial⟩ ⟨by omega, fun j hj hjk => ?_, rfl⟩ (by omega)
        by_cases ej : j = k
        · subst ej
          have : ((⟨(d[j]'(by omega)).1.toArray⟩ : ByteArray).data.toList.length : Int) = ((d[j]'(by omega)).1.length : Int) := rfl
          omega
        · exact hP j hj (by omega)
    · have e : ¬ grt d = true := by
        unfold grt
        rw [Bool.or_eq_true, decide_eq_true_eq, List.any_eq_true]
        rintro (h1 | ⟨x, hx, h1⟩)
        · omega
        · obtain ⟨j, hj, rfl⟩ := List.getElem_of_mem hx
          have := hP j hj (by omega)
          rw [decide_eq_true_eq] at h1
          omega
      rw [if_neg e] at h
      (repeat (first | refine g_sq ?_ | refine g_rg ?_ | refine g_r0 ?_ | refine g_ok rfl rfl ?_ | refine g_no rfl ?_ | refine g_no0 rfl ?_ | refine g_bk ?_ | refine g_b ?_ | refine g_sk ?_ | refine g_cT rfl ?_ | refine g_cF rfl ?_ | refine g_x rfl ?_ | refine g_lb ?_))
      exact g_ret (q_1 rfl h)
set_option maxHeartbeats 8000000 in
theorem b_FormsL (hg : Gl w) {v u : Value} {n m : Nat} {d : List Li} {ps : List Lv1} (hd : d.length = n) (_ : n ≤ 9223372036854775807) (hr : Rd v E0 33 n (fl lc d) w) (hm : ps.length = m) (_ : m ≤ 9223372036854775807) (hu : Rd u E1 1 m (ps.map (·.1)) w) (hp : ∀ p ∈ ps, LvR w p)
    (h : ∀ w', St w (fun _ => False) w' [] → K (.bool true) w') : CK Tryz.prog 6 [v, sv s, sv t, u] w K := by
  have hS := St.nil w (fun _ => False)
  have hrr : ∀ {L : List Res} (w' : World), St w (fun _ => False) w' L → Rd v E0 33 n (fl lc d) w' := fun w' hS => hr.same fun b hb => hS.fr.kept b (hr.lt b hb) (fun h => h)
  have huu : ∀ {L : List Res} (w' : World), St w (fun _ => False) w' L → Rd u E1 1 m (ps.map (·.1)) w' := fun w' hS => hu.same fun b hb => hS.fr.kept b (hu.lt b hb) (fun h => h)
  have ez1 : (⟨s.toArray⟩ : ByteArray).size = s.length := by rw [Lib.size_eq]
  have ez2 : (⟨t.toArray⟩ : ByteArray).size = t.length := by rw [Lib.size_eq]
  have hpm1 : (ps.map (·.1)).length = m := by rw [List.length_map]; exact hm
  obtain ⟨a, c, rfl⟩ := hr.form
  obtain ⟨a3, c3, rfl⟩ := hu.form
  refine call_k Tryz.func6 k6 Tryz.ntmps6 (Nat.le_of_ble_eq_true rfl) ?_
  (repeat (first | refine g_sq ?_ | refine g_rg ?_ | refine g_r0 ?_ | refine g_ok rfl rfl ?_ | refine g_no rfl ?_ | refine g_no0 rfl ?_ | refine g_bk ?_ | refine g_b ?_ | refine g_sk ?_ | refine g_cT rfl ?_ | refine g_cF rfl ?_ | refine g_x rfl ?_ | refine g_lb ?_))
  refine g_cl rfl rfl (r_GreatU hd hr ?_)
  cases hg0 : grt d
  rotate_left
  · rw [if_pos rfl]
    (repeat (first | refine g_sq ?_ | refine g_rg ?_ | refine g_r0 ?_ | refine g_ok rfl rfl ?_ | refine g_no rfl ?_ | refine g_no0 rfl ?_ | refine g_bk ?_ | refine g_b ?_ | refine g_sk ?_ | refine g_cT rfl ?_ | refine g_cF rfl ?_ | refine g_x rfl ?_ | refine g_lb ?_))
    exact g_ret (q_1 rfl (h _ hS))
  rw [if_neg (by decide)]
  obtain ⟨hn60, hx300⟩ := grt_no (d := d) (by rw [hg0]; decide)
  (repeat (first | refine g_sq ?_ | refine g_rg ?_ | refine g_r0 ?_ | refine g_ok rfl rfl ?_ | refine g_no rfl ?_ | refine g_no0 rfl ?_ | refine g_bk ?_ | refine g_b ?_ | refine g_sk ?_ | refine g_cT rfl ?_ | refine g_cF rfl ?_ | refine g_x rfl ?_ | refine g_lb ?_))
  rw [ez1]
  (generalize q1 : cmv _ _ _ = q; cases q <;> simp only [cmv, arv, Bool.not_eq_true', Bool.not_eq_false', decide_eq_true_eq, decide_eq_false_iff_not] at q1 <;> first | (exfalso; omega) | skip)
  rotate_left
  · (repeat (first | refine g_sq ?_ | refine g_rg ?_ | refine g_r0 ?_ | refine g_ok rfl rfl ?_ | refine g_no rfl ?_ | refine g_no0 rfl ?_ | refine g_bk ?_ | refine g_b ?_ | refine g_sk ?_ | refine g_cT rfl ?_ | refine g_cF rfl ?_ | refine g_x rfl ?_ | refine g_lb ?_))
    exact g_ret (q_1 rfl (h _ hS))
  (repeat (first | refine g_sq ?_ | refine g_rg ?_ | refine g_r0 ?_ | refine g_ok rfl rfl ?_ | refine g_no rfl ?_ | refine g_no0 rfl ?_ | refine g_bk ?_ | refine g_b ?_ | refine g_sk ?_ | refine g_cT rfl ?_ | refine g_cF rfl ?_ | refine g_x rfl ?_ | refine g_lb ?_))
  rw [ez2]
  (generalize q2 : cmv _ _ _ = q; cases q <;> simp only [cmv, arv, Bool.not_eq_true', Bool.not_eq_false', decide_eq_true_eq, decide_eq_false_iff_not] at q2 <;> first | (exfalso; omega) | skip)
  rotate_left
  · (repeat (first | refine g_sq ?_ | refine g_rg ?_ | refine g_r0 ?_ | refine g_ok rfl rfl ?_ | refine g_no rfl ?_ | refine g_no0 rfl ?_ | refine g_bk ?_ | refine g_b ?_ | refine g_sk ?_ | refine g_cT rfl ?_ | refine g_cF rfl ?_ | refine g_x rfl ?_ | refine g_lb ?_))
    exact g_ret (q_1 rfl (h _ hS))
  (repeat (first | refine g_sq ?_ | refine g_rg ?_ | refine g_r0 ?_ | refine g_ok rfl rfl ?_ | refine g_no rfl ?_ | refine g_no0 rfl ?_ | refine g_bk ?_ | refine g_b ?_ | refine g_sk ?_ | refine g_cT rfl ?_ | refine g_cF rfl ?_ | refine g_x rfl ?_ | refine g_lb ?_))
  (generalize q3 : cmv _ _ _ = q; cases q <;> simp only [cmv, arv, Bool.not_eq_true', Bool.not_eq_false', decide_eq_true_eq, decide_eq_false_iff_not] at q3 <;> first | (exfalso; omega) | skip)
  rotate_left
  · (repeat (first | refine g_sq ?_ | refine g_rg ?_ | refine g_r0 ?_ | refine g_ok rfl rfl ?_ | refine g_no rfl ?_ | refine g_no0 rfl ?_ | refine g_bk ?_ | refine g_b ?_ | refine g_sk ?_ | refine g_cT rfl ?_ | refine g_cF rfl ?_ | refine g_x rfl ?_ | refine g_lb ?_))
    exact g_ret (q_1 rfl (h _ hS))
  have hm5 : m ≤ 5 := by omega
  (repeat (first | refine g_sq ?_ | refine g_rg ?_ | refine g_r0 ?_ | refine g_ok rfl rfl ?_ | refine g_no rfl ?_ | refine g_no0 rfl ?_ | refine g_bk ?_ | refine g_b ?_ | refine g_sk ?_ | refine g_cT rfl ?_ | refine g_cF rfl ?_ | refine g_x rfl ?_ | refine g_lb ?_))
  refine g_lp (ι := Nat) (fun k => [(0, .slice a n c), (1, sv s), (2, sv t), (3, .slice a3 m c3), (43, .int .i64 m), (44, .int .i64 k)]) (fun k w' => k ≤ m ∧ (∀ j (hj : j < ps.length), j < k → grt ps[j].2 = false) ∧ St w (fun _ => False) w' []) (fun k => m - k) 0
    ⟨rfl, rfl, rfl, rfl, rfl, rfl, trivial⟩ ⟨Nat.zero_le _, fun j _ h => absurd h (Nat.not_lt_zero j), hS⟩ ?_
  clear hS
  rintro k w1 ⟨hk, hC, hS⟩
  (repeat (first | refine g_sq ?_ | refine g_rg ?_ | refine g_r0 ?_ | refine g_ok rfl rfl ?_ | refine g_no rfl ?_ | refine g_no0 rfl ?_ | refine g_bk ?_ | refine g_b ?_ | refine g_sk ?_ | refine g_cT rfl ?_ | refine g_cF rfl ?_ | refine g_x rfl ?_ | refine g_lb ?_))
  (refine g_cd rfl (fun hlt => ?_) (fun hlt => ?_) <;> simp only [cmv, arv, Bool.not_eq_true', Bool.not_eq_false', decide_eq_true_eq, decide_eq_false_iff_not] at hlt)
  · have hlt : k < ps.length := by omega
    obtain ⟨b, off, cap, l, e1, hcap, hl, hx, hb⟩ := Rd.block (huu _ hS) (by omega)
    cases e1
    obtain ⟨E, hpk⟩ := (hp _ (List.getElem_mem hlt)).in hS
    (repeat (first | refine g_sq ?_ | refine g_rg ?_ | refine g_r0 ?_ | refine g_ok rfl rfl ?_ | refine g_no rfl ?_ | refine g_no0 rfl ?_ | refine g_bk ?_ | refine g_b ?_ | refine g_sk ?_ | refine g_cT rfl ?_ | refine g_cF rfl ?_ | refine g_x rfl ?_ | refine g_lb ?_))
    refine g_rq rfl rfl ⟨by omega, by omega⟩ ?_
    refine g_l1r rfl rfl hb (by rw [Int.toNat_natCast]; exact rd_x' hx hpm1 (by omega)) ?_
    rw [List.getElem_map]
    refine g_cl rfl rfl (r_GreatU rfl hpk ?_)
    cases hgk : grt ps[k].2
    · rw [if_neg (by decide)]
      (repeat (first | refine g_sq ?_ | refine g_rg ?_ | refine g_r0 ?_ | refine g_ok rfl rfl ?_ | refine g_no rfl ?_ | refine g_no0 rfl ?_ | refine g_bk ?_ | refine g_b ?_ | refine g_sk ?_ | refine g_cT rfl ?_ | refine g_cF rfl ?_ | refine g_x rfl ?_ | refine g_lb ?_))
      refine g_rq rfl rfl (in64 (by simp only [arv]; omega)) ?_
      (repeat (first | refine g_sq ?_ | refine g_rg ?_ | refine g_r0 ?_ | refine g_ok rfl rfl ?_ | refine g_no rfl ?_ | refine g_no0 rfl ?_ | refine g_bk ?_ | refine g_b ?_ | refine g_sk ?_ | refine g_cT rfl ?_ | refine g_cF rfl ?_ | refine g_x rfl ?_ | refine g_lb ?_))
      refine g_l (k + 1) ⟨rfl, rfl, rfl, rfl, rfl, rfl, trivial⟩ ⟨by omega, fun j hj hjk => ?_, hS⟩ (by omega)
      by_cases e : j = k
      · subst e; exact hgk
      · exact hC j hj (by omega)
    · rw [if_pos rfl]
      (repeat (first | refine g_sq ?_ | refine g_rg ?_ | refine g_r0 ?_ | refine g_ok rfl rfl ?_ | refine g_no rfl ?_ | refine g_no0 rfl ?_ | refine g_bk ?_ | refine g_b ?_ | refine g_sk ?_ | refine g_cT rfl ?_ | refine g_cF rfl ?_ | refine g_x rfl ?_ | refine g_lb ?_))
      exact g_ret (q_1 rfl (h _ hS))
  have hG : ∀ p ∈ ps, p.2.length ≤ 60 ∧ ∀ x ∈ p.2, x.1.length ≤ 300 := fun p hp => by
    obtain ⟨j, hj, rfl⟩ := List.getElem_of_mem hp
    exact grt_no (by rw [hC j hj (by omega)]; decide)
  clear hC hlt hk
  have hfb := flat_bd (m := 60) ps fun p hp => (hG p hp).1
  have hft : (flat ps).length < 2000000 := by
    have : ps.length * 60 ≤ 5 * 60 := Nat.mul_le_mul_right 60 (by omega)
    omega
  have hfl : ∀ x ∈ flat ps, x.1.length < 4294967281 := fun x hx => by
    obtain ⟨l, hl, hx⟩ := List.mem_flatten.1 hx
    obtain ⟨p, hp, rfl⟩ := List.mem_map.1 hl
    have := (hG p hp).2 x hx
    omega
  have hlen : ∀ x ∈ d, x.1.length < 4294967281 := fun x hx => by have := hx300 x hx; omega
  have htot : (d.map ln1).flatten.length < 4294967281 := by
    have h1 := flen_bd d hx300
    have h2 : d.length * (66 + 300) ≤ 60 * (66 + 300) := Nat.mul_le_mul_right _ hn60
    omega
  have hn : n < 2000000 := by omega
  have hmb : m < 2000000 := by omega
  have l0 : (bys zid).length = 32 := by rw [bys_length, zid_len]
  (repeat (first | refine g_sq ?_ | refine g_rg ?_ | refine g_r0 ?_ | refine g_ok rfl rfl ?_ | refine g_no rfl ?_ | refine g_no0 rfl ?_ | refine g_bk ?_ | refine g_b ?_ | refine g_sk ?_ | refine g_cT rfl ?_ | refine g_cF rfl ?_ | refine g_x rfl ?_ | refine g_lb ?_))
  refine g_ef rfl (ef_bl (rs := []) hS rfl fun bO w1 hS => ?_)
  replace hS : St w (fun _ => False) w1 [cel bO [] 41] := hS
  replace hS : St w (fun _ => False) w1 [row (.slice (some ⟨bO, 0, none⟩) 0 0) 41 33 0 []] := hS.close_row (n := 0) (cap := 0) (sz := 33) (xs := []) 0 rfl (Nat.le_refl _) rfl (List.prefix_refl _) rfl
  (repeat (first | refine g_sq ?_ | refine g_rg ?_ | refine g_r0 ?_ | refine g_ok rfl rfl ?_ | refine g_no rfl ?_ | refine g_no0 rfl ?_ | refine g_bk ?_ | refine g_b ?_ | refine g_sk ?_ | refine g_cT rfl ?_ | refine g_cF rfl ?_ | refine g_x rfl ?_ | refine g_lb ?_))
  refine g_ef rfl (ef_ap (bytes := 48) (n := 0) (m := n) (ys := fl lc d) hS 0 rfl rfl rfl (.inl ⟨_, hrr _ hS⟩) (fl_one lc_one _) (by omega) (by omega) fun vo w1 hS => ?_)
  rw [Nat.zero_add, List.nil_append] at hS
  replace hS : St w (fun _ => False) w1 [row vo 41 33 n (fl lc d)] := hS
  obtain ⟨ao, co, rfl⟩ := hS.rlen 0 rfl
  (repeat (first | refine g_sq ?_ | refine g_rg ?_ | refine g_r0 ?_ | refine g_ok rfl rfl ?_ | refine g_no rfl ?_ | refine g_no0 rfl ?_ | refine g_bk ?_ | refine g_b ?_ | refine g_sk ?_ | refine g_cT rfl ?_ | refine g_cF rfl ?_ | refine g_x rfl ?_ | refine g_lb ?_))
  refine g_cl rfl rfl (b_Find hd hn hlen (hg.in hS) (Ow.rd (hS.ok 0 _ rfl)) fun w1 h' => ?_)
  replace hS := hS.call0.2 _ _ h'
  rw [List.append_nil] at hS
  clear h'
  generalize hF : (fnd d s).getD ⟨zid, zid_len⟩ = F
  generalize hFs : (fnd d s).isSome = Fs
  have l1 : (bys F.1).length = 32 := ic_len F
  (repeat (first | refine g_sq ?_ | refine g_rg ?_ | refine g_r0 ?_ | refine g_ok rfl rfl ?_ | refine g_no rfl ?_ | refine g_no0 rfl ?_ | refine g_bk ?_ | refine g_b ?_ | refine g_sk ?_ | refine g_cT rfl ?_ | refine g_cF rfl ?_ | refine g_x rfl ?_ | refine g_lb ?_))
  refine g_ef rfl (ef_al hS fun b11 w1 hS => ?_)
  replace hS : St w (fun _ => False) w1 [row (.slice ao n co) 41 33 n (fl lc d), cel b11 (bys zid) 35] := hS
  (repeat (first | refine g_sq ?_ | refine g_rg ?_ | refine g_r0 ?_ | refine g_ok rfl rfl ?_ | refine g_no rfl ?_ | refine g_no0 rfl ?_ | refine g_bk ?_ | refine g_b ?_ | refine g_sk ?_ | refine g_cT rfl ?_ | refine g_cF rfl ?_ | refine g_x rfl ?_ | refine g_lb ?_))
  refine g_ef0 rfl (ef_st (u := .agg ⟨bys F.1⟩) hS 1 rfl rfl rfl l1 (Nat.le_of_eq l0.symm) (bys_one _) fun w1 hS => ?_)
  replace hS := hS.ceq (l' := bys F.1) 1 rfl (spl_full _ _ (l1.trans l0.symm))
  replace hS : St w (fun _ => False) w1 [row (.slice ao n co) 41 33 n (fl lc d), cel b11 (bys F.1) 35] := hS
  (repeat (first | refine g_sq ?_ | refine g_rg ?_ | refine g_r0 ?_ | refine g_ok rfl rfl ?_ | refine g_no rfl ?_ | refine g_no0 rfl ?_ | refine g_bk ?_ | refine g_b ?_ | refine g_sk ?_ | refine g_cT rfl ?_ | refine g_cF rfl ?_ | refine g_x rfl ?_ | refine g_lb ?_))
  refine g_cl rfl rfl (r_Find20 hd hn hlen (hrr _ hS) fun w1 h' => ?_)
  replace hS := hS.call0.2 _ _ h'
  rw [List.append_nil] at hS
  clear h'
  rw [hF, hFs]
  (repeat (first | refine g_sq ?_ | refine g_rg ?_ | refine g_r0 ?_ | refine g_ok rfl rfl ?_ | refine g_no rfl ?_ | refine g_no0 rfl ?_ | refine g_bk ?_ | refine g_b ?_ | refine g_sk ?_ | refine g_cT rfl ?_ | refine g_cF rfl ?_ | refine g_x rfl ?_ | refine g_lb ?_))
  refine g_ef rfl (ef_al hS fun b13 w1 hS => ?_)
  replace hS : St w (fun _ => False) w1 [row (.slice ao n co) 41 33 n (fl lc d), cel b11 (bys F.1) 35, cel b13 (bys zid) 35] := hS
  (repeat (first | refine g_sq ?_ | refine g_rg ?_ | refine g_r0 ?_ | refine g_ok rfl rfl ?_ | refine g_no rfl ?_ | refine g_no0 rfl ?_ | refine g_bk ?_ | refine g_b ?_ | refine g_sk ?_ | refine g_cT rfl ?_ | refine g_cF rfl ?_ | refine g_x rfl ?_ | refine g_lb ?_))
  refine g_ef0 rfl (ef_st (u := .agg ⟨bys F.1⟩) hS 2 rfl rfl rfl l1 (Nat.le_of_eq l0.symm) (bys_one _) fun w1 hS => ?_)
  replace hS := hS.ceq (l' := bys F.1) 2 rfl (spl_full _ _ (l1.trans l0.symm))
  replace hS : St w (fun _ => False) w1 [row (.slice ao n co) 41 33 n (fl lc d), cel b11 (bys F.1) 35, cel b13 (bys F.1) 35] := hS
  (repeat (first | refine g_sq ?_ | refine g_rg ?_ | refine g_r0 ?_ | refine g_ok rfl rfl ?_ | refine g_no rfl ?_ | refine g_no0 rfl ?_ | refine g_bk ?_ | refine g_b ?_ | refine g_sk ?_ | refine g_cT rfl ?_ | refine g_cF rfl ?_ | refine g_x rfl ?_ | refine g_lb ?_))
  refine g_cl rfl rfl (b_ParseL (s := t) (by omega) (hg.in hS) fun v15 w1 h' => ?_)
  replace hS := hS.call0.2 _ _ h'
  clear h'
  (repeat (first | refine g_sq ?_ | refine g_rg ?_ | refine g_r0 ?_ | refine g_ok rfl rfl ?_ | refine g_no rfl ?_ | refine g_no0 rfl ?_ | refine g_bk ?_ | refine g_b ?_ | refine g_sk ?_ | refine g_cT rfl ?_ | refine g_cF rfl ?_ | refine g_x rfl ?_ | refine g_lb ?_))
  refine g_cl rfl rfl (r_Parse20 (s := t) (by omega) fun v17 w1 h' => ?_)
  replace hS := hS.call0.2 _ _ h'
  clear h'
  replace hS : St w (fun _ => False) w1 [row (.slice ao n co) 41 33 n (fl lc d), cel b11 (bys F.1) 35, cel b13 (bys F.1) 35, row v15 41 33 (psL t).length (fl lc (psL t)), row v17 41 33 (psL t).length (fl lc (psL t))] := hS
  have hpb : (psL t).length < 2000000 := by
    unfold psL
    cases hq : prs t with
    | none => decide
    | some o =>
      have := (prs_bd hq).1
      show o.length < _
      omega
  generalize psL t = P at hS hpb
  generalize psE t = PE
  (repeat (first | refine g_sq ?_ | refine g_rg ?_ | refine g_r0 ?_ | refine g_ok rfl rfl ?_ | refine g_no rfl ?_ | refine g_no0 rfl ?_ | refine g_bk ?_ | refine g_b ?_ | refine g_sk ?_ | refine g_cT rfl ?_ | refine g_cF rfl ?_ | refine g_x rfl ?_ | refine g_lb ?_))
  refine g_cl rfl rfl (b_Join hm hmb hft hfl (hg.in hS) (huu _ hS) (fun p hp' => (hp p hp').in hS) fun v19 w1 h' => ?_)
  replace hS := hS.call0.2 _ _ h'
  clear h'
  (repeat (first | refine g_sq ?_ | refine g_rg ?_ | refine g_r0 ?_ | refine g_ok rfl rfl ?_ | refine g_no rfl ?_ | refine g_no0 rfl ?_ | refine g_bk ?_ | refine g_b ?_ | refine g_sk ?_ | refine g_cT rfl ?_ | refine g_cF rfl ?_ | refine g_x rfl ?_ | refine g_lb ?_))
  refine g_cl rfl rfl (r_Join20 hm hmb hft hfl (huu _ hS) (fun p hp' => (hp p hp').in hS) fun v21 w1 h' => ?_)
  replace hS := hS.call0.2 _ _ h'
  clear h'
  have hjb : (jnL (ps.map (·.2))).length < 2000000 := by
    unfold jnL
    cases hj : joinS (ps.map (·.2)) with
    | none => decide
    | some o =>
      unfold joinS at hj
      split at hj
      · cases hj
        show (srtN (flat ps)).length < _
        rw [srtN_len]
        exact hft
      · cases hj
  generalize jnL (ps.map (·.2)) = J at hS hjb
  generalize jnE (ps.map (·.2)) = JE
  replace hS : St w (fun _ => False) w1 [row (.slice ao n co) 41 33 n (fl lc d), cel b11 (bys F.1) 35, cel b13 (bys F.1) 35, row v15 41 33 P.length (fl lc P), row v17 41 33 P.length (fl lc P), row v19 41 33 J.length (fl lc J), row v21 41 33 J.length (fl lc J)] := hS
  (repeat (first | refine g_sq ?_ | refine g_rg ?_ | refine g_r0 ?_ | refine g_ok rfl rfl ?_ | refine g_no rfl ?_ | refine g_no0 rfl ?_ | refine g_bk ?_ | refine g_b ?_ | refine g_sk ?_ | refine g_cT rfl ?_ | refine g_cF rfl ?_ | refine g_x rfl ?_ | refine g_lb ?_))
  refine g_cl rfl rfl (b_CheckL hd hn hlen (hg.in hS) (Ow.rd (hS.ok 0 _ rfl)) fun w1 h' => ?_)
  replace hS := hS.call0.2 _ _ h'
  rw [List.append_nil] at hS
  clear h'
  (repeat (first | refine g_sq ?_ | refine g_rg ?_ | refine g_r0 ?_ | refine g_ok rfl rfl ?_ | refine g_no rfl ?_ | refine g_no0 rfl ?_ | refine g_bk ?_ | refine g_b ?_ | refine g_sk ?_ | refine g_cT rfl ?_ | refine g_cF rfl ?_ | refine g_x rfl ?_ | refine g_lb ?_))
  refine g_cl rfl rfl (r_Check20 hd hn hlen (hrr _ hS) fun w1 h' => ?_)
  replace hS := hS.call0.2 _ _ h'
  rw [List.append_nil] at hS
  clear h'
  (repeat (first | refine g_sq ?_ | refine g_rg ?_ | refine g_r0 ?_ | refine g_ok rfl rfl ?_ | refine g_no rfl ?_ | refine g_no0 rfl ?_ | refine g_bk ?_ | refine g_b ?_ | refine g_sk ?_ | refine g_cT rfl ?_ | refine g_cF rfl ?_ | refine g_x rfl ?_ | refine g_lb ?_))
  rw [cmv_neq]
  (repeat (first | refine g_sq ?_ | refine g_rg ?_ | refine g_r0 ?_ | refine g_ok rfl rfl ?_ | refine g_no rfl ?_ | refine g_no0 rfl ?_ | refine g_bk ?_ | refine g_b ?_ | refine g_sk ?_ | refine g_cT rfl ?_ | refine g_cF rfl ?_ | refine g_x rfl ?_ | refine g_lb ?_))
  refine g_lm rfl rfl (hS.b 1 rfl) (Nat.le_of_eq l1.symm) ?_
  rw [List.drop_zero, List.take_of_length_le (Nat.le_of_eq l1)]
  (repeat (first | refine g_sq ?_ | refine g_rg ?_ | refine g_r0 ?_ | refine g_ok rfl rfl ?_ | refine g_no rfl ?_ | refine g_no0 rfl ?_ | refine g_bk ?_ | refine g_b ?_ | refine g_sk ?_ | refine g_cT rfl ?_ | refine g_cF rfl ?_ | refine g_x rfl ?_ | refine g_lb ?_))
  refine g_lm rfl rfl (hS.b 2 rfl) (Nat.le_of_eq l1.symm) ?_
  rw [List.drop_zero, List.take_of_length_le (Nat.le_of_eq l1)]
  (repeat (first | refine g_sq ?_ | refine g_rg ?_ | refine g_r0 ?_ | refine g_ok rfl rfl ?_ | refine g_no rfl ?_ | refine g_no0 rfl ?_ | refine g_bk ?_ | refine g_b ?_ | refine g_sk ?_ | refine g_cT rfl ?_ | refine g_cF rfl ?_ | refine g_x rfl ?_ | refine g_lb ?_))
  refine g_aq F.1 F.1 rfl rfl rfl F.2 F.2 ?_
  rw [show aqv .neq F.1 F.1 = false by simp [aqv]]
  (repeat (first | refine g_sq ?_ | refine g_rg ?_ | refine g_r0 ?_ | refine g_ok rfl rfl ?_ | refine g_no rfl ?_ | refine g_no0 rfl ?_ | refine g_bk ?_ | refine g_b ?_ | refine g_sk ?_ | refine g_cT rfl ?_ | refine g_cF rfl ?_ | refine g_x rfl ?_ | refine g_lb ?_))
  rw [show (!(Fs == Fs)) = false by simp]
  (repeat (first | refine g_sq ?_ | refine g_rg ?_ | refine g_r0 ?_ | refine g_ok rfl rfl ?_ | refine g_no rfl ?_ | refine g_no0 rfl ?_ | refine g_bk ?_ | refine g_b ?_ | refine g_sk ?_ | refine g_cT rfl ?_ | refine g_cF rfl ?_ | refine g_x rfl ?_ | refine g_lb ?_))
  refine g_cl rfl rfl (r_Same (d := P) (e := P) rfl rfl hpb hpb (Ow.rd (hS.ok 3 _ rfl)) (Ow.rd (hS.ok 4 _ rfl)) fun w1 h' => ?_)
  replace hS := hS.call0.2 _ _ h'
  rw [List.append_nil] at hS
  clear h'
  rw [decide_eq_true rfl]
  (repeat (first | refine g_sq ?_ | refine g_rg ?_ | refine g_r0 ?_ | refine g_ok rfl rfl ?_ | refine g_no rfl ?_ | refine g_no0 rfl ?_ | refine g_bk ?_ | refine g_b ?_ | refine g_sk ?_ | refine g_cT rfl ?_ | refine g_cF rfl ?_ | refine g_x rfl ?_ | refine g_lb ?_))
  rw [cmv_neq]
  (repeat (first | refine g_sq ?_ | refine g_rg ?_ | refine g_r0 ?_ | refine g_ok rfl rfl ?_ | refine g_no rfl ?_ | refine g_no0 rfl ?_ | refine g_bk ?_ | refine g_b ?_ | refine g_sk ?_ | refine g_cT rfl ?_ | refine g_cF rfl ?_ | refine g_x rfl ?_ | refine g_lb ?_))
  refine g_cl rfl rfl (r_Same (d := J) (e := J) rfl rfl hjb hjb (Ow.rd (hS.ok 5 _ rfl)) (Ow.rd (hS.ok 6 _ rfl)) fun w1 h' => ?_)
  replace hS := hS.call0.2 _ _ h'
  rw [List.append_nil] at hS
  clear h'
  rw [decide_eq_true rfl]
  (repeat (first | refine g_sq ?_ | refine g_rg ?_ | refine g_r0 ?_ | refine g_ok rfl rfl ?_ | refine g_no rfl ?_ | refine g_no0 rfl ?_ | refine g_bk ?_ | refine g_b ?_ | refine g_sk ?_ | refine g_cT rfl ?_ | refine g_cF rfl ?_ | refine g_x rfl ?_ | refine g_lb ?_))
  rw [cmv_neq]
  (repeat (first | refine g_sq ?_ | refine g_rg ?_ | refine g_r0 ?_ | refine g_ok rfl rfl ?_ | refine g_no rfl ?_ | refine g_no0 rfl ?_ | refine g_bk ?_ | refine g_b ?_ | refine g_sk ?_ | refine g_cT rfl ?_ | refine g_cF rfl ?_ | refine g_x rfl ?_ | refine g_lb ?_))
  refine g_atx (ι := Unit) 1 (fun _ => [(0, .slice a n c), (1, sv s), (10, .slice ao n co), (23, .bool true)]) (fun _ w' => St w (fun _ => False) w' [row (.slice ao n co) 41 33 n (fl lc d)]) rfl ?_ ?_
  · refine g_dr mixed ?_
    replace hS := (hS.sel [0] rfl rfl).drew
    (repeat (first | refine d_ok rfl rfl rfl ?_ | refine d_no rfl rfl ?_))
    (generalize q5 : cmv _ _ _ = q; cases q <;> simp only [cmv, arv, Bool.not_eq_true', Bool.not_eq_false', decide_eq_true_eq, decide_eq_false_iff_not] at q5 <;> first | (exfalso; omega) | skip)
    · have h0 : 0 < ps.length := by omega
      obtain ⟨b, off, cap, l, e1, hcap, hl, hx, hb⟩ := Rd.block (huu _ hS) (by omega)
      cases e1
      have hps : (ps.map (·.1))[0]'(by omega) = ps[0].1 := List.getElem_map _
      have hv0 : ∀ {L : List Res} {w' : World}, St w (fun _ => False) w' L → ∃ l, Blr w' b l E1 ∧ l[off + 0 * 1]? = some ps[0].1 := fun {L} {w'} hS => by
        obtain ⟨b2, off2, cap2, l2, e2, hcap2, hl2, hx2, hb2⟩ := Rd.block (huu _ hS) (by omega)
        cases e2
        refine ⟨l2, hb2, ?_⟩
        rw [rd_x' hx2 hpm1 (by omega), hps]
      obtain ⟨l2, hb2, hv2⟩ := hv0 hS
      have hk60 := (hG _ (List.getElem_mem h0)).1
      (repeat (first | refine d_ok rfl rfl rfl ?_ | refine d_no rfl rfl ?_))
      refine d_rq rfl rfl rfl ⟨by omega, by omega⟩ ?_
      refine d_l1r rfl rfl rfl hb2 hv2 ?_
      (repeat (first | refine d_ok rfl rfl rfl ?_ | refine d_no rfl rfl ?_))
      refine d_rq rfl rfl rfl ⟨by omega, by omega⟩ ?_
      refine d_l1r rfl rfl rfl hb2 hv2 ?_
      obtain ⟨E, hpk⟩ := (hp _ (List.getElem_mem h0)).in hS
      refine d_cl rfl rfl rfl (b_SameL (d := d) (e := ps[0].2) hd rfl hn (by omega) (Ow.rd (hS.ok 0 _ rfl)) hpk fun w1 h' => ?_)
      replace hS := hS.call0.2 _ _ h'
      rw [List.append_nil] at hS
      clear h'
      obtain ⟨l3, hb3, hv3⟩ := hv0 hS
      refine ⟨rc_1r rfl rfl rfl rfl hb3 hv3 rc_0, ?_⟩
      obtain ⟨E, hpk⟩ := (hp _ (List.getElem_mem h0)).in hS
      refine d_cl rfl rfl rfl (r_Same (d := d) (e := ps[0].2) hd rfl hn (by omega) (hrr _ hS) hpk fun w1 h' => ?_)
      replace hS := hS.call0.2 _ _ h'
      rw [List.append_nil] at hS
      clear h'
      refine ⟨rc_0, ?_⟩
      generalize decide (d = ps[0].2) = q
      (repeat (first | refine d_ok rfl rfl rfl ?_ | refine d_no rfl rfl ?_))
      rw [show (q == q) = true by simp]
      (repeat (first | refine d_ok rfl rfl rfl ?_ | refine d_no rfl rfl ?_))
      refine d_fin ?_
      exact g_jx () ⟨rfl, rfl, rfl, rfl, trivial⟩ hS
    · (repeat (first | refine d_ok rfl rfl rfl ?_ | refine d_no rfl rfl ?_))
      refine d_en rfl rfl (rc_no rfl rfl rfl rc_0) ?_
      refine d_en rfl rfl rc_0 ?_
      (repeat (first | refine d_ok rfl rfl rfl ?_ | refine d_no rfl rfl ?_))
      refine d_fin ?_
      exact g_jx () ⟨rfl, rfl, rfl, rfl, trivial⟩ hS
  · clear hS
    rintro _ T w1 hT hS
    refine g_wkc hT ?_
    (repeat (first | refine g_sq ?_ | refine g_rg ?_ | refine g_r0 ?_ | refine g_ok rfl rfl ?_ | refine g_no rfl ?_ | refine g_no0 rfl ?_ | refine g_bk ?_ | refine g_b ?_ | refine g_sk ?_ | refine g_cT rfl ?_ | refine g_cF rfl ?_ | refine g_x rfl ?_ | refine g_lb ?_))
    refine g_cl rfl rfl (b_Tips hd hn hlen (hg.in hS) (Ow.rd (hS.ok 0 _ rfl)) fun vt w1 h' => ?_)
    replace hS := hS.call0.2 _ _ h'
    clear h'
    (repeat (first | refine g_sq ?_ | refine g_rg ?_ | refine g_r0 ?_ | refine g_ok rfl rfl ?_ | refine g_no rfl ?_ | refine g_no0 rfl ?_ | refine g_bk ?_ | refine g_b ?_ | refine g_sk ?_ | refine g_cT rfl ?_ | refine g_cF rfl ?_ | refine g_x rfl ?_ | refine g_lb ?_))
    refine g_cl rfl rfl (r_Tips20 hd hn hlen (hrr _ hS) fun vu w1 h' => ?_)
    replace hS := hS.call0.2 _ _ h'
    clear h'
    have htb : (tipsOf d s).length < 2000000 := by
      unfold tipsOf
      split
      · have h1 := kset_len (fun x : Id => x.1) (tipsF d s)
        have h2 : (tipsF d s).length ≤ d.length := by
          unfold tipsF
          rw [List.length_map]
          exact List.length_filter_le _ _
        unfold iset
        omega
      · decide
    generalize tipsOf d s = TS at hS htb
    replace hS : St w (fun _ => False) w1 [row (.slice ao n co) 41 33 n (fl lc d), row vt 35 32 TS.length (fl ic TS), row vu 35 32 TS.length (fl ic TS)] := hS
    refine g_cl rfl rfl (r_SameI (d := TS) (e := TS) rfl rfl htb htb (Ow.rd (hS.ok 1 _ rfl)) (Ow.rd (hS.ok 2 _ rfl)) fun w1 h' => ?_)
    replace hS := hS.call0.2 _ _ h'
    rw [List.append_nil] at hS
    clear h'
    rw [decide_eq_true rfl]
    replace hS := hS.sel [0] rfl rfl
    (repeat (first | refine g_sq ?_ | refine g_rg ?_ | refine g_r0 ?_ | refine g_ok rfl rfl ?_ | refine g_no rfl ?_ | refine g_no0 rfl ?_ | refine g_bk ?_ | refine g_b ?_ | refine g_sk ?_ | refine g_cT rfl ?_ | refine g_cF rfl ?_ | refine g_x rfl ?_ | refine g_lb ?_))
    refine g_cl rfl rfl (b_Refs hd hn hlen (hg.in hS) (Ow.rd (hS.ok 0 _ rfl)) fun vt w1 h' => ?_)
    replace hS := hS.call0.2 _ _ h'
    clear h'
    (repeat (first | refine g_sq ?_ | refine g_rg ?_ | refine g_r0 ?_ | refine g_ok rfl rfl ?_ | refine g_no rfl ?_ | refine g_no0 rfl ?_ | refine g_bk ?_ | refine g_b ?_ | refine g_sk ?_ | refine g_cT rfl ?_ | refine g_cF rfl ?_ | refine g_x rfl ?_ | refine g_lb ?_))
    refine g_cl rfl rfl (r_Refs20 hd hn hlen (hrr _ hS) fun vu w1 h' => ?_)
    replace hS := hS.call0.2 _ _ h'
    clear h'
    have hrb : (refsOf d).length < 2000000 := by
      unfold refsOf
      split
      · have h1 := kset_len (fun s : Bs => s) (d.map fun x => (ent x).1)
        rw [List.length_map] at h1
        unfold sset
        omega
      · decide
    generalize refsOf d = RS at hS hrb
    replace hS : St w (fun _ => False) w1 [row (.slice ao n co) 41 33 n (fl lc d), row vt 9 1 RS.length (RS.map sv), row vu 9 1 RS.length (RS.map sv)] := hS
    refine g_cl rfl rfl (r_Texts20 (d := RS) (e := RS) rfl rfl hrb hrb (Ow.rd (hS.ok 1 _ rfl)) (Ow.rd (hS.ok 2 _ rfl)) fun w1 h' => ?_)
    replace hS := hS.call0.2 _ _ h'
    rw [List.append_nil] at hS
    clear h'
    rw [decide_eq_true rfl]
    replace hS := hS.sel [0] rfl rfl
    (repeat (first | refine g_sq ?_ | refine g_rg ?_ | refine g_r0 ?_ | refine g_ok rfl rfl ?_ | refine g_no rfl ?_ | refine g_no0 rfl ?_ | refine g_bk ?_ | refine g_b ?_ | refine g_sk ?_ | refine g_cT rfl ?_ | refine g_cF rfl ?_ | refine g_x rfl ?_ | refine g_lb ?_))
    refine g_cl rfl rfl (b_TextL hd hn hlen htot (hg.in hS) (Ow.rd (hS.ok 0 _ rfl)) fun w1 h' => ?_)
    replace hS := hS.call0.2 _ _ h'
    rw [List.append_nil] at hS
    clear h'
    (repeat (first | refine g_sq ?_ | refine g_rg ?_ | refine g_r0 ?_ | refine g_ok rfl rfl ?_ | refine g_no rfl ?_ | refine g_no0 rfl ?_ | refine g_bk ?_ | refine g_b ?_ | refine g_sk ?_ | refine g_cT rfl ?_ | refine g_cF rfl ?_ | refine g_x rfl ?_ | refine g_lb ?_))
    refine g_cl rfl rfl (r_Text20 hd hn hlen htot (hrr _ hS) fun w1 h' => ?_)
    replace hS := hS.call0.2 _ _ h'
    rw [List.append_nil] at hS
    clear h'
    (repeat (first | refine g_sq ?_ | refine g_rg ?_ | refine g_r0 ?_ | refine g_ok rfl rfl ?_ | refine g_no rfl ?_ | refine g_no0 rfl ?_ | refine g_bk ?_ | refine g_b ?_ | refine g_sk ?_ | refine g_cT rfl ?_ | refine g_cF rfl ?_ | refine g_x rfl ?_ | refine g_lb ?_))
    rw [dec_sv, decide_eq_true rfl]
    (repeat (first | refine g_sq ?_ | refine g_rg ?_ | refine g_r0 ?_ | refine g_ok rfl rfl ?_ | refine g_no rfl ?_ | refine g_no0 rfl ?_ | refine g_bk ?_ | refine g_b ?_ | refine g_sk ?_ | refine g_cT rfl ?_ | refine g_cF rfl ?_ | refine g_x rfl ?_ | refine g_lb ?_))
    refine g_cl rfl rfl (r_Same (d := d) (e := d) hd hd hn hn (Ow.rd (hS.ok 0 _ rfl)) (hrr _ hS) fun w1 h' => ?_)
    replace hS := hS.call0.2 _ _ h'
    rw [List.append_nil] at hS
    rw [decide_eq_true rfl]
    (repeat (first | refine g_sq ?_ | refine g_rg ?_ | refine g_r0 ?_ | refine g_ok rfl rfl ?_ | refine g_no rfl ?_ | refine g_no0 rfl ?_ | refine g_bk ?_ | refine g_b ?_ | refine g_sk ?_ | refine g_cT rfl ?_ | refine g_cF rfl ?_ | refine g_x rfl ?_ | refine g_lb ?_))
    exact g_ret (q_1 rfl (h _ (hS.sel [] rfl rfl)))
end
end Go.Proofs.YtibofabkpgigoaaGreatDoor
