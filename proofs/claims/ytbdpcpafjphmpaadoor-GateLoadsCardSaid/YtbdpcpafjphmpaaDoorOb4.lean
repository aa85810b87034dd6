/- GateLoads: the walk. -/
import Derived.Test.YtbdpcpafjphmpaaDoorOb3
set_option linter.unusedSimpArgs false
set_option linter.unusedVariables false
namespace Go.Proofs.YtbdpcpafjphmpaaDoor
open Go.En
abbrev LX := Option (Nat × Option Nat × Nat × Value)
abbrev lG (x : LX) : Value := .pointer (x.map fun y => ⟨y.1, 0, none⟩)
abbrev lH (x : LX) : Value := .pointer (x.map fun y => ⟨y.2.2.1, 0, none⟩)
abbrev lE (x : LX) : Int := match x with | none => 220 | some _ => 0
abbrev lB (d : List Rec) (x : LX) : List Res := match x with
  | none => []
  | some y => [cel y.1 [.map y.2.1] 47, gm y.2.1 d, cel y.2.2.1 [y.2.2.2] 42, row y.2.2.2 31 52 d.length (fl rc d)]
abbrev lP (d : List Rec) (x : LX) : Prop := match x with | none => True | some _ => ldB d
section
variable {w w0 : World} {S0 : Nat → Prop} {L B : List Res} {K : Value → World → Prop} {s : Bs} {E0 E1 : Nat}
set_option maxHeartbeats 4000000 in
theorem b_Loads {v : Value} {n : Nat} {d : List Rec} (hg : Gl w) (hd : d.length = n) (hn : n ≤ 9223372036854775807) (hr : Rd v E0 52 n (fl rc d) w) (h : ∀ w', St w (fun _ => False) w' [] → K (.bool true) w') : CK Tryd.prog 3 [v] w K := by
  have hS := St.nil w (fun _ => False)
  have hrr : ∀ {L : List Res} (w' : World), St w (fun _ => False) w' L → Rd v E0 52 n (fl rc d) w' := fun w' hS => hr.same fun b hb => hS.fr.kept b (hr.lt b hb) (fun h => h)
  obtain ⟨a, c, rfl⟩ := hr.form
  refine call_k Tryd.func3 k3 Tryd.ntmps3 (Nat.le_of_ble_eq_true rfl) ?_
  (repeat (first | refine g_sq ?_ | refine g_rg ?_ | refine g_r0 ?_ | refine g_ok rfl rfl ?_ | refine g_no rfl ?_ | refine g_no0 rfl ?_ | refine g_bk ?_ | refine g_b ?_ | refine g_sk ?_ | refine g_cT rfl ?_ | refine g_cF rfl ?_ | refine g_x rfl ?_ | refine g_lb ?_))
  (refine g_cd rfl (fun hc => ?_) (fun hc => ?_) <;> simp only [cmv, arv, Bool.not_eq_true', Bool.not_eq_false', decide_eq_true_eq, decide_eq_false_iff_not] at hc)
  · (repeat (first | refine g_sq ?_ | refine g_rg ?_ | refine g_r0 ?_ | refine g_ok rfl rfl ?_ | refine g_no rfl ?_ | refine g_no0 rfl ?_ | refine g_bk ?_ | refine g_b ?_ | refine g_sk ?_ | refine g_cT rfl ?_ | refine g_cF rfl ?_ | refine g_x rfl ?_ | refine g_lb ?_))
    exact g_ret (q_1 rfl (h _ hS))
  have hn40 : n ≤ 40 := by omega
  (repeat (first | refine g_sq ?_ | refine g_rg ?_ | refine g_r0 ?_ | refine g_ok rfl rfl ?_ | refine g_no rfl ?_ | refine g_no0 rfl ?_ | refine g_bk ?_ | refine g_b ?_ | refine g_sk ?_ | refine g_cT rfl ?_ | refine g_cF rfl ?_ | refine g_x rfl ?_ | refine g_lb ?_))
  refine g_atx (ι := Unit) 2 (fun _ => [(0, .slice a n c)]) (fun _ w' => St w (fun _ => False) w' []) rfl ?_ ?_
  · refine g_lp (ι := Nat) (fun k => [(0, .slice a n c), (14, .int .i64 n), (15, .int .i64 k)]) (fun k w' => k ≤ n ∧ St w (fun _ => False) w' []) (fun k => n - k) 0 ⟨rfl, rfl, rfl, trivial⟩ ⟨Nat.zero_le _, hS⟩ ?_
    clear hS
    rintro k w1 ⟨hk, hS⟩
    (repeat (first | refine g_sq ?_ | refine g_rg ?_ | refine g_r0 ?_ | refine g_ok rfl rfl ?_ | refine g_no rfl ?_ | refine g_no0 rfl ?_ | refine g_bk ?_ | refine g_b ?_ | refine g_sk ?_ | refine g_cT rfl ?_ | refine g_cF rfl ?_ | refine g_x rfl ?_ | refine g_lb ?_))
    (refine g_cd rfl (fun hlt => ?_) (fun hlt => ?_) <;> simp only [cmv, arv, Bool.not_eq_true', Bool.not_eq_false', decide_eq_true_eq, decide_eq_false_iff_not] at hlt)
    · have hlt : k < d.length := by omega
      obtain ⟨b, off, cap, l, e1, hcap, hl, hx, hb⟩ := Rd.block (hrr _ hS) (by omega)
      cases e1
      have hrd := rd_at rc_len hx hd hlt
      have h18 : l[off + k * 52 + 18]? = some (sv d[k].ref) := by
        have h1 := congrArg (fun l : List Value => l[18]?) hrd
        simp only [List.getElem?_take, List.getElem?_drop] at h1
        rw [if_pos (by decide), rc_18] at h1
        exact h1
      (repeat (first | refine g_sq ?_ | refine g_rg ?_ | refine g_r0 ?_ | refine g_ok rfl rfl ?_ | refine g_no rfl ?_ | refine g_no0 rfl ?_ | refine g_bk ?_ | refine g_b ?_ | refine g_sk ?_ | refine g_cT rfl ?_ | refine g_cF rfl ?_ | refine g_x rfl ?_ | refine g_lb ?_))
      refine g_rq rfl rfl ⟨by omega, by omega⟩ ?_
      (repeat (first | refine g_sq ?_ | refine g_rg ?_ | refine g_r0 ?_ | refine g_ok rfl rfl ?_ | refine g_no rfl ?_ | refine g_no0 rfl ?_ | refine g_bk ?_ | refine g_b ?_ | refine g_sk ?_ | refine g_cT rfl ?_ | refine g_cF rfl ?_ | refine g_x rfl ?_ | refine g_lb ?_))
      refine g_l1r rfl rfl hb (v := sv d[k].ref) (by rw [Int.toNat_natCast]; exact h18) ?_
      (repeat (first | refine g_sq ?_ | refine g_rg ?_ | refine g_r0 ?_ | refine g_ok rfl rfl ?_ | refine g_no rfl ?_ | refine g_no0 rfl ?_ | refine g_bk ?_ | refine g_b ?_ | refine g_sk ?_ | refine g_cT rfl ?_ | refine g_cF rfl ?_ | refine g_x rfl ?_ | refine g_lb ?_))
      refine g_cd rfl (fun hq => ?_) (fun hq => ?_)
      · (repeat (first | refine g_sq ?_ | refine g_rg ?_ | refine g_r0 ?_ | refine g_ok rfl rfl ?_ | refine g_no rfl ?_ | refine g_no0 rfl ?_ | refine g_bk ?_ | refine g_b ?_ | refine g_sk ?_ | refine g_cT rfl ?_ | refine g_cF rfl ?_ | refine g_x rfl ?_ | refine g_lb ?_))
        exact g_ret (q_1 rfl (h _ hS))
      · (repeat (first | refine g_sq ?_ | refine g_rg ?_ | refine g_r0 ?_ | refine g_ok rfl rfl ?_ | refine g_no rfl ?_ | refine g_no0 rfl ?_ | refine g_bk ?_ | refine g_b ?_ | refine g_sk ?_ | refine g_cT rfl ?_ | refine g_cF rfl ?_ | refine g_x rfl ?_ | refine g_lb ?_))
        refine g_rq rfl rfl (in64 (by simp only [arv]; omega)) ?_
        (repeat (first | refine g_sq ?_ | refine g_rg ?_ | refine g_r0 ?_ | refine g_ok rfl rfl ?_ | refine g_no rfl ?_ | refine g_no0 rfl ?_ | refine g_bk ?_ | refine g_b ?_ | refine g_sk ?_ | refine g_cT rfl ?_ | refine g_cF rfl ?_ | refine g_x rfl ?_ | refine g_lb ?_))
        exact g_l (k + 1) ⟨rfl, rfl, rfl, trivial⟩ ⟨by omega, hS⟩ (by omega)
    · (repeat (first | refine g_sq ?_ | refine g_rg ?_ | refine g_r0 ?_ | refine g_ok rfl rfl ?_ | refine g_no rfl ?_ | refine g_no0 rfl ?_ | refine g_bk ?_ | refine g_b ?_ | refine g_sk ?_ | refine g_cT rfl ?_ | refine g_cF rfl ?_ | refine g_x rfl ?_ | refine g_lb ?_))
      exact g_jx () ⟨rfl, trivial⟩ hS
  clear hS
  rintro _ T w1 hT hS
  refine g_wkc hT ?_
  (repeat (first | refine g_sq ?_ | refine g_rg ?_ | refine g_r0 ?_ | refine g_ok rfl rfl ?_ | refine g_no rfl ?_ | refine g_no0 rfl ?_ | refine g_bk ?_ | refine g_b ?_ | refine g_sk ?_ | refine g_cT rfl ?_ | refine g_cF rfl ?_ | refine g_x rfl ?_ | refine g_lb ?_))
  refine g_ef rfl (ef_bl (rs := []) hS rfl fun bO w1 hS => ?_)
  replace hS : St w (fun _ => False) w1 [cel bO [] 31] := hS
  replace hS : St w (fun _ => False) w1 [row (.slice (some ⟨bO, 0, none⟩) 0 0) 31 52 0 []] := hS.close_row (n := 0) (cap := 0) (sz := 52) (xs := []) 0 rfl (Nat.le_refl _) rfl (List.prefix_refl _) rfl
  (repeat (first | refine g_sq ?_ | refine g_rg ?_ | refine g_r0 ?_ | refine g_ok rfl rfl ?_ | refine g_no rfl ?_ | refine g_no0 rfl ?_ | refine g_bk ?_ | refine g_b ?_ | refine g_sk ?_ | refine g_cT rfl ?_ | refine g_cF rfl ?_ | refine g_x rfl ?_ | refine g_lb ?_))
  refine g_ef rfl (ef_ap (n := 0) (m := n) (ys := fl rc d) hS 0 rfl rfl rfl (.inl ⟨_, hrr _ hS⟩) (fl_one rc_one _) (by omega) (by omega) fun vo w1 hS => ?_)
  rw [Nat.zero_add, List.nil_append] at hS
  replace hS : St w (fun _ => False) w1 [row vo 31 52 n (fl rc d)] := hS
  obtain ⟨ao, co, rfl⟩ := hS.rlen 0 rfl
  have h2m : n < 2000000 := by omega
  refine g_ok rfl rfl ?_
  refine g_r0 ?_
  refine g_sq ?_
  refine g_sq2 ?_
  refine g_atx 2 (fun x : LX => [(0, .slice a n c), (4, .slice ao n co), (5, lG x), (6, .int .i64 (lE x)), (7, lH x), (8, .int .i64 (lE x))]) (fun x w' => lP d x ∧ St w (fun _ => False) w' (row (.slice ao n co) 31 52 n (fl rc d) :: lB d x)) rfl ?_ ?_
  · (repeat (first | refine g_sq ?_ | refine g_rg ?_ | refine g_r0 ?_ | refine g_ok rfl rfl ?_ | refine g_no rfl ?_ | refine g_no0 rfl ?_ | refine g_bk ?_ | refine g_b ?_ | refine g_sk ?_ | refine g_cT rfl ?_ | refine g_cF rfl ?_ | refine g_x rfl ?_ | refine g_lb ?_))
    refine g_cl rfl rfl (b_LoadG hd h2m (hg.in hS) (Ow.rd (hS.ok 0 _ rfl)) (fun hl w1 h' => ?_) (fun hl bG mv w1 h' => ?_))
    · replace hS := hS.call0.2 _ _ h'
      rw [List.append_nil] at hS
      clear h'
      (repeat (first | refine g_sq ?_ | refine g_rg ?_ | refine g_r0 ?_ | refine g_ok rfl rfl ?_ | refine g_no rfl ?_ | refine g_no0 rfl ?_ | refine g_bk ?_ | refine g_b ?_ | refine g_sk ?_ | refine g_cT rfl ?_ | refine g_cF rfl ?_ | refine g_x rfl ?_ | refine g_lb ?_))
      refine g_cl rfl rfl (r_Load hd h2m (hrr _ hS) (fun _ w1 h' => ?_) (fun hl2 => absurd hl2 hl))
      replace hS := hS.call0.2 _ _ h'
      rw [List.append_nil] at hS
      clear h'
      (repeat (first | refine g_sq ?_ | refine g_rg ?_ | refine g_r0 ?_ | refine g_ok rfl rfl ?_ | refine g_no rfl ?_ | refine g_no0 rfl ?_ | refine g_bk ?_ | refine g_b ?_ | refine g_sk ?_ | refine g_cT rfl ?_ | refine g_cF rfl ?_ | refine g_x rfl ?_ | refine g_lb ?_))
      exact g_jx none ⟨rfl, rfl, rfl, rfl, rfl, rfl, trivial⟩ ⟨trivial, hS⟩
    · replace hS := hS.call0.2 _ _ h'
      clear h'
      (repeat (first | refine g_sq ?_ | refine g_rg ?_ | refine g_r0 ?_ | refine g_ok rfl rfl ?_ | refine g_no rfl ?_ | refine g_no0 rfl ?_ | refine g_bk ?_ | refine g_b ?_ | refine g_sk ?_ | refine g_cT rfl ?_ | refine g_cF rfl ?_ | refine g_x rfl ?_ | refine g_lb ?_))
      refine g_cl rfl rfl (r_Load hd h2m (hrr _ hS) (fun hl2 => absurd hl hl2) (fun _ bR vR w1 h' => ?_))
      replace hS := hS.call0.2 _ _ h'
      clear h'
      subst hd
      (repeat (first | refine g_sq ?_ | refine g_rg ?_ | refine g_r0 ?_ | refine g_ok rfl rfl ?_ | refine g_no rfl ?_ | refine g_no0 rfl ?_ | refine g_bk ?_ | refine g_b ?_ | refine g_sk ?_ | refine g_cT rfl ?_ | refine g_cF rfl ?_ | refine g_x rfl ?_ | refine g_lb ?_))
      exact g_jx (some (bG, mv, bR, vR)) ⟨rfl, rfl, rfl, rfl, rfl, rfl, trivial⟩ ⟨hl, hS⟩
  clear hS
  rintro x T w1 hT ⟨hx, hS⟩
  refine g_wkc hT ?_
  (repeat (first | refine g_sq ?_ | refine g_rg ?_ | refine g_r0 ?_ | refine g_ok rfl rfl ?_ | refine g_no rfl ?_ | refine g_no0 rfl ?_ | refine g_bk ?_ | refine g_b ?_ | refine g_sk ?_ | refine g_cT rfl ?_ | refine g_cF rfl ?_ | refine g_x rfl ?_ | refine g_lb ?_))
  rw [cmv_neq]
  (repeat (first | refine g_sq ?_ | refine g_rg ?_ | refine g_r0 ?_ | refine g_ok rfl rfl ?_ | refine g_no rfl ?_ | refine g_no0 rfl ?_ | refine g_bk ?_ | refine g_b ?_ | refine g_sk ?_ | refine g_cT rfl ?_ | refine g_cF rfl ?_ | refine g_x rfl ?_ | refine g_lb ?_))
  refine g_sp (t := 49) rfl fun q0 hq0 => ?_
  obtain rfl : q0 = false := by rw [← hq0]; cases x <;> rfl
  (repeat (first | refine g_sq ?_ | refine g_rg ?_ | refine g_r0 ?_ | refine g_ok rfl rfl ?_ | refine g_no rfl ?_ | refine g_no0 rfl ?_ | refine g_bk ?_ | refine g_b ?_ | refine g_sk ?_ | refine g_cT rfl ?_ | refine g_cF rfl ?_ | refine g_x rfl ?_ | refine g_lb ?_))
  refine g_cl rfl rfl (r_SameR hd hd h2m h2m (Ow.rd (hS.ok 0 _ rfl)) (hrr _ hS) fun q hq w1 h' => ?_)
  rw [hq.2 rfl]
  replace hS := hS.call0.2 _ _ h'
  rw [List.append_nil] at hS
  clear h'
  (repeat (first | refine g_sq ?_ | refine g_rg ?_ | refine g_r0 ?_ | refine g_ok rfl rfl ?_ | refine g_no rfl ?_ | refine g_no0 rfl ?_ | refine g_bk ?_ | refine g_b ?_ | refine g_sk ?_ | refine g_cT rfl ?_ | refine g_cF rfl ?_ | refine g_x rfl ?_ | refine g_lb ?_))
  refine g_atx (ι := Unit) 2 (fun _ => [(5, lG x), (7, lH x), (8, .int .i64 (lE x))]) (fun _ w' => ∃ xs, St w (fun _ => False) w' (row (.slice ao n co) 31 52 n xs :: lB d x)) rfl ?_ ?_
  · refine g_lp (ι := Nat × List Value) (fun y => [(4, .slice ao n co), (5, lG x), (7, lH x), (8, .int .i64 (lE x)), (56, .int .i64 n), (57, .int .i64 y.1)]) (fun y w' => y.1 ≤ n ∧ St w (fun _ => False) w' (row (.slice ao n co) 31 52 n y.2 :: lB d x)) (fun y => n - y.1) (0, fl rc d) ⟨rfl, rfl, rfl, rfl, rfl, rfl, trivial⟩ ⟨Nat.zero_le _, hS⟩ ?_
    clear hS
    rintro ⟨k, xs⟩ w1 ⟨hk, hS⟩
    dsimp only at hk hS ⊢
    (repeat (first | refine g_sq ?_ | refine g_rg ?_ | refine g_r0 ?_ | refine g_ok rfl rfl ?_ | refine g_no rfl ?_ | refine g_no0 rfl ?_ | refine g_bk ?_ | refine g_b ?_ | refine g_sk ?_ | refine g_cT rfl ?_ | refine g_cF rfl ?_ | refine g_x rfl ?_ | refine g_lb ?_))
    (refine g_cd rfl (fun hlt => ?_) (fun hlt => ?_) <;> simp only [cmv, arv, Bool.not_eq_true', Bool.not_eq_false', decide_eq_true_eq, decide_eq_false_iff_not] at hlt)
    · obtain ⟨b, cap, rest, e, hcap, hl, hS⟩ := hS.open_row 0 rfl (hS.rowb 0 rfl (by omega))
      cases e
      have hxl : xs.length = n * 52 ∨ True := .inr trivial
      have hbd : (k + 1) * 52 ≤ co * 52 := Nat.mul_le_mul_right 52 (by omega)
      have hbd2 : n * 52 ≤ co * 52 := Nat.mul_le_mul_right 52 hcap
      (repeat (first | refine g_sq ?_ | refine g_rg ?_ | refine g_r0 ?_ | refine g_ok rfl rfl ?_ | refine g_no rfl ?_ | refine g_no0 rfl ?_ | refine g_bk ?_ | refine g_b ?_ | refine g_sk ?_ | refine g_cT rfl ?_ | refine g_cF rfl ?_ | refine g_x rfl ?_ | refine g_lb ?_))
      refine g_rq rfl rfl ⟨by omega, by omega⟩ ?_
      (repeat (first | refine g_sq ?_ | refine g_rg ?_ | refine g_r0 ?_ | refine g_ok rfl rfl ?_ | refine g_no rfl ?_ | refine g_no0 rfl ?_ | refine g_bk ?_ | refine g_b ?_ | refine g_sk ?_ | refine g_cT rfl ?_ | refine g_cF rfl ?_ | refine g_x rfl ?_ | refine g_lb ?_))
      refine g_ef0 rfl (ef_st (u := .string ⟨#[120]⟩) hS 0 rfl rfl rfl rfl (by rw [hl, Int.toNat_natCast]; show 0 + k * 52 + 18 + 1 ≤ _; omega) rfl fun w1 hS => ?_)
      rw [Int.toNat_natCast] at hS
      have hl2 : (spl (xs ++ rest) (0 + k * 52 + 18) [.string ⟨#[120]⟩]).length = co * 52 := by rw [spl_length (by rw [hl]; show 0 + k * 52 + 18 + 1 ≤ _; omega), hl]
      replace hS := hS.close_row (n := n) (cap := co) (sz := 52) (xs := (spl (xs ++ rest) (0 + k * 52 + 18) [.string ⟨#[120]⟩]).take (n * 52)) 0 rfl hcap (by rw [List.length_take, hl2]; omega) (List.take_prefix _ _) hl2
      (repeat (first | refine g_sq ?_ | refine g_rg ?_ | refine g_r0 ?_ | refine g_ok rfl rfl ?_ | refine g_no rfl ?_ | refine g_no0 rfl ?_ | refine g_bk ?_ | refine g_b ?_ | refine g_sk ?_ | refine g_cT rfl ?_ | refine g_cF rfl ?_ | refine g_x rfl ?_ | refine g_lb ?_))
      refine g_rq rfl rfl (in64 (by simp only [arv]; omega)) ?_
      (repeat (first | refine g_sq ?_ | refine g_rg ?_ | refine g_r0 ?_ | refine g_ok rfl rfl ?_ | refine g_no rfl ?_ | refine g_no0 rfl ?_ | refine g_bk ?_ | refine g_b ?_ | refine g_sk ?_ | refine g_cT rfl ?_ | refine g_cF rfl ?_ | refine g_x rfl ?_ | refine g_lb ?_))
      exact g_l (k + 1, _) ⟨rfl, rfl, rfl, rfl, rfl, rfl, trivial⟩ ⟨by simp only; omega, hS⟩ (by simp only; omega)
    · (repeat (first | refine g_sq ?_ | refine g_rg ?_ | refine g_r0 ?_ | refine g_ok rfl rfl ?_ | refine g_no rfl ?_ | refine g_no0 rfl ?_ | refine g_bk ?_ | refine g_b ?_ | refine g_sk ?_ | refine g_cT rfl ?_ | refine g_cF rfl ?_ | refine g_x rfl ?_ | refine g_lb ?_))
      exact g_jx () ⟨rfl, rfl, rfl, trivial⟩ ⟨_, hS⟩
  clear hS
  rintro _ T w1 hT ⟨xs, hS⟩
  refine g_wkc hT ?_
  (repeat (first | refine g_sq ?_ | refine g_rg ?_ | refine g_r0 ?_ | refine g_ok rfl rfl ?_ | refine g_no rfl ?_ | refine g_no0 rfl ?_ | refine g_bk ?_ | refine g_b ?_ | refine g_sk ?_ | refine g_cT rfl ?_ | refine g_cF rfl ?_ | refine g_x rfl ?_ | refine g_lb ?_))
  refine g_dr mixed ?_
  replace hS := hS.drew
  rcases x with _ | ⟨bG, mv, bR, vR⟩
  · (repeat (first | refine d_ok rfl rfl rfl ?_ | refine d_no rfl rfl ?_))
    refine d_en rfl rfl (rc_no rfl rfl rfl rc_0) ?_
    (repeat (first | refine d_ok rfl rfl rfl ?_ | refine d_no rfl rfl ?_))
    refine d_en rfl rfl rc_0 ?_
    (repeat (first | refine d_ok rfl rfl rfl ?_ | refine d_no rfl rfl ?_))
    refine d_en rfl rfl rc_0 ?_
    (repeat (first | refine d_ok rfl rfl rfl ?_ | refine d_no rfl rfl ?_))
    refine d_fin ?_
    (repeat (first | refine g_sq ?_ | refine g_rg ?_ | refine g_r0 ?_ | refine g_ok rfl rfl ?_ | refine g_no rfl ?_ | refine g_no0 rfl ?_ | refine g_bk ?_ | refine g_b ?_ | refine g_sk ?_ | refine g_cT rfl ?_ | refine g_cF rfl ?_ | refine g_x rfl ?_ | refine g_lb ?_))
    exact g_ret (q_1 rfl (h _ (hS.sel [] rfl rfl)))
  · (repeat (first | refine d_ok rfl rfl rfl ?_ | refine d_no rfl rfl ?_))
    refine d_l1 rfl rfl rfl (hS.b 3 rfl) (v := vR) rfl ?_
    replace hS : St w (fun _ => False) w1.drew ([cel bG [.map mv] 47, gm mv d] ++ [row (.slice ao n co) 31 52 n xs, cel bR [vR] 42, row vR 31 52 d.length (fl rc d)]) := hS.sel [1, 2, 0, 3, 4] rfl rfl
    have hF := hS.frame
    refine d_cl rfl rfl rfl (b_All (by omega) hF.1 fun d' v' w2 hp hs h' => ?_)
    replace hS := hF.2 _ _ h'
    have e : d' = d := all_eq hx.2 hp hs
    subst e
    refine ⟨rc_1 rfl rfl rfl rfl (hS.b 4 rfl) rfl rc_0, ?_⟩
    refine d_cl rfl rfl rfl (r_SameR rfl rfl (by omega) (by omega) (Ow.rd (hS.ok 2 _ rfl)) (Ow.rd (hS.ok 5 _ rfl)) fun q hq w3 h' => ?_)
    rw [hq.2 rfl]
    replace hS := hS.call0.2 _ _ h'
    rw [List.append_nil] at hS
    clear h'
    refine ⟨rc_0, ?_⟩
    (repeat (first | refine d_ok rfl rfl rfl ?_ | refine d_no rfl rfl ?_))
    refine d_cl rfl rfl rfl (r_GreatN ⟨rc_0, ?_⟩)
    (repeat (first | refine d_ok rfl rfl rfl ?_ | refine d_no rfl rfl ?_))
    refine d_fin ?_
    (repeat (first | refine g_sq ?_ | refine g_rg ?_ | refine g_r0 ?_ | refine g_ok rfl rfl ?_ | refine g_no rfl ?_ | refine g_no0 rfl ?_ | refine g_bk ?_ | refine g_b ?_ | refine g_sk ?_ | refine g_cT rfl ?_ | refine g_cF rfl ?_ | refine g_x rfl ?_ | refine g_lb ?_))
    exact g_ret (q_1 rfl (h _ (hS.sel [] rfl rfl)))
end
end Go.Proofs.YtbdpcpafjphmpaaDoor
