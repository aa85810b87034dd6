/- A listing's text: listing.Text. -/
import Derived.Test.YtibofabkpgigoaaGreatDoorNe4
import Derived.Test.YtibofabkpgigoaaGreatDoorNe5
import Derived.Test.YtibofabkpgigoaaGreatDoorNb6
set_option linter.unusedSimpArgs false
set_option linter.unusedVariables false
namespace Go.Proofs.YtibofabkpgigoaaGreatDoor
open Go.En

section
variable {w w0 : World} {S0 : Nat → Prop} {L B : List Res} {K : Value → World → Prop} {s : Bs} {E0 E1 : Nat}
theorem flen_le (d : List Li) (k : Nat) : ((d.take k).map ln1).flatten.length ≤ (d.map ln1).flatten.length := by
  have := congrArg List.length (congrArg List.flatten (congrArg (List.map ln1) (List.take_append_drop k d)))
  rw [List.map_append, List.flatten_append, List.length_append] at this
  omega
set_option maxHeartbeats 4000000 in
theorem b_TextL {d : List Li} {v : Value} {n : Nat} (hd : d.length = n) (hn : n < 1000000) (hlen : ∀ x ∈ d, x.1.length < 4294967281) (htot : (d.map ln1).flatten.length < 4294967281) (hg : Gl w) (hr : Rd v E0 33 n (fl lc d) w)
    (h : ∀ w', St w (fun _ => False) w' [] → K (sv (txt d)) w') : CK Tryz.prog 11 [v] w K := by
  have hS := St.nil w (fun _ => False)
  have hrr : ∀ {L : List Res} (w' : World), St w (fun _ => False) w' L → Rd v E0 33 n (fl lc d) w' := fun w' hS => hr.same fun b hb => hS.fr.kept b (hr.lt b hb) (fun h => h)
  obtain ⟨a, c, rfl⟩ := hr.form
  refine call_k Tryz.func11 k11 Tryz.ntmps11 (Nat.le_of_ble_eq_true rfl) ?_
  (repeat (first | refine g_sq ?_ | refine g_rg ?_ | refine g_r0 ?_ | refine g_ok rfl rfl ?_ | refine g_no rfl ?_ | refine g_no0 rfl ?_ | refine g_bk ?_ | refine g_b ?_ | refine g_sk ?_ | refine g_cT rfl ?_ | refine g_cF rfl ?_ | refine g_x rfl ?_ | refine g_lb ?_))
  refine g_cl rfl rfl (b_CheckL hd hn hlen hg hr fun w1 hS => ?_)
  cases hck : chk d
  · have e1 : eE d = 200 := by unfold eE; rw [if_neg (by rw [hck]; decide)]
    have e2 : txt d = [] := by unfold txt; rw [if_neg (by rw [hck]; decide)]
    rw [e1]
    rw [e2] at h
    (repeat (first | refine g_sq ?_ | refine g_rg ?_ | refine g_r0 ?_ | refine g_ok rfl rfl ?_ | refine g_no rfl ?_ | refine g_no0 rfl ?_ | refine g_bk ?_ | refine g_b ?_ | refine g_sk ?_ | refine g_cT rfl ?_ | refine g_cF rfl ?_ | refine g_x rfl ?_ | refine g_lb ?_))
    exact g_ret (q_1 rfl (h _ hS))
  · have e1 : eE d = 0 := by unfold eE; rw [if_pos hck]
    have e2 : txt d = (d.map ln1).flatten := by unfold txt; rw [if_pos hck]
    rw [e1]
    rw [e2] at h
    (repeat (first | refine g_sq ?_ | refine g_rg ?_ | refine g_r0 ?_ | refine g_ok rfl rfl ?_ | refine g_no rfl ?_ | refine g_no0 rfl ?_ | refine g_bk ?_ | refine g_b ?_ | refine g_sk ?_ | refine g_cT rfl ?_ | refine g_cF rfl ?_ | refine g_x rfl ?_ | refine g_lb ?_))
    refine g_ef rfl (ef_al hS fun b3 w1 hS => ?_)
    replace hS := hS.nilrow 5 1
    (repeat (first | refine g_sq ?_ | refine g_rg ?_ | refine g_r0 ?_ | refine g_ok rfl rfl ?_ | refine g_no rfl ?_ | refine g_no0 rfl ?_ | refine g_bk ?_ | refine g_b ?_ | refine g_sk ?_ | refine g_cT rfl ?_ | refine g_cF rfl ?_ | refine g_x rfl ?_ | refine g_lb ?_))
    refine g_lp (ι := Nat × Value × Value) (fun x => [(0, .slice a n c), (3, dp b3), (9, .slice a n c), (10, .int .i64 n), (11, .int .i64 x.1)])
      (fun x w' => x.1 ≤ n ∧ (x.2.1 = .pointer none ∨ x.2.1 = dp b3) ∧ (((d.take x.1).map ln1).flatten = [] → x.2.2 = .slice none 0 0) ∧
        St w (fun _ => False) w' [cel b3 [x.2.1, x.2.2] 78, row x.2.2 5 1 ((d.take x.1).map ln1).flatten.length (bys ((d.take x.1).map ln1).flatten)]) (fun x => n - x.1) (0, .pointer none, .slice none 0 0)
      ⟨rfl, rfl, rfl, rfl, rfl, trivial⟩ ⟨Nat.zero_le _, .inl rfl, fun _ => rfl, hS⟩ ?_
    clear hS
    rintro ⟨k, p, vb⟩ w1 ⟨hk, hp, hnil, hS⟩
    dsimp only at hk hp hnil hS ⊢
    (repeat (first | refine g_sq ?_ | refine g_rg ?_ | refine g_r0 ?_ | refine g_ok rfl rfl ?_ | refine g_no rfl ?_ | refine g_no0 rfl ?_ | refine g_bk ?_ | refine g_b ?_ | refine g_sk ?_ | refine g_cT rfl ?_ | refine g_cF rfl ?_ | refine g_x rfl ?_ | refine g_lb ?_))
    (refine g_cd rfl (fun hlt => ?_) (fun hlt => ?_) <;> simp only [cmv, arv, Bool.not_eq_true', Bool.not_eq_false', decide_eq_true_eq, decide_eq_false_iff_not] at hlt)
    · have hlt : k < n := by omega
      obtain ⟨b, off, cap, l, e1, hcap, hl, hx, hb⟩ := Rd.block (hrr _ hS) (by omega)
      cases e1
      (repeat (first | refine g_sq ?_ | refine g_rg ?_ | refine g_r0 ?_ | refine g_ok rfl rfl ?_ | refine g_no rfl ?_ | refine g_no0 rfl ?_ | refine g_bk ?_ | refine g_b ?_ | refine g_sk ?_ | refine g_cT rfl ?_ | refine g_cF rfl ?_ | refine g_x rfl ?_ | refine g_lb ?_))
      refine g_rq rfl rfl ⟨by omega, by omega⟩ ?_
      have hbd : off + k * 33 + 33 ≤ l.length := by have : (k + 1) * 33 ≤ c * 33 := Nat.mul_le_mul_right 33 (by omega); omega
      refine g_lmr rfl rfl hb hbd ?_
      rw [Int.toNat_natCast, rd_at lc_len hx hd (show k < d.length by omega)]
      have hst : ((d.take (k + 1)).map ln1).flatten = ((d.take k).map ln1).flatten ++ ln1 (d[k]'(by omega)) := by
        rw [List.take_succ_eq_append_getElem (by omega), List.map_append, List.flatten_append]
        simp
      have hle := flen_le d (k + 1)
      generalize hX : d[k]'(by omega) = X at hst
      have hXl := hlen X (by rw [← hX]; exact List.getElem_mem _)
      rw [hst, List.length_append] at hle
      have hx1 : (ln1 X).length = 64 + 1 + X.1.length + 1 := by
        unfold ln1
        simp only [List.length_append, List.length_cons, hex_len, X.2.2, List.length_nil]
        omega
      refine g_ef rfl (ef_al hS fun b5 w1 hS => ?_)
      have lz : (zx [(1, .string ⟨#[]⟩), (32, .int .u8 0)]).length = 33 := by decide
      refine g_ef0 rfl (ef_st hS 2 rfl rfl rfl (lc_len _) (by rw [lz]; decide) (List.all_eq_true.2 (lc_one _)) fun w1 hS => ?_)
      replace hS := hS.ceq (l' := lc X) 2 rfl (spl_full _ _ (by show (lc X).length = _; rw [lc_len, lz]))
      replace hS : St w (fun _ => False) w1 [cel b3 [p, vb] 78, row vb 5 1 ((d.take k).map ln1).flatten.length (bys ((d.take k).map ln1).flatten), cel b5 (lc X) 41] := hS
      (repeat (first | refine g_sq ?_ | refine g_rg ?_ | refine g_r0 ?_ | refine g_ok rfl rfl ?_ | refine g_no rfl ?_ | refine g_no0 rfl ?_ | refine g_bk ?_ | refine g_b ?_ | refine g_sk ?_ | refine g_cT rfl ?_ | refine g_cF rfl ?_ | refine g_x rfl ?_ | refine g_lb ?_))
      refine g_dr mixed ?_
      replace hS := hS.drew
      have l2 : (bys X.2.1).length = 32 := ic_len X.2
      have d2 : ((lc X).drop 1).take 32 = bys X.2.1 := by
        show (bys X.2.1).take 32 = _
        rw [List.take_of_length_le (Nat.le_of_eq l2)]
      (repeat (first | refine d_ok rfl rfl rfl ?_ | refine d_no rfl rfl ?_))
      refine d_lm rfl rfl rfl (hS.b 2 rfl) (by rw [lc_len]; decide) ?_
      rw [show ((lc X).drop (0 + 1)).take 32 = bys X.2.1 from d2]
      (repeat (first | refine d_ok rfl rfl rfl ?_ | refine d_no rfl rfl ?_))
      refine d_l1 rfl rfl rfl (hS.b 2 rfl) rfl ?_
      refine d_cl rfl rfl rfl (b_Text X.2.2 fun w1 h' => ?_)
      replace hS := hS.call0.2 _ _ h'
      rw [List.append_nil] at hS
      refine ⟨rc_1 rfl rfl rfl rfl (hS.b 2 rfl) rfl rc_0, ?_⟩
      refine d_rq rfl rfl rfl (by simp [Lib.size_eq, hex_len, X.2.2]) ?_
      refine d_rq rfl rfl rfl (by simp [Lib.size_eq, hex_len, X.2.2]; omega) ?_
      refine d_rq rfl rfl rfl (by simp [Lib.size_eq, hex_len, X.2.2]; omega) ?_
      have es : (.string ((⟨(hex X.2.1).toArray⟩ : ByteArray) ++ ⟨#[32]⟩ ++ ⟨X.1.toArray⟩ ++ ⟨#[10]⟩) : Value) = sv (ln1 X) := by
        rw [← sv_of]
        congr 1
        simp [ln1]
      have hF := St.frame (A := [cel b3 [p, vb] 78, row vb 5 1 ((d.take k).map ln1).flatten.length (bys ((d.take k).map ln1).flatten)]) (B := [cel b5 (lc X) 41]) hS
      refine d_cl (vs := [dp b3, sv (ln1 X)]) rfl rfl (by rw [← es]; rfl) (b_WS hp (by omega) hF.1 fun v' w1 h' => ?_)
      replace hS := hF.2 _ _ h'
      refine ⟨rc_0, ?_⟩
      refine d_fin ?_
      (repeat (first | refine g_sq ?_ | refine g_rg ?_ | refine g_r0 ?_ | refine g_ok rfl rfl ?_ | refine g_no rfl ?_ | refine g_no0 rfl ?_ | refine g_bk ?_ | refine g_b ?_ | refine g_sk ?_ | refine g_cT rfl ?_ | refine g_cF rfl ?_ | refine g_x rfl ?_ | refine g_lb ?_))
      refine g_rq rfl rfl (in64 (by simp only [arv]; omega)) ?_
      (repeat (first | refine g_sq ?_ | refine g_rg ?_ | refine g_r0 ?_ | refine g_ok rfl rfl ?_ | refine g_no rfl ?_ | refine g_no0 rfl ?_ | refine g_bk ?_ | refine g_b ?_ | refine g_sk ?_ | refine g_cT rfl ?_ | refine g_cF rfl ?_ | refine g_x rfl ?_ | refine g_lb ?_))
      refine g_l (k + 1, dp b3, v') ⟨rfl, rfl, rfl, rfl, rfl, trivial⟩ ⟨by simp only; omega, .inr rfl, fun e => ?_, ?_⟩ (by simp only; omega)
      · have := congrArg List.length e
        dsimp only at this
        rw [hst, List.length_append, hx1] at this
        simp at this
      · dsimp only
        rw [hst, List.length_append]
        exact hS.sel [0, 1] rfl rfl
    · have ek : k = n := by omega
      subst ek
      rw [List.take_of_length_le (by omega)] at hS hnil
      (repeat (first | refine g_sq ?_ | refine g_rg ?_ | refine g_r0 ?_ | refine g_ok rfl rfl ?_ | refine g_no rfl ?_ | refine g_no0 rfl ?_ | refine g_bk ?_ | refine g_b ?_ | refine g_sk ?_ | refine g_cT rfl ?_ | refine g_cF rfl ?_ | refine g_x rfl ?_ | refine g_lb ?_))
      refine g_cl rfl rfl (b_BS hnil (by omega) hS fun w1 hS => ?_)
      (repeat (first | refine g_sq ?_ | refine g_rg ?_ | refine g_r0 ?_ | refine g_ok rfl rfl ?_ | refine g_no rfl ?_ | refine g_no0 rfl ?_ | refine g_bk ?_ | refine g_b ?_ | refine g_sk ?_ | refine g_cT rfl ?_ | refine g_cF rfl ?_ | refine g_x rfl ?_ | refine g_lb ?_))
      exact g_ret (q_1 rfl (h _ hS))
end
end Go.Proofs.YtibofabkpgigoaaGreatDoor
