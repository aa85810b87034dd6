/- The journal is opened: the walk. -/
import Derived.Test.YtegjocpjmfaigaaJk
set_option linter.unusedSimpArgs false
set_option linter.unusedVariables false
namespace Go.Proofs.Ytegjocpjmfaigaa
open Go.En

def openJ (D : Dev) (fr bk : Nat) : Jou := ⟨opened (area D fr bk), great (area D fr bk) + 1, false⟩
def badA (D : Dev) (fr bk : Int) : Prop := fr < 0 ∨ bk < 2 ∨ (D.cells.length : Int) < bk ∨ (D.cells.length : Int) - bk < fr
section
variable {w w0 : World} {S0 S S1 : Nat → Prop} {K : Value → World → Prop} {jb d : Nat} {J : Jou} {D : Dev} {B L : List Res} {vl v : Value} {Z : GZ}
set_option maxRecDepth 100000 in
theorem b39 {fr bk : Int} (hl : D.cells.length ≤ 4096) (hS : St w0 S0 w [DevR S1 d D]) (h1 : badA D fr bk → K (.tuple ⟨[.pointer none, .int .i64 151]⟩) w) (h2 : ¬ badA D fr bk → D.down = true → K (.tuple ⟨[.pointer none, .int .i64 141]⟩) w)
    (h3 : ¬ badA D fr bk → D.down = false → ∀ w' S S1 jb, St w0 S0 w' [JouR S jb d fr.toNat bk.toNat (openJ D fr.toNat bk.toNat), DevR S1 d D] → K (.tuple ⟨[dp jb, .int .i64 0]⟩) w') : CK Try.prog 39 [dp d, .int .i64 fr, .int .i64 bk] w K := by
  obtain ⟨hwf, bc, nc, cap, a, c, en, hB⟩ := DevR.blk hS
  refine call_k Try.func39 k39 Try.ntmps39 (Nat.le_of_ble_eq_true rfl) ?_
  (repeat (first | refine g_sq ?_ | refine g_rg ?_ | refine g_r0 ?_ | refine g_ok rfl rfl ?_ | refine g_no rfl ?_ | refine g_no0 rfl ?_ | refine g_bk ?_ | refine g_b ?_ | refine g_sk ?_ | refine g_cT rfl ?_ | refine g_cF rfl ?_ | refine g_x rfl ?_ | refine g_lb ?_))
  refine g_sc rfl ?_
  (repeat (first | refine g_sq ?_ | refine g_rg ?_ | refine g_r0 ?_ | refine g_ok rfl rfl ?_ | refine g_no rfl ?_ | refine g_no0 rfl ?_ | refine g_bk ?_ | refine g_b ?_ | refine g_sk ?_ | refine g_cT rfl ?_ | refine g_cF rfl ?_ | refine g_x rfl ?_ | refine g_lb ?_))
  refine g_cl rfl rfl (d36 hS ?_)
  have hn0 : ¬ ((D.cells.length : Int) = 0) := by omega
  (repeat (first | refine g_sq ?_ | refine g_rg ?_ | refine g_r0 ?_ | refine g_ok rfl rfl ?_ | refine g_no rfl ?_ | refine g_no0 rfl ?_ | refine g_bk ?_ | refine g_b ?_ | refine g_sk ?_ | refine g_cT rfl ?_ | refine g_cF rfl ?_ | refine g_x rfl ?_ | refine g_lb ?_))
  refine g_cd rfl (fun hz => ?_) (fun hz => ?_)
  · simp only [cmv, decide_eq_true_eq] at hz; omega
  clear hz
  (repeat (first | refine g_sq ?_ | refine g_rg ?_ | refine g_r0 ?_ | refine g_ok rfl rfl ?_ | refine g_no rfl ?_ | refine g_no0 rfl ?_ | refine g_bk ?_ | refine g_b ?_ | refine g_sk ?_ | refine g_cT rfl ?_ | refine g_cF rfl ?_ | refine g_x rfl ?_ | refine g_lb ?_))
  generalize hq1 : cmv BinOp.lss fr 0 = q1
  cases q1
  all_goals simp only [cmv, decide_eq_true_eq, decide_eq_false_iff_not] at hq1
  rotate_left
  · (repeat (first | refine g_sq ?_ | refine g_rg ?_ | refine g_r0 ?_ | refine g_ok rfl rfl ?_ | refine g_no rfl ?_ | refine g_no0 rfl ?_ | refine g_bk ?_ | refine g_b ?_ | refine g_sk ?_ | refine g_cT rfl ?_ | refine g_cF rfl ?_ | refine g_x rfl ?_ | refine g_lb ?_))
    exact g_ret (q_2 rfl rfl (h1 (.inl hq1)))
  (repeat (first | refine g_sq ?_ | refine g_rg ?_ | refine g_r0 ?_ | refine g_ok rfl rfl ?_ | refine g_no rfl ?_ | refine g_no0 rfl ?_ | refine g_bk ?_ | refine g_b ?_ | refine g_sk ?_ | refine g_cT rfl ?_ | refine g_cF rfl ?_ | refine g_x rfl ?_ | refine g_lb ?_))
  generalize hq2 : cmv BinOp.lss bk 2 = q2
  cases q2
  all_goals simp only [cmv, decide_eq_true_eq, decide_eq_false_iff_not] at hq2
  rotate_left
  · (repeat (first | refine g_sq ?_ | refine g_rg ?_ | refine g_r0 ?_ | refine g_ok rfl rfl ?_ | refine g_no rfl ?_ | refine g_no0 rfl ?_ | refine g_bk ?_ | refine g_b ?_ | refine g_sk ?_ | refine g_cT rfl ?_ | refine g_cF rfl ?_ | refine g_x rfl ?_ | refine g_lb ?_))
    exact g_ret (q_2 rfl rfl (h1 (.inr (.inl hq2))))
  (repeat (first | refine g_sq ?_ | refine g_rg ?_ | refine g_r0 ?_ | refine g_ok rfl rfl ?_ | refine g_no rfl ?_ | refine g_no0 rfl ?_ | refine g_bk ?_ | refine g_b ?_ | refine g_sk ?_ | refine g_cT rfl ?_ | refine g_cF rfl ?_ | refine g_x rfl ?_ | refine g_lb ?_))
  refine g_cl rfl rfl (d36 hS ?_)
  (repeat (first | refine g_sq ?_ | refine g_rg ?_ | refine g_r0 ?_ | refine g_ok rfl rfl ?_ | refine g_no rfl ?_ | refine g_no0 rfl ?_ | refine g_bk ?_ | refine g_b ?_ | refine g_sk ?_ | refine g_cT rfl ?_ | refine g_cF rfl ?_ | refine g_x rfl ?_ | refine g_lb ?_))
  generalize hq3 : cmv BinOp.gtr bk (D.cells.length : Int) = q3
  cases q3
  all_goals simp only [cmv, decide_eq_true_eq, decide_eq_false_iff_not] at hq3
  rotate_left
  · (repeat (first | refine g_sq ?_ | refine g_rg ?_ | refine g_r0 ?_ | refine g_ok rfl rfl ?_ | refine g_no rfl ?_ | refine g_no0 rfl ?_ | refine g_bk ?_ | refine g_b ?_ | refine g_sk ?_ | refine g_cT rfl ?_ | refine g_cF rfl ?_ | refine g_x rfl ?_ | refine g_lb ?_))
    exact g_ret (q_2 rfl rfl (h1 (.inr (.inr (.inl hq3)))))
  (repeat (first | refine g_sq ?_ | refine g_rg ?_ | refine g_r0 ?_ | refine g_ok rfl rfl ?_ | refine g_no rfl ?_ | refine g_no0 rfl ?_ | refine g_bk ?_ | refine g_b ?_ | refine g_sk ?_ | refine g_cT rfl ?_ | refine g_cF rfl ?_ | refine g_x rfl ?_ | refine g_lb ?_))
  refine g_cl rfl rfl (d36 hS ?_)
  (repeat (first | refine g_sq ?_ | refine g_rg ?_ | refine g_r0 ?_ | refine g_ok rfl rfl ?_ | refine g_no rfl ?_ | refine g_no0 rfl ?_ | refine g_bk ?_ | refine g_b ?_ | refine g_sk ?_ | refine g_cT rfl ?_ | refine g_cF rfl ?_ | refine g_x rfl ?_ | refine g_lb ?_))
  refine g_rq rfl rfl (in64 (by simp only [arv]; omega)) ?_
  (repeat (first | refine g_sq ?_ | refine g_rg ?_ | refine g_r0 ?_ | refine g_ok rfl rfl ?_ | refine g_no rfl ?_ | refine g_no0 rfl ?_ | refine g_bk ?_ | refine g_b ?_ | refine g_sk ?_ | refine g_cT rfl ?_ | refine g_cF rfl ?_ | refine g_x rfl ?_ | refine g_lb ?_))
  refine g_cd rfl (fun hz => ?_) (fun hz => ?_)
  all_goals simp only [cmv, decide_eq_true_eq, decide_eq_false_iff_not] at hz
  all_goals simp only [arv] at hz
  · (repeat (first | refine g_sq ?_ | refine g_rg ?_ | refine g_r0 ?_ | refine g_ok rfl rfl ?_ | refine g_no rfl ?_ | refine g_no0 rfl ?_ | refine g_bk ?_ | refine g_b ?_ | refine g_sk ?_ | refine g_cT rfl ?_ | refine g_cF rfl ?_ | refine g_x rfl ?_ | refine g_lb ?_))
    exact g_ret (q_2 rfl rfl (h1 (.inr (.inr (.inr hz)))))
  have hbad : ¬ badA D fr bk := by unfold badA; omega
  (repeat (first | refine g_sq ?_ | refine g_rg ?_ | refine g_r0 ?_ | refine g_ok rfl rfl ?_ | refine g_no rfl ?_ | refine g_no0 rfl ?_ | refine g_bk ?_ | refine g_b ?_ | refine g_sk ?_ | refine g_cT rfl ?_ | refine g_cF rfl ?_ | refine g_x rfl ?_ | refine g_lb ?_))
  refine g_cl rfl rfl (d28 hS ?_)
  (repeat (first | refine g_sq ?_ | refine g_rg ?_ | refine g_r0 ?_ | refine g_ok rfl rfl ?_ | refine g_no rfl ?_ | refine g_no0 rfl ?_ | refine g_bk ?_ | refine g_b ?_ | refine g_sk ?_ | refine g_cT rfl ?_ | refine g_cF rfl ?_ | refine g_x rfl ?_ | refine g_lb ?_))
  refine g_cd (t := !!D.down) rfl (fun hy => ?_) (fun hy => ?_)
  all_goals simp only [Bool.not_not] at hy
  · (repeat (first | refine g_sq ?_ | refine g_rg ?_ | refine g_r0 ?_ | refine g_ok rfl rfl ?_ | refine g_no rfl ?_ | refine g_no0 rfl ?_ | refine g_bk ?_ | refine g_b ?_ | refine g_sk ?_ | refine g_cT rfl ?_ | refine g_cF rfl ?_ | refine g_x rfl ?_ | refine g_lb ?_))
    exact g_ret (q_2 rfl rfl (h2 hbad hy))
  have h3 := h3 hbad hy
  obtain ⟨f, rfl⟩ : ∃ f : Nat, fr = (f : Int) := ⟨fr.toNat, by omega⟩
  obtain ⟨k, rfl⟩ : ∃ k : Nat, bk = (k : Int) := ⟨bk.toNat, by omega⟩
  rw [Int.toNat_natCast, Int.toNat_natCast] at h3
  have hF : Fine D f k := ⟨hy, by omega⟩
  (repeat (first | refine g_sq ?_ | refine g_rg ?_ | refine g_r0 ?_ | refine g_ok rfl rfl ?_ | refine g_no rfl ?_ | refine g_no0 rfl ?_ | refine g_bk ?_ | refine g_b ?_ | refine g_sk ?_ | refine g_cT rfl ?_ | refine g_cF rfl ?_ | refine g_x rfl ?_ | refine g_lb ?_))
  refine g_ef rfl (ef_bx hS rfl fun jb w hS => ?_)
  refine g_ef rfl (ef_al hS fun b8 w hS => ?_)
  refine g_ef0 rfl (ef_st hS 2 rfl rfl rfl rfl (Nat.le_of_ble_eq_true rfl) rfl fun w hS => ?_)
  have hS : St w0 S0 w [DevR S1 d D, cel jb (JouC (dp d) f k (.slice none 0 0) ⟨[], 0, false⟩) 94, cel b8 [dp jb] 67] := hS
  have hS := gp_nil (hS.nilrow 134 3)
  have hS := hS.sel [1, 3, 4, 0, 2] rfl rfl
  obtain ⟨S, hS⟩ := JouR.cls (Z := []) (J := ⟨[], 0, false⟩) ⟨Nat.zero_le _, by decide, fun g hg => nomatch hg⟩ (by omega) (by omega) rfl hS
  (repeat (first | refine g_sq ?_ | refine g_rg ?_ | refine g_r0 ?_ | refine g_ok rfl rfl ?_ | refine g_no rfl ?_ | refine g_no0 rfl ?_ | refine g_bk ?_ | refine g_b ?_ | refine g_sk ?_ | refine g_cT rfl ?_ | refine g_cF rfl ?_ | refine g_x rfl ?_ | refine g_lb ?_))
  refine g_l1 rfl rfl (hS.b  2 rfl) rfl ?_
  refine g_cl rfl rfl (d89 hS fun b1 w hS => ?_)
  refine g_r0 ?_
  have hS := hS.sel [0, 1, 3, 2] rfl rfl
  refine g_atd 1 [(8, dp b8)] (fun D1 w => ∃ dB S S1, D1 = [⟨.collected dB, #[]⟩] ∧ St w0 S0 w [JouR S jb d f k ⟨opened (area D f k), 0, false⟩, DevR S1 d D, cel b8 [dp jb] 67, obj dB (.deferred (some []))]) rfl ?_ ?_
  · (repeat (first | refine g_sq ?_ | refine g_rg ?_ | refine g_r0 ?_ | refine g_ok rfl rfl ?_ | refine g_no rfl ?_ | refine g_no0 rfl ?_ | refine g_bk ?_ | refine g_b ?_ | refine g_sk ?_ | refine g_cT rfl ?_ | refine g_cF rfl ?_ | refine g_x rfl ?_ | refine g_lb ?_))
    refine g_wkc (T' := [(45, .func (.func 112) ⟨[]⟩ ⟨[dp b1]⟩), (8, dp b8)]) ⟨rfl, rfl, trivial⟩ ?_
    refine g_rf (cap := [dp b1]) (first := []) hS rfl (callFunc_of Try.func112 rfl rfl) fun l dB w hS => ?_
    refine d112 (b1 := b1) (Y := [cel b8 [dp jb] 67, obj dB (.deferred (some [])), lpR Try.prog l 69 [(45, .func (.func 112) ⟨[]⟩ ⟨[dp b1]⟩), (8, dp b8)] [46] m39u0 m39v0 .ready none]) (by omega) hF hS ?_ ?_
    · clear hS
      intro acc g w S S1 v' g4 hR hs hS
      have hwf := (DevR.blk (hS.sel [1] rfl rfl)).1
      have hal := area_len D f k
      have hu : usedOf acc ≤ k := by obtain ⟨_, _, h, _⟩ := hR; omega
      have hk := (stand_ok _ _ _ _ (Nat.zero_le _) (fun b hb => area_mem hwf hF b (List.mem_of_mem_drop hb)) hs)
      rw [List.length_drop] at hk
      have hmaxN : maxN = 4611686018427387904 := rfl
      obtain ⟨av, cv, rfl⟩ := hS.rlen 2 rfl
      refine yd_of hS 7 rfl rfl ?_
      (repeat (first | refine g_sq ?_ | refine g_rg ?_ | refine g_r0 ?_ | refine g_ok rfl rfl ?_ | refine g_no rfl ?_ | refine g_no0 rfl ?_ | refine g_bk ?_ | refine g_b ?_ | refine g_sk ?_ | refine g_cT rfl ?_ | refine g_cF rfl ?_ | refine g_x rfl ?_ | refine g_lb ?_))
      refine g_ef rfl (ef_al hS fun b9 w hS => ?_)
      refine g_ef0 rfl (ef_st hS 8 rfl rfl rfl rfl (Nat.le_of_ble_eq_true rfl) rfl fun w hS => ?_)
      have hS := hS.ceq (l' := gv1 (g, .slice av g.b.length cv)) 8 rfl rfl
      (repeat (first | refine g_sq ?_ | refine g_rg ?_ | refine g_r0 ?_ | refine g_ok rfl rfl ?_ | refine g_no rfl ?_ | refine g_no0 rfl ?_ | refine g_bk ?_ | refine g_b ?_ | refine g_sk ?_ | refine g_cT rfl ?_ | refine g_cF rfl ?_ | refine g_x rfl ?_ | refine g_lb ?_))
      refine ⟨rfl, _, _, hS, rfl, fun w hS => ?_⟩
      (repeat (first | refine g_sq ?_ | refine g_rg ?_ | refine g_r0 ?_ | refine g_ok rfl rfl ?_ | refine g_no rfl ?_ | refine g_no0 rfl ?_ | refine g_bk ?_ | refine g_b ?_ | refine g_sk ?_ | refine g_cT rfl ?_ | refine g_cF rfl ?_ | refine g_x rfl ?_ | refine g_lb ?_))
      refine g_dr mixed ?_
      have hS := hS.drew
      (repeat (first | refine d_ok rfl rfl rfl ?_ | refine d_no rfl rfl ?_))
      refine d_l1 rfl rfl rfl (hS.b 8 rfl) rfl ?_
      refine d_l1 rfl rfl rfl (hS.b 5 rfl) rfl ?_
      refine d_cl rfl rfl rfl (c44 hS fun w S hS => ⟨rc_1 rfl rfl rfl rfl (hS.b 8 rfl) rfl rc_0, ?_⟩)
      (repeat (first | refine d_ok rfl rfl rfl ?_ | refine d_no rfl rfl ?_))
      refine d_fin ?_
      have hlast : (⟨acc, 0, false⟩ : Jou).last = lastOf acc := rfl
      rw [hlast]
      refine g_cd rfl (fun h0 => ?_) (fun h0 => ?_)
      all_goals simp only [cmv, decide_eq_true_eq, decide_eq_false_iff_not] at h0
      · refine g_xt (k_xo rfl ?_)
        refine ⟨_, _, hS, rfl, fun w hS => .inr ⟨rfl, ?_⟩⟩
        refine ⟨_, 7, _, _, hS, rfl, (fun h => nomatch h), fun w hS => ?_⟩
        refine k_xt rfl (g_jd ⟨rfl, trivial⟩ ⟨dB, S, S1, rfl, ?_⟩)
        rw [← hR.low hs (by omega)]
        exact hS.sel [0, 1, 5, 6] rfl rfl
      · (repeat (first | refine g_sq ?_ | refine g_rg ?_ | refine g_r0 ?_ | refine g_ok rfl rfl ?_ | refine g_no rfl ?_ | refine g_no0 rfl ?_ | refine g_bk ?_ | refine g_b ?_ | refine g_sk ?_ | refine g_cT rfl ?_ | refine g_cF rfl ?_ | refine g_x rfl ?_ | refine g_lb ?_))
        refine g_dr mixed ?_
        have hS := hS.drew
        obtain ⟨vl, Z, k1, k2, k3, k4, hS⟩ := JouR.opn hS
        have hZl : Z.length = acc.length := by
          have := congrArg List.length k4
          rwa [List.length_map] at this
        have hlen : Z.length ≤ 4096 := by have := usedOf_len acc; omega
        obtain ⟨al, cl, rfl⟩ := hS.rlen 1 rfl
        (repeat (first | refine d_ok rfl rfl rfl ?_ | refine d_no rfl rfl ?_))
        refine d_l1 rfl rfl rfl (hS.b 7 rfl) rfl ?_
        refine d_l1 rfl rfl rfl (hS.b 7 rfl) rfl ?_
        (repeat (first | refine d_ok rfl rfl rfl ?_ | refine d_no rfl rfl ?_))
        refine d_l1 rfl rfl rfl (hS.b 0 rfl) rfl ?_
        refine d_lm rfl rfl rfl (hS.b 10 rfl) (Nat.le_of_ble_eq_true rfl) ?_
        refine d_e rfl rfl ?_
        refine ef_bl (rs := gv1 (g, .slice av g.b.length cv)) hS rfl fun g7 w hS => ⟨rc_1 rfl rfl rfl rfl (hS.b 7 rfl) rfl (rc_1 rfl rfl rfl rfl (hS.b 7 rfl) rfl (rc_1 rfl rfl rfl rfl (hS.b 0 rfl) rfl rc_0)), ?_⟩
        refine d_e rfl rfl ?_
        refine ef_ap (n := Z.length) (m := 1) (ys := gv1 (g, .slice av g.b.length cv)) hS 1 rfl rfl rfl (.inl ⟨134, .inr ⟨g7, 0, 1, _, rfl, Nat.le_refl _, Nat.le_refl _, rfl, (hS.b 11 rfl).r⟩⟩) rfl (by omega) (by omega) fun vl1 w hS => ⟨rc_1 rfl rfl rfl rfl (hS.b 7 rfl) rfl rc_0, ?_⟩
        obtain ⟨av1, cv1, rfl⟩ := hS.rlen 1 rfl
        (repeat (first | refine d_ok rfl rfl rfl ?_ | refine d_no rfl rfl ?_))
        refine d_e0 rfl rfl ?_
        refine ef_st hS 0 rfl rfl rfl rfl (Nat.le_of_ble_eq_true rfl) rfl fun w hS => ⟨rc_0, ?_⟩
        have hS := hS.pool_add (M := Z.map fun z => (z.2, z.1.b)) (v := .slice av g.b.length cv) (bs := g.b) 2 4 rfl rfl (by decide)
        have hS : St w0 S0 w (cel jb (JouC (dp d) f k (.slice av1 (Z.length + 1) cv1) ⟨acc ++ [g], 0, false⟩) 94 :: row (.slice av1 (Z.length + 1) cv1) 134 3 (Z.length + 1) (gz Z ++ gv1 (g, .slice av g.b.length cv)) :: pool ((Z.map fun z => (z.2, z.1.b)) ++ [(.slice av g.b.length cv, g.b)]) :: _) := hS.sel [0, 1, 2, 3, 5, 6, 7, 8, 9] rfl rfl
        have e2 : (Z ++ [(g, Value.slice av g.b.length cv)]).length = Z.length + 1 := by simp
        have e3 : gp (Z ++ [(g, Value.slice av g.b.length cv)]) = pool ((Z.map fun z => (z.2, z.1.b)) ++ [(.slice av g.b.length cv, g.b)]) := by simp [gp]
        have e4 : usedOf (acc ++ [g]) = usedOf acc + g.many := by rw [usedOf_app]; simp [usedOf]
        rw [← gz_app, ← e3, ← e2] at hS
        obtain ⟨S', hS⟩ := JouR.cls (J := ⟨acc ++ [g], 0, false⟩) ⟨by
            show usedOf (acc ++ [g]) ≤ k
            omega, Nat.zero_le _, fun x hx => by
            rcases List.mem_append.1 hx with hx | hx
            · exact k1.2.2 x hx
            · simp at hx; subst hx; exact ⟨by omega, by omega⟩⟩ k2 k3 (by rw [List.map_append, k4]; rfl) hS
        refine d_fin ?_
        (repeat (first | refine g_sq ?_ | refine g_rg ?_ | refine g_r0 ?_ | refine g_ok rfl rfl ?_ | refine g_no rfl ?_ | refine g_no0 rfl ?_ | refine g_bk ?_ | refine g_b ?_ | refine g_sk ?_ | refine g_cT rfl ?_ | refine g_cF rfl ?_ | refine g_x rfl ?_ | refine g_lb ?_))
        have hS := hS.fact (p := True) trivial
        refine ⟨_, _, hS.sel [0, 1, 2, 3, 4, 5, 7, 6] rfl rfl, rfl, fun w hS => .inl ⟨rfl, by omega, S', S1, hS.sel [0, 1, 2, 3, 4, 5, 7] rfl rfl⟩⟩
    · clear hS
      intro acc w S S1 he hS
      refine ⟨_, 5, _, _, hS, rfl, (fun h => nomatch h), fun w hS => ?_⟩
      refine g_b (g_jd ⟨rfl, trivial⟩ ⟨dB, S, S1, rfl, ?_⟩)
      rw [← he]
      exact hS.sel [0, 1, 3, 4] rfl rfl
  · clear hS
    rintro T D1 w hT ⟨dB, S, S1, rfl, hS⟩
    refine g_wkc hT ?_
    (repeat (first | refine g_sq ?_ | refine g_rg ?_ | refine g_r0 ?_ | refine g_ok rfl rfl ?_ | refine g_no rfl ?_ | refine g_no0 rfl ?_ | refine g_bk ?_ | refine g_b ?_ | refine g_sk ?_ | refine g_cT rfl ?_ | refine g_cF rfl ?_ | refine g_x rfl ?_ | refine g_lb ?_))
    refine g_dr mixed ?_
    have hS := hS.drew
    refine d_l1 rfl rfl rfl (hS.b 2 rfl) rfl ?_
    refine d_l1 rfl rfl rfl (hS.b 2 rfl) rfl ?_
    refine d_cl rfl rfl rfl (c90 hF hS fun w S S1 hS => ⟨rc_1 rfl rfl rfl rfl (hS.b 2 rfl) rfl rc_0, ?_⟩)
    have hgl := great_le (area D f k)
    have hmaxN : maxN = 4611686018427387904 := rfl
    refine d_rq rfl rfl rfl (in64 (by simp only [arv]; omega)) ?_
    rw [show arv BinOp.add (great (area D f k) : Int) 1 = ((great (area D f k) + 1 : Nat) : Int) by simp only [arv]; omega]
    (repeat (first | refine d_ok rfl rfl rfl ?_ | refine d_no rfl rfl ?_))
    obtain ⟨vl, Z, k1, k2, k3, k4, hS⟩ := JouR.opn hS
    refine d_e0 rfl rfl ?_
    refine ef_st hS 0 rfl rfl rfl rfl (Nat.le_of_ble_eq_true rfl) rfl fun w hS => ⟨rc_0, ?_⟩
    have hS : St w0 S0 w (cel jb (JouC (dp d) f k vl (openJ D f k)) 94 :: row vl 134 3 Z.length (gz Z) :: gp Z :: DevR S1 d D :: _) := hS
    obtain ⟨S', hS⟩ := JouR.cls (J := openJ D f k) ⟨k1.1, by show great (area D f k) + 1 ≤ _; omega, k1.2.2⟩ k2 k3 k4 hS
    refine d_fin ?_
    (repeat (first | refine g_sq ?_ | refine g_rg ?_ | refine g_r0 ?_ | refine g_ok rfl rfl ?_ | refine g_no rfl ?_ | refine g_no0 rfl ?_ | refine g_bk ?_ | refine g_b ?_ | refine g_sk ?_ | refine g_cT rfl ?_ | refine g_cF rfl ?_ | refine g_x rfl ?_ | refine g_lb ?_))
    refine g_l1 rfl rfl (hS.b  2 rfl) rfl ?_
    (repeat (first | refine g_sq ?_ | refine g_rg ?_ | refine g_r0 ?_ | refine g_ok rfl rfl ?_ | refine g_no rfl ?_ | refine g_no0 rfl ?_ | refine g_bk ?_ | refine g_b ?_ | refine g_sk ?_ | refine g_cT rfl ?_ | refine g_cF rfl ?_ | refine g_x rfl ?_ | refine g_lb ?_))
    refine g_ret (q_dr hS 3 rfl fun w hS => q_2 rfl rfl (h3 _ _ _ _ (hS.sel [0, 1] rfl rfl)))
theorem c39 {fr bk : Int} (hl : D.cells.length ≤ 4096) (hS : St w0 S0 w (DevR S1 d D :: B)) (h1 : badA D fr bk → K (.tuple ⟨[.pointer none, .int .i64 151]⟩) w) (h2 : ¬ badA D fr bk → D.down = true → K (.tuple ⟨[.pointer none, .int .i64 141]⟩) w)
    (h3 : ¬ badA D fr bk → D.down = false → ∀ w' S S1 jb, St w0 S0 w' (JouR S jb d fr.toNat bk.toNat (openJ D fr.toNat bk.toNat) :: DevR S1 d D :: B) → K (.tuple ⟨[dp jb, .int .i64 0]⟩) w') : CK Try.prog 39 [dp d, .int .i64 fr, .int .i64 bk] w K := by
  have hf := St.frame (A := [DevR S1 d D]) (B := B) hS
  exact b39 hl hf.1 h1 h2 fun k1 k2 w' S S1 jb h' => h3 k1 k2 w' S S1 jb (hf.2 w' _ h')
end
end Go.Proofs.Ytegjocpjmfaigaa
