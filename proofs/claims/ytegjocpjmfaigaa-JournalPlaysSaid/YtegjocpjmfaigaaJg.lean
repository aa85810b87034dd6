/- The journal: a group is appended. -/
import Derived.Test.YtegjocpjmfaigaaJf
set_option linter.unusedSimpArgs false
set_option linter.unusedVariables false
namespace Go.Proofs.Ytegjocpjmfaigaa
open Go.En

def Jou.append (J : Jou) (fr bk : Nat) (D : Dev) (b : List UInt8) : Jou × Dev × Int :=
  if J.shut then (J, D, 141) else if bk - J.used < blk b.length ∨ maxN < J.next then (J, D, 150) else
    let r := jwrite D (fr + J.used) ⟨J.next, b⟩
    if r.2 ≠ 0 then ({ J with shut := true }, r.1, r.2) else ({ J with l := J.l ++ [⟨J.next, b⟩], next := J.next + 1 }, r.1, 0)
theorem gz_app (Z : GZ) (z : Grp × Value) : gz (Z ++ [z]) = gz Z ++ gv1 z := by simp [gz]
section
variable {w w0 : World} {S0 S S1 : Nat → Prop} {K : Value → World → Prop} {jb d fr bk : Nat} {J : Jou} {D : Dev} {B L : List Res} {vl : Value} {Z : GZ}
set_option maxRecDepth 100000 in
theorem b42 {v : Value} {E : Nat} {bs : List UInt8} (hl : bs.length ≤ 1000000) (hwt : D.waits.length ≤ 1000000) (hb : Rd v E 1 bs.length (bys bs) w) (hd : ∀ x, vb v x → ¬ S0 x) (hS : St w S0 w [JouR S jb d fr bk J, DevR S1 d D])
    (h : ∀ w' S' S1', St w S0 w' [JouR S' jb d fr bk (J.append fr bk D bs).1, DevR S1' d (J.append fr bk D bs).2.1] → K (.int .i64 (J.append fr bk D bs).2.2) w') : CK Try.prog 42 [dp jb, v] w K := by
  have hro : ∀ {w' : World} {L' : List Res}, St w S0 w' L' → Rd v E 1 bs.length (bys bs) w' := fun hS => hS.ro (r := rdR v E 1 bs.length (bys bs)) hb fun x hx => ⟨hb.lt x hx, hd x hx⟩
  obtain ⟨a, c, rfl⟩ := Rd.form hb
  obtain ⟨hw, hb4, hf4, vl, hB⟩ := JouR.blk hS
  refine call_k Try.func42 k42 Try.ntmps42 (Nat.le_of_ble_eq_true rfl) ?_
  (repeat (first | refine g_sq ?_ | refine g_rg ?_ | refine g_r0 ?_ | refine g_ok rfl rfl ?_ | refine g_no rfl ?_ | refine g_no0 rfl ?_ | refine g_bk ?_ | refine g_b ?_ | refine g_sk ?_ | refine g_cT rfl ?_ | refine g_cF rfl ?_ | refine g_x rfl ?_ | refine g_lb ?_))
  refine g_cl rfl rfl (b91 hB ?_)
  (repeat (first | refine g_sq ?_ | refine g_rg ?_ | refine g_r0 ?_ | refine g_ok rfl rfl ?_ | refine g_no rfl ?_ | refine g_no0 rfl ?_ | refine g_bk ?_ | refine g_b ?_ | refine g_sk ?_ | refine g_cT rfl ?_ | refine g_cF rfl ?_ | refine g_x rfl ?_ | refine g_lb ?_))
  refine g_l1 rfl rfl hB rfl ?_
  (repeat (first | refine g_sq ?_ | refine g_rg ?_ | refine g_r0 ?_ | refine g_ok rfl rfl ?_ | refine g_no rfl ?_ | refine g_no0 rfl ?_ | refine g_bk ?_ | refine g_b ?_ | refine g_sk ?_ | refine g_cT rfl ?_ | refine g_cF rfl ?_ | refine g_x rfl ?_ | refine g_lb ?_))
  refine g_cd (t := J.shut) rfl (fun hsh => ?_) (fun hsh => ?_)
  · have e : J.append fr bk D bs = (J, D, 141) := by unfold Jou.append; rw [if_pos hsh]
    rw [e] at h
    (repeat (first | refine g_sq ?_ | refine g_rg ?_ | refine g_r0 ?_ | refine g_ok rfl rfl ?_ | refine g_no rfl ?_ | refine g_no0 rfl ?_ | refine g_bk ?_ | refine g_b ?_ | refine g_sk ?_ | refine g_cT rfl ?_ | refine g_cF rfl ?_ | refine g_x rfl ?_ | refine g_lb ?_))
    exact g_ret (q_1 rfl (h _ _ _ hS))
  (repeat (first | refine g_sq ?_ | refine g_rg ?_ | refine g_r0 ?_ | refine g_ok rfl rfl ?_ | refine g_no rfl ?_ | refine g_no0 rfl ?_ | refine g_bk ?_ | refine g_b ?_ | refine g_sk ?_ | refine g_cT rfl ?_ | refine g_cF rfl ?_ | refine g_x rfl ?_ | refine g_lb ?_))
  refine g_cl rfl rfl (c40 (by omega) ?_)
  (repeat (first | refine g_sq ?_ | refine g_rg ?_ | refine g_r0 ?_ | refine g_ok rfl rfl ?_ | refine g_no rfl ?_ | refine g_no0 rfl ?_ | refine g_bk ?_ | refine g_b ?_ | refine g_sk ?_ | refine g_cT rfl ?_ | refine g_cF rfl ?_ | refine g_x rfl ?_ | refine g_lb ?_))
  refine g_cl rfl rfl (c41 hS fun w1 S hS => ?_)
  obtain ⟨_, _, _, vl, hB⟩ := JouR.blk hS
  (repeat (first | refine g_sq ?_ | refine g_rg ?_ | refine g_r0 ?_ | refine g_ok rfl rfl ?_ | refine g_no rfl ?_ | refine g_no0 rfl ?_ | refine g_bk ?_ | refine g_b ?_ | refine g_sk ?_ | refine g_cT rfl ?_ | refine g_cF rfl ?_ | refine g_x rfl ?_ | refine g_lb ?_))
  generalize hq : cmv BinOp.gtr (blk bs.length : Int) ((bk - J.used : Nat) : Int) = q
  cases q
  all_goals simp only [cmv, decide_eq_true_eq, decide_eq_false_iff_not] at hq
  rotate_left
  · have e : J.append fr bk D bs = (J, D, 150) := by unfold Jou.append; rw [if_neg (by simp [hsh]), if_pos (.inl (by omega))]
    rw [e] at h
    (repeat (first | refine g_sq ?_ | refine g_rg ?_ | refine g_r0 ?_ | refine g_ok rfl rfl ?_ | refine g_no rfl ?_ | refine g_no0 rfl ?_ | refine g_bk ?_ | refine g_b ?_ | refine g_sk ?_ | refine g_cT rfl ?_ | refine g_cF rfl ?_ | refine g_x rfl ?_ | refine g_lb ?_))
    exact g_ret (q_1 rfl (h _ _ _ hS))
  (repeat (first | refine g_sq ?_ | refine g_rg ?_ | refine g_r0 ?_ | refine g_ok rfl rfl ?_ | refine g_no rfl ?_ | refine g_no0 rfl ?_ | refine g_bk ?_ | refine g_b ?_ | refine g_sk ?_ | refine g_cT rfl ?_ | refine g_cF rfl ?_ | refine g_x rfl ?_ | refine g_lb ?_))
  refine g_l1 rfl rfl hB rfl ?_
  (repeat (first | refine g_sq ?_ | refine g_rg ?_ | refine g_r0 ?_ | refine g_ok rfl rfl ?_ | refine g_no rfl ?_ | refine g_no0 rfl ?_ | refine g_bk ?_ | refine g_b ?_ | refine g_sk ?_ | refine g_cT rfl ?_ | refine g_cF rfl ?_ | refine g_x rfl ?_ | refine g_lb ?_))
  refine g_cd rfl (fun hz => ?_) (fun hz => ?_)
  all_goals simp only [cmv, decide_eq_true_eq, decide_eq_false_iff_not] at hz
  · have e : J.append fr bk D bs = (J, D, 150) := by unfold Jou.append; rw [if_neg (by simp [hsh]), if_pos (.inr (by unfold maxN; omega))]
    rw [e] at h
    (repeat (first | refine g_sq ?_ | refine g_rg ?_ | refine g_r0 ?_ | refine g_ok rfl rfl ?_ | refine g_no rfl ?_ | refine g_no0 rfl ?_ | refine g_bk ?_ | refine g_b ?_ | refine g_sk ?_ | refine g_cT rfl ?_ | refine g_cF rfl ?_ | refine g_x rfl ?_ | refine g_lb ?_))
    exact g_ret (q_1 rfl (h _ _ _ hS))
  have hneg : ¬ (bk - J.used < blk bs.length ∨ maxN < J.next) := by unfold maxN; omega
  (repeat (first | refine g_sq ?_ | refine g_rg ?_ | refine g_r0 ?_ | refine g_ok rfl rfl ?_ | refine g_no rfl ?_ | refine g_no0 rfl ?_ | refine g_bk ?_ | refine g_b ?_ | refine g_sk ?_ | refine g_cT rfl ?_ | refine g_cF rfl ?_ | refine g_x rfl ?_ | refine g_lb ?_))
  refine g_atx (ι := Nat × Value) 1 (fun x => [(0, dp jb), (5, dp x.1)]) (fun x w' => ∃ S S1, St w S0 w' [JouR S jb d fr bk J, DevR S1 d D, row x.2 5 1 bs.length (bys bs), cel x.1 [.int .i64 J.next, x.2, .int .i64 (blk bs.length)] 134]) rfl ?_ ?_
  · refine g_dr mixed ?_
    have hS := hS.drew
    obtain ⟨_, _, _, vl, hB⟩ := JouR.blk hS
    (repeat (first | refine d_ok rfl rfl rfl ?_ | refine d_no rfl rfl ?_))
    refine d_l1 rfl rfl rfl hB rfl ?_
    (repeat (first | refine d_ok rfl rfl rfl ?_ | refine d_no rfl rfl ?_))
    refine d_a2 ?_ (d_a1 ?_)
    · refine d_cl rfl rfl rfl (c92 hS (hro hS) (bys_one _) (by omega) fun v' w' hS => ?_)
      obtain ⟨_, _, _, vl, hB⟩ := JouR.blk hS
      obtain ⟨a', c', rfl⟩ := hS.rlen 2 rfl
      refine ⟨rc_1 rfl rfl rfl rfl hB rfl rc_0, ?_⟩
      refine d_a2 ?_ (d_a1 ?_)
      · refine d_cl rfl rfl rfl (c40 (by omega) ⟨rc_1 rfl rfl rfl rfl hB rfl rc_0, ?_⟩)
        (repeat (first | refine d_ok rfl rfl rfl ?_ | refine d_no rfl rfl ?_))
        refine d_e rfl rfl ?_
        refine ef_al hS fun g w' hS => ?_
        obtain ⟨_, _, _, vl, hB⟩ := JouR.blk hS
        refine ⟨rc_1 rfl rfl rfl rfl hB rfl rc_0, ?_⟩
        refine d_e0 rfl rfl ?_
        refine ef_st hS 3 rfl rfl rfl rfl (Nat.le_of_ble_eq_true rfl) rfl fun w' hS => ⟨rc_0, ?_⟩
        exact d_fin (g_jx (g, _) ⟨rfl, rfl, trivial⟩ ⟨S, S1, hS⟩)
      · refine d_e rfl rfl ?_
        refine ef_al hS fun g w' hS => ?_
        obtain ⟨_, _, _, vl, hB⟩ := JouR.blk hS
        refine ⟨rc_1 rfl rfl rfl rfl hB rfl rc_0, ?_⟩
        refine d_cl rfl rfl rfl (c40 (by omega) ⟨rc_1 rfl rfl rfl rfl hB rfl rc_0, ?_⟩)
        (repeat (first | refine d_ok rfl rfl rfl ?_ | refine d_no rfl rfl ?_))
        refine d_e0 rfl rfl ?_
        refine ef_st hS 3 rfl rfl rfl rfl (Nat.le_of_ble_eq_true rfl) rfl fun w' hS => ⟨rc_0, ?_⟩
        exact d_fin (g_jx (g, _) ⟨rfl, rfl, trivial⟩ ⟨S, S1, hS⟩)
    · refine d_e rfl rfl ?_
      refine ef_al hS fun g w' hS => ?_
      obtain ⟨_, _, _, vl, hB⟩ := JouR.blk hS
      refine ⟨rc_1 rfl rfl rfl rfl hB rfl rc_0, ?_⟩
      refine d_cl rfl rfl rfl (c92 hS (hro hS) (bys_one _) (by omega) fun v' w' hS => ?_)
      obtain ⟨_, _, _, vl, hB⟩ := JouR.blk hS
      obtain ⟨a', c', rfl⟩ := hS.rlen 3 rfl
      refine ⟨rc_1 rfl rfl rfl rfl hB rfl rc_0, ?_⟩
      refine d_cl rfl rfl rfl (c40 (by omega) ⟨rc_1 rfl rfl rfl rfl hB rfl rc_0, ?_⟩)
      (repeat (first | refine d_ok rfl rfl rfl ?_ | refine d_no rfl rfl ?_))
      refine d_e0 rfl rfl ?_
      refine ef_st hS 2 rfl rfl rfl rfl (Nat.le_of_ble_eq_true rfl) rfl fun w' hS => ⟨rc_0, ?_⟩
      exact d_fin (g_jx (g, _) ⟨rfl, rfl, trivial⟩ ⟨S, S1, hS.sel [0, 1, 3, 2] rfl rfl⟩)
  · clear hS hB
    rintro ⟨g5, v'⟩ T w' hT ⟨S, S1, hS⟩
    simp only at hS
    have hn : J.next ≤ 4611686018427387904 := by omega
    refine g_wkc hT ?_
    (repeat (first | refine g_sq ?_ | refine g_rg ?_ | refine g_r0 ?_ | refine g_ok rfl rfl ?_ | refine g_no rfl ?_ | refine g_no0 rfl ?_ | refine g_bk ?_ | refine g_b ?_ | refine g_sk ?_ | refine g_cT rfl ?_ | refine g_cF rfl ?_ | refine g_x rfl ?_ | refine g_lb ?_))
    refine g_lm rfl rfl (hS.b 3 rfl) (Nat.le_of_ble_eq_true rfl) ?_
    have hfr := St.frame (A := [_, _, _]) (B := [_]) hS
    refine g_cl rfl rfl (c93 (g := ⟨J.next, bs⟩) (many := (blk bs.length : Int)) hl hn hwt hfr.1 fun w' S S1 h' => ?_)
    have hS := hfr.2 w' _ h'
    clear hfr h'
    have e0 : J.append fr bk D bs = if (jwrite D (fr + J.used) ⟨J.next, bs⟩).2 ≠ 0 then ({ J with shut := true }, (jwrite D (fr + J.used) ⟨J.next, bs⟩).1, (jwrite D (fr + J.used) ⟨J.next, bs⟩).2) else ({ J with l := J.l ++ [⟨J.next, bs⟩], next := J.next + 1 }, (jwrite D (fr + J.used) ⟨J.next, bs⟩).1, 0) := by
      unfold Jou.append
      rw [if_neg (by simp [hsh]), if_neg hneg]
    generalize jwrite D (fr + J.used) ⟨J.next, bs⟩ = R at hS e0
    obtain ⟨D1, e1⟩ := R
    simp only at hS e0
    (repeat (first | refine g_sq ?_ | refine g_rg ?_ | refine g_r0 ?_ | refine g_ok rfl rfl ?_ | refine g_no rfl ?_ | refine g_no0 rfl ?_ | refine g_bk ?_ | refine g_b ?_ | refine g_sk ?_ | refine g_cT rfl ?_ | refine g_cF rfl ?_ | refine g_x rfl ?_ | refine g_lb ?_))
    refine g_cd rfl (fun hy => ?_) (fun hy => ?_)
    all_goals simp only [cmv, Bool.not_eq_true', Bool.not_eq_false', decide_eq_true_eq, decide_eq_false_iff_not] at hy
    · rw [if_pos hy] at e0
      rw [e0] at h
      obtain ⟨vl, Z, k1, k2, k3, k4, hS⟩ := JouR.opn hS
      (repeat (first | refine g_sq ?_ | refine g_rg ?_ | refine g_r0 ?_ | refine g_ok rfl rfl ?_ | refine g_no rfl ?_ | refine g_no0 rfl ?_ | refine g_bk ?_ | refine g_b ?_ | refine g_sk ?_ | refine g_cT rfl ?_ | refine g_cF rfl ?_ | refine g_x rfl ?_ | refine g_lb ?_))
      refine g_ef0 rfl (ef_st hS 0 rfl rfl rfl rfl (Nat.le_of_ble_eq_true rfl) rfl fun w' hS => ?_)
      have hS : St w S0 w' (cel jb (JouC (dp d) fr bk vl { J with shut := true }) 94 :: row vl 134 3 Z.length (gz Z) :: gp Z :: DevR S1 d D1 :: _) := hS
      obtain ⟨S', hS⟩ := JouR.cls (J := { J with shut := true }) k1 k2 k3 k4 hS
      (repeat (first | refine g_sq ?_ | refine g_rg ?_ | refine g_r0 ?_ | refine g_ok rfl rfl ?_ | refine g_no rfl ?_ | refine g_no0 rfl ?_ | refine g_bk ?_ | refine g_b ?_ | refine g_sk ?_ | refine g_cT rfl ?_ | refine g_cF rfl ?_ | refine g_x rfl ?_ | refine g_lb ?_))
      exact g_ret (q_1 rfl (h _ _ _ (hS.sel [0, 1] rfl rfl)))
    · rw [if_neg (by simpa using hy)] at e0
      rw [e0] at h
      (repeat (first | refine g_sq ?_ | refine g_rg ?_ | refine g_r0 ?_ | refine g_ok rfl rfl ?_ | refine g_no rfl ?_ | refine g_no0 rfl ?_ | refine g_bk ?_ | refine g_b ?_ | refine g_sk ?_ | refine g_cT rfl ?_ | refine g_cF rfl ?_ | refine g_x rfl ?_ | refine g_lb ?_))
      refine g_dr mixed ?_
      have hS := hS.drew
      obtain ⟨vl, Z, k1, k2, k3, k4, hS⟩ := JouR.opn hS
      have hZl : Z.length = J.l.length := by rw [← k4, List.length_map]
      have hlen : Z.length ≤ 4096 := by have := usedOf_len J.l; have := k1.1; unfold Jou.used at this; omega
      obtain ⟨av, cv, rfl⟩ := hS.rlen 1 rfl
      obtain ⟨a', c', rfl⟩ := hS.rlen 4 rfl
      (repeat (first | refine d_ok rfl rfl rfl ?_ | refine d_no rfl rfl ?_))
      refine d_l1 rfl rfl rfl (hS.b 0 rfl) rfl ?_
      refine d_lm rfl rfl rfl (hS.b 5 rfl) (Nat.le_of_ble_eq_true rfl) ?_
      (repeat (first | refine d_ok rfl rfl rfl ?_ | refine d_no rfl rfl ?_))
      refine d_l1 rfl rfl rfl (hS.b 5 rfl) rfl ?_
      refine d_rq rfl rfl rfl (in64 (by simp only [arv]; omega)) ?_
      rw [show arv BinOp.add (J.next : Int) 1 = ((J.next + 1 : Nat) : Int) by simp only [arv]; omega]
      refine d_e rfl rfl ?_
      refine ef_bl (rs := gv1 (⟨J.next, bs⟩, .slice a' bs.length c')) hS rfl fun g7 w' hS => ⟨rc_1 rfl rfl rfl rfl (hS.b 0 rfl) rfl (rc_1 rfl rfl rfl rfl (hS.b 5 rfl) rfl rc_0), ?_⟩
      refine d_e rfl rfl ?_
      refine ef_ap (n := Z.length) (m := 1) (ys := gv1 (⟨J.next, bs⟩, .slice a' bs.length c')) hS 1 rfl rfl rfl (.inl ⟨134, .inr ⟨g7, 0, 1, _, rfl, Nat.le_refl _, Nat.le_refl _, rfl, (hS.b 6 rfl).r⟩⟩) rfl (by omega) (by omega) fun vl1 w' hS => ⟨rc_1 rfl rfl rfl rfl (hS.b 5 rfl) rfl rc_0, ?_⟩
      obtain ⟨av1, cv1, rfl⟩ := hS.rlen 1 rfl
      (repeat (first | refine d_ok rfl rfl rfl ?_ | refine d_no rfl rfl ?_))
      refine d_e0 rfl rfl ?_
      refine ef_st hS 0 rfl rfl rfl rfl (Nat.le_of_ble_eq_true rfl) rfl fun w' hS => ⟨rc_1 rfl rfl rfl rfl (hS.b 5 rfl) rfl rc_0, ?_⟩
      (repeat (first | refine d_ok rfl rfl rfl ?_ | refine d_no rfl rfl ?_))
      refine d_e0 rfl rfl ?_
      refine ef_st hS 0 rfl rfl rfl rfl (Nat.le_of_ble_eq_true rfl) rfl fun w' hS => ⟨rc_0, ?_⟩
      have hS := hS.pool_add (M := Z.map fun z => (z.2, z.1.b)) (v := .slice a' bs.length c') (bs := bs) 2 4 rfl rfl (by decide)
      have hS : St w S0 w' [cel jb (JouC (dp d) fr bk (.slice av1 (Z.length + 1) cv1) { J with l := J.l ++ [⟨J.next, bs⟩], next := J.next + 1 }) 94, row (.slice av1 (Z.length + 1) cv1) 134 3 (Z.length + 1) (gz Z ++ gv1 (⟨J.next, bs⟩, .slice a' bs.length c')), pool ((Z.map fun z => (z.2, z.1.b)) ++ [(.slice a' bs.length c', bs)]), DevR S1 d D1] := hS.sel [0, 1, 2, 3] rfl rfl
      have e2 : (Z ++ [((⟨J.next, bs⟩ : Grp), Value.slice a' bs.length c')]).length = Z.length + 1 := by simp
      have e3 : gp (Z ++ [((⟨J.next, bs⟩ : Grp), Value.slice a' bs.length c')]) = pool ((Z.map fun z => (z.2, z.1.b)) ++ [(.slice a' bs.length c', bs)]) := by simp [gp]
      have e4 : usedOf (J.l ++ [(⟨J.next, bs⟩ : Grp)]) = usedOf J.l + blk bs.length := by rw [usedOf_app]; simp [usedOf, Grp.many]
      rw [← gz_app, ← e3, ← e2] at hS
      obtain ⟨S', hS⟩ := JouR.cls (J := { J with l := J.l ++ [⟨J.next, bs⟩], next := J.next + 1 }) ⟨by
          show usedOf (J.l ++ [_]) ≤ bk
          have := k1.1
          unfold Jou.used at *
          unfold maxN at hneg
          omega, by show J.next + 1 ≤ _; omega, fun g hg => by
          rcases List.mem_append.1 hg with hg | hg
          · exact k1.2.2 g hg
          · simp at hg; subst hg; exact ⟨hl, hn⟩⟩ k2 k3 (by rw [List.map_append, k4]; rfl) hS
      refine d_fin ?_
      (repeat (first | refine g_sq ?_ | refine g_rg ?_ | refine g_r0 ?_ | refine g_ok rfl rfl ?_ | refine g_no rfl ?_ | refine g_no0 rfl ?_ | refine g_bk ?_ | refine g_b ?_ | refine g_sk ?_ | refine g_cT rfl ?_ | refine g_cF rfl ?_ | refine g_x rfl ?_ | refine g_lb ?_))
      exact g_ret (q_1 rfl (h _ _ _ hS))
theorem c42 {v : Value} {E : Nat} {bs : List UInt8} (hl : bs.length ≤ 1000000) (hwt : D.waits.length ≤ 1000000) (hb : Rd v E 1 bs.length (bys bs) w) (hd : ∀ x, vb v x → ¬ S x ∧ ¬ S1 x) (hS : St w0 S0 w (JouR S jb d fr bk J :: DevR S1 d D :: B))
    (h : ∀ w' S' S1', St w0 S0 w' (JouR S' jb d fr bk (J.append fr bk D bs).1 :: DevR S1' d (J.append fr bk D bs).2.1 :: B) → K (.int .i64 (J.append fr bk D bs).2.2) w') : CK Try.prog 42 [dp jb, v] w K := by
  have hf := St.frame (A := [JouR S jb d fr bk J, DevR S1 d D]) (B := B) hS
  refine b42 hl hwt hb (fun x hx => ?_) hf.1 fun w' S' S1' h' => h w' S' S1' (hf.2 w' _ h')
  rintro ⟨j, r, hj, hr⟩
  match j, hj with
  | 0, hj => cases hj; exact (hd x hx).1 hr
  | 1, hj => cases hj; exact (hd x hx).2 hr
end
end Go.Proofs.Ytegjocpjmfaigaa
