/- The journal writes a group. -/
import Derived.Test.YtegjocpjmfaigaaJe
set_option linter.unusedSimpArgs false
set_option linter.unusedVariables false
namespace Go.Proofs.Ytegjocpjmfaigaa
open Go.En

/-- a group's data blocks are written: the device, its error, where it came to -/
def jdata (D : Dev) (i : Nat) (rest : List UInt8) : Dev × Int × Nat :=
  if h : rest = [] then (D, 0, i) else
    if (D.write i (1 :: rest.take 119)).2 ≠ 0 then ((D.write i (1 :: rest.take 119)).1, (D.write i (1 :: rest.take 119)).2, i) else jdata (D.write i (1 :: rest.take 119)).1 (i + 1) (rest.drop 119)
termination_by rest.length
decreasing_by
  have : 0 < rest.length := List.length_pos_iff.2 h
  simp only [List.length_drop]
  omega
def jwrite (D : Dev) (i : Nat) (g : Grp) : Dev × Int :=
  let r := jdata D i g.b
  if r.2.1 ≠ 0 then (r.1, r.2.1) else
    if r.1.sync.2 ≠ 0 then r.1.sync else
      let c := r.1.sync.1.write r.2.2 (endedB g.n g.b)
      if c.2 ≠ 0 then c else c.1.sync
section
variable {w w0 : World} {S0 S S1 : Nat → Prop} {K : Value → World → Prop} {jb d fr bk : Nat} {J : Jou} {D : Dev} {B L : List Res} {vl : Value} {Z : GZ}
set_option maxRecDepth 100000 in
theorem c93 {g : Grp} {vb : Value} {many : Int} (hl : g.b.length ≤ 1000000) (hn : g.n ≤ 4611686018427387904) (hwt : D.waits.length ≤ 1000000) (hS : St w0 S0 w [JouR S jb d fr bk J, DevR S1 d D, row vb 5 1 g.b.length (bys g.b)])
    (h : ∀ w' S' S1', St w0 S0 w' [JouR S' jb d fr bk J, DevR S1' d (jwrite D (fr + J.used) g).1, row vb 5 1 g.b.length (bys g.b)] → K (.int .i64 (jwrite D (fr + J.used) g).2) w') : CK Try.prog 93 [dp jb, .agg ⟨[.int .i64 g.n, vb, .int .i64 many]⟩] w K := by
  obtain ⟨ab, cb, rfl⟩ := hS.rlen 2 rfl
  obtain ⟨hw, hb4, hf4, _, _⟩ := JouR.blk hS
  have hu := hw.1
  refine call_k Try.func93 k93 Try.ntmps93 (Nat.le_of_ble_eq_true rfl) ?_
  (repeat (first | refine g_sq ?_ | refine g_rg ?_ | refine g_r0 ?_ | refine g_ok rfl rfl ?_ | refine g_no rfl ?_ | refine g_no0 rfl ?_ | refine g_bk ?_ | refine g_b ?_ | refine g_sk ?_ | refine g_cT rfl ?_ | refine g_cF rfl ?_ | refine g_x rfl ?_ | refine g_lb ?_))
  refine g_ef rfl (ef_bx hS rfl fun b3 w hS => ?_)
  have hS : St w0 S0 w [JouR S jb d fr bk J, DevR S1 d D, row (.slice ab g.b.length cb) 5 1 g.b.length (bys g.b), cel b3 [.int .i64 g.n, .slice ab g.b.length cb, .int .i64 many] 134] := hS
  (repeat (first | refine g_sq ?_ | refine g_rg ?_ | refine g_r0 ?_ | refine g_ok rfl rfl ?_ | refine g_no rfl ?_ | refine g_no0 rfl ?_ | refine g_bk ?_ | refine g_b ?_ | refine g_sk ?_ | refine g_cT rfl ?_ | refine g_cF rfl ?_ | refine g_x rfl ?_ | refine g_lb ?_))
  refine g_dr mixed ?_
  have hS := hS.drew
  obtain ⟨_, _, _, vl, hB⟩ := JouR.blk hS
  (repeat (first | refine d_ok rfl rfl rfl ?_ | refine d_no rfl rfl ?_))
  refine d_l1 rfl rfl rfl hB rfl ?_
  (repeat (first | refine d_ok rfl rfl rfl ?_ | refine d_no rfl rfl ?_))
  refine d_cl rfl rfl rfl (c43 hS fun w S hS => ?_)
  obtain ⟨_, _, _, vl', hB'⟩ := JouR.blk hS
  refine ⟨rc_1 rfl rfl rfl rfl hB' rfl rc_0, ?_⟩
  refine d_rq rfl rfl rfl (in64 (by simp only [arv]; omega)) ?_
  rw [show arv BinOp.add (fr : Int) (J.used : Int) = ((fr + J.used : Nat) : Int) by simp only [arv]; omega]
  (repeat (first | refine d_ok rfl rfl rfl ?_ | refine d_no rfl rfl ?_))
  refine d_fin ?_
  (repeat (first | refine g_sq ?_ | refine g_rg ?_ | refine g_r0 ?_ | refine g_ok rfl rfl ?_ | refine g_no rfl ?_ | refine g_no0 rfl ?_ | refine g_bk ?_ | refine g_b ?_ | refine g_sk ?_ | refine g_cT rfl ?_ | refine g_cF rfl ?_ | refine g_x rfl ?_ | refine g_lb ?_))
  refine g_l1 rfl rfl (hS.b  3 rfl) rfl ?_
  (repeat (first | refine g_sq ?_ | refine g_rg ?_ | refine g_r0 ?_ | refine g_ok rfl rfl ?_ | refine g_no rfl ?_ | refine g_no0 rfl ?_ | refine g_bk ?_ | refine g_b ?_ | refine g_sk ?_ | refine g_cT rfl ?_ | refine g_cF rfl ?_ | refine g_x rfl ?_ | refine g_lb ?_))
  refine g_lp (ι := Nat × Value × List UInt8 × Dev) (fun x => [(0, dp jb), (3, dp b3), (5, .int .i64 x.1), (6, x.2.1)])
    (fun x w => ∃ S S1, (∀ w, Rd (.slice ab g.b.length cb) 5 1 g.b.length (bys g.b) w → Rd x.2.1 5 1 x.2.2.1.length (bys x.2.2.1) w) ∧ jdata x.2.2.2 x.1 x.2.2.1 = jdata D (fr + J.used) g.b ∧ x.2.2.2.waits.length + x.2.2.1.length ≤ 2000000 ∧ x.1 + x.2.2.1.length ≤ 1008192 ∧
      St w0 S0 w [JouR S jb d fr bk J, DevR S1 d x.2.2.2, row (.slice ab g.b.length cb) 5 1 g.b.length (bys g.b), cel b3 [.int .i64 g.n, .slice ab g.b.length cb, .int .i64 many] 134]) (fun x => x.2.2.1.length) (fr + J.used, .slice ab g.b.length cb, g.b, D) ⟨rfl, rfl, rfl, rfl, trivial⟩
    ⟨S, S1, fun _ h => h, rfl, by simp only; omega, by simp only; omega, hS⟩ ?_
  clear hS hB hB' hwt
  rintro ⟨i, vr, rest, D1⟩ w ⟨S, S1, himp, hjd, hwt, hil, hS⟩
  simp only at himp hjd hwt hil hS
  have hr := himp w (Ow.rd (hS.ok 2 _ rfl))
  obtain ⟨ar, cr, rfl⟩ := Rd.form hr
  (repeat (first | refine g_sq ?_ | refine g_rg ?_ | refine g_r0 ?_ | refine g_ok rfl rfl ?_ | refine g_no rfl ?_ | refine g_no0 rfl ?_ | refine g_bk ?_ | refine g_b ?_ | refine g_sk ?_ | refine g_cT rfl ?_ | refine g_cF rfl ?_ | refine g_x rfl ?_ | refine g_lb ?_))
  refine g_cd rfl (fun hc => ?_) (fun hc => ?_)
  all_goals simp only [cmv, decide_eq_true_eq, decide_eq_false_iff_not] at hc
  · -- a data block
    have hne : rest ≠ [] := by rintro rfl; simp at hc
    have hmin : min (rest.length : Int) 119 = ((min rest.length 119 : Nat) : Int) := by omega
    have htl : (rest.take 119).length = min rest.length 119 := by rw [List.length_take]; omega
    rw [jdata, dif_neg hne] at hjd
    (repeat (first | refine g_sq ?_ | refine g_rg ?_ | refine g_r0 ?_ | refine g_ok rfl rfl ?_ | refine g_no rfl ?_ | refine g_no0 rfl ?_ | refine g_bk ?_ | refine g_b ?_ | refine g_sk ?_ | refine g_cT rfl ?_ | refine g_cF rfl ?_ | refine g_x rfl ?_ | refine g_lb ?_))
    rw [hmin]
    refine g_dr mixed ?_
    have hS := hS.drew
    obtain ⟨_, _, _, vl, hB⟩ := JouR.blk hS
    have hr := himp _ (Ow.rd (hS.ok 2 _ rfl))
    obtain ⟨b1, o1, c1, l1, hv1, _⟩ := Rd.block hr (by omega)
    cases hv1
    (repeat (first | refine d_ok rfl rfl rfl ?_ | refine d_no rfl rfl ?_))
    refine d_l1 rfl rfl rfl hB rfl ?_
    (repeat (first | refine d_ok rfl rfl rfl ?_ | refine d_no rfl rfl ?_))
    have hcap : rest.length ≤ cr := by
      rcases hr with ⟨⟨_, h⟩, hz, _⟩ | ⟨_, _, _, _, h, hle, _⟩
      · omega
      · cases h; exact hle
    refine d_rq rfl rfl rfl ⟨Int.le_refl _, by omega, by omega, by omega⟩ ?_
    have ht := Rd.take (k := min rest.length 119) hr (by omega)
    refine d_e rfl rfl ?_
    refine ef_bl (rs := [.int .u8 1]) hS rfl fun gd w hS => ?_
    obtain ⟨_, _, _, vl, hB⟩ := JouR.blk hS
    refine ⟨rc_1 rfl rfl rfl rfl hB rfl rc_0, ?_⟩
    have hS := hS.close_row (sz := 1) (n := 1) (cap := 1) (xs := [.int .u8 1]) 4 rfl (Nat.le_refl _) rfl (List.prefix_refl _) rfl
    have hr2 := himp _ (Ow.rd (hS.ok 2 _ rfl))
    have ht2 := Rd.take (k := min rest.length 119) hr2 (by omega)
    refine d_e rfl rfl ?_
    refine ef_ap (n := 1) (m := min rest.length 119) (xs := [.int .u8 1]) hS 4 rfl rfl rfl (.inl ⟨5, ht2⟩) (by rw [bys_take]; exact bys_one _) (by omega) (by omega) fun v' w hS => ?_
    obtain ⟨_, _, _, vl, hB⟩ := JouR.blk hS
    refine ⟨rc_1 rfl rfl rfl rfl hB rfl rc_0, ?_⟩
    have hbs : [Value.int .u8 1] ++ List.take (min rest.length 119) (bys rest) = bys (1 :: rest.take 119) := by
      rw [bys_take, show List.take (min rest.length 119) rest = rest.take 119 by
        rcases Nat.le_total rest.length 119 with h | h
        · rw [Nat.min_eq_left h, List.take_of_length_le (Nat.le_refl _), List.take_of_length_le h]
        · rw [Nat.min_eq_right h]]
      rfl
    rw [hbs] at hS
    have hS := hS.sel [1, 0, 2, 3, 4] rfl rfl
    refine d_cl rfl rfl rfl (c23 (bs := 1 :: rest.take 119) hS (Ow.rd (hS.ok 4 _ rfl)) (fun x hx hs => hS.dis 0 4 _ _ rfl rfl (by decide) x hs (vb_vo hx)) (by omega) fun w S2 hS => ⟨rc_0, ?_⟩)
    have hS := hS.sel [1, 0, 2, 3] rfl rfl
    have hfit := (write_fit D1 i (1 :: rest.take 119)).2
    (repeat (first | refine d_ok rfl rfl rfl ?_ | refine d_no rfl rfl ?_))
    refine d_fin ?_
    (repeat (first | refine g_sq ?_ | refine g_rg ?_ | refine g_r0 ?_ | refine g_ok rfl rfl ?_ | refine g_no rfl ?_ | refine g_no0 rfl ?_ | refine g_bk ?_ | refine g_b ?_ | refine g_sk ?_ | refine g_cT rfl ?_ | refine g_cF rfl ?_ | refine g_x rfl ?_ | refine g_lb ?_))
    refine g_cd rfl (fun hz => ?_) (fun hz => ?_)
    all_goals simp only [cmv, Bool.not_eq_true', Bool.not_eq_false', decide_eq_true_eq, decide_eq_false_iff_not] at hz
    · rw [if_pos hz] at hjd
      have e : jwrite D (fr + J.used) g = ((D1.write i (1 :: rest.take 119)).1, (D1.write i (1 :: rest.take 119)).2) := by
        unfold jwrite
        simp only [← hjd]
        rw [if_pos hz]
      rw [e] at h
      (repeat (first | refine g_sq ?_ | refine g_rg ?_ | refine g_r0 ?_ | refine g_ok rfl rfl ?_ | refine g_no rfl ?_ | refine g_no0 rfl ?_ | refine g_bk ?_ | refine g_b ?_ | refine g_sk ?_ | refine g_cT rfl ?_ | refine g_cF rfl ?_ | refine g_x rfl ?_ | refine g_lb ?_))
      exact g_ret (q_1 rfl (h _ _ _ (hS.sel [0, 1, 2] rfl rfl)))
    · rw [if_neg (by simpa using hz)] at hjd
      (repeat (first | refine g_sq ?_ | refine g_rg ?_ | refine g_r0 ?_ | refine g_ok rfl rfl ?_ | refine g_no rfl ?_ | refine g_no0 rfl ?_ | refine g_bk ?_ | refine g_b ?_ | refine g_sk ?_ | refine g_cT rfl ?_ | refine g_cF rfl ?_ | refine g_x rfl ?_ | refine g_lb ?_))
      refine g_rq rfl rfl ⟨by omega, by omega, by omega, by omega⟩ ?_
      (repeat (first | refine g_sq ?_ | refine g_rg ?_ | refine g_r0 ?_ | refine g_ok rfl rfl ?_ | refine g_no rfl ?_ | refine g_no0 rfl ?_ | refine g_bk ?_ | refine g_b ?_ | refine g_sk ?_ | refine g_cT rfl ?_ | refine g_cF rfl ?_ | refine g_x rfl ?_ | refine g_lb ?_))
      refine g_rq rfl rfl (in64 (by simp only [arv]; omega)) ?_
      (repeat (first | refine g_sq ?_ | refine g_rg ?_ | refine g_r0 ?_ | refine g_ok rfl rfl ?_ | refine g_no rfl ?_ | refine g_no0 rfl ?_ | refine g_bk ?_ | refine g_b ?_ | refine g_sk ?_ | refine g_cT rfl ?_ | refine g_cF rfl ?_ | refine g_x rfl ?_ | refine g_lb ?_))
      have hdl : (rest.drop 119).length = rest.length - min rest.length 119 := by rw [List.length_drop]; omega
      refine g_l (i + 1, _, rest.drop 119, (D1.write i (1 :: rest.take 119)).1) ⟨rfl, rfl, rfl, rfl, trivial⟩ ⟨S, S2, fun w hw => ?_, hjd, by simp only [List.length_drop]; omega, by simp only [List.length_drop]; omega, hS⟩ (by simp only [List.length_drop]; omega)
      have hd := Rd.drop (x := .tmp 43) (k := min rest.length 119) (himp w hw) (by omega)
      simp only
      rw [hdl]
      rw [bys_drop, show List.drop (min rest.length 119) rest = rest.drop 119 by
        rcases Nat.le_total rest.length 119 with h | h
        · rw [Nat.min_eq_left h, List.drop_of_length_le (Nat.le_refl _), List.drop_of_length_le h]
        · rw [Nat.min_eq_right h]] at hd
      exact hd
  · have hnil : rest = [] := List.eq_nil_of_length_eq_zero (by omega)
    subst hnil
    rw [jdata, dif_pos rfl] at hjd
    (repeat (first | refine g_sq ?_ | refine g_rg ?_ | refine g_r0 ?_ | refine g_ok rfl rfl ?_ | refine g_no rfl ?_ | refine g_no0 rfl ?_ | refine g_bk ?_ | refine g_b ?_ | refine g_sk ?_ | refine g_cT rfl ?_ | refine g_cF rfl ?_ | refine g_x rfl ?_ | refine g_lb ?_))
    obtain ⟨_, _, _, vl, hB⟩ := JouR.blk hS
    refine g_l1 rfl rfl hB rfl ?_
    have hS := hS.sel [1, 0, 2, 3] rfl rfl
    refine g_cl rfl rfl (c24 hS fun w S2 hS => ?_)
    have hS := hS.sel [1, 0, 2, 3] rfl rfl
    have hsf := (sync_fit D1).2
    (repeat (first | refine g_sq ?_ | refine g_rg ?_ | refine g_r0 ?_ | refine g_ok rfl rfl ?_ | refine g_no rfl ?_ | refine g_no0 rfl ?_ | refine g_bk ?_ | refine g_b ?_ | refine g_sk ?_ | refine g_cT rfl ?_ | refine g_cF rfl ?_ | refine g_x rfl ?_ | refine g_lb ?_))
    refine g_cd rfl (fun hz => ?_) (fun hz => ?_)
    all_goals simp only [cmv, Bool.not_eq_true', Bool.not_eq_false', decide_eq_true_eq, decide_eq_false_iff_not] at hz
    · have e : jwrite D (fr + J.used) g = D1.sync := by
        unfold jwrite
        simp only [← hjd]
        rw [if_neg (by simp), if_pos hz]
      rw [e] at h
      (repeat (first | refine g_sq ?_ | refine g_rg ?_ | refine g_r0 ?_ | refine g_ok rfl rfl ?_ | refine g_no rfl ?_ | refine g_no0 rfl ?_ | refine g_bk ?_ | refine g_b ?_ | refine g_sk ?_ | refine g_cT rfl ?_ | refine g_cF rfl ?_ | refine g_x rfl ?_ | refine g_lb ?_))
      exact g_ret (q_1 rfl (h _ _ _ (hS.sel [0, 1, 2] rfl rfl)))
    · (repeat (first | refine g_sq ?_ | refine g_rg ?_ | refine g_r0 ?_ | refine g_ok rfl rfl ?_ | refine g_no rfl ?_ | refine g_no0 rfl ?_ | refine g_bk ?_ | refine g_b ?_ | refine g_sk ?_ | refine g_cT rfl ?_ | refine g_cF rfl ?_ | refine g_x rfl ?_ | refine g_lb ?_))
      refine g_dr mixed ?_
      have hS := hS.drew
      obtain ⟨_, _, _, vl, hB⟩ := JouR.blk hS
      (repeat (first | refine d_ok rfl rfl rfl ?_ | refine d_no rfl rfl ?_))
      refine d_l1 rfl rfl rfl hB rfl ?_
      (repeat (first | refine d_ok rfl rfl rfl ?_ | refine d_no rfl rfl ?_))
      refine d_l1 rfl rfl rfl (hS.b 3 rfl) rfl ?_
      (repeat (first | refine d_ok rfl rfl rfl ?_ | refine d_no rfl rfl ?_))
      refine d_l1 rfl rfl rfl (hS.b 3 rfl) rfl ?_
      refine d_cl rfl rfl rfl (c116 (bs := g.b) (by omega) hS (Ow.rd (hS.ok 2 _ rfl)) hl fun v' w hS => ?_)
      obtain ⟨_, _, _, vl, hB⟩ := JouR.blk hS
      refine ⟨rc_1 rfl rfl rfl rfl hB rfl rc_0, ?_⟩
      have hS := hS.sel [1, 0, 2, 3, 4] rfl rfl
      have hel := endedB_len g.n g.b
      refine d_cl rfl rfl rfl (c23 (bs := endedB g.n g.b) hS (Ow.rd (hS.ok 4 _ rfl)) (fun x hx hs => hS.dis 0 4 _ _ rfl rfl (by decide) x hs (vb_vo hx)) (by omega) fun w S3 hS => ⟨rc_0, ?_⟩)
      have hS := hS.sel [1, 0, 2, 3] rfl rfl
      (repeat (first | refine d_ok rfl rfl rfl ?_ | refine d_no rfl rfl ?_))
      refine d_fin ?_
      (repeat (first | refine g_sq ?_ | refine g_rg ?_ | refine g_r0 ?_ | refine g_ok rfl rfl ?_ | refine g_no rfl ?_ | refine g_no0 rfl ?_ | refine g_bk ?_ | refine g_b ?_ | refine g_sk ?_ | refine g_cT rfl ?_ | refine g_cF rfl ?_ | refine g_x rfl ?_ | refine g_lb ?_))
      refine g_cd rfl (fun hy => ?_) (fun hy => ?_)
      all_goals simp only [cmv, Bool.not_eq_true', Bool.not_eq_false', decide_eq_true_eq, decide_eq_false_iff_not] at hy
      · have e : jwrite D (fr + J.used) g = D1.sync.1.write i (endedB g.n g.b) := by
          unfold jwrite
          simp only [← hjd]
          rw [if_neg (by simp), if_neg (by simpa using hz), if_pos hy]
        rw [e] at h
        (repeat (first | refine g_sq ?_ | refine g_rg ?_ | refine g_r0 ?_ | refine g_ok rfl rfl ?_ | refine g_no rfl ?_ | refine g_no0 rfl ?_ | refine g_bk ?_ | refine g_b ?_ | refine g_sk ?_ | refine g_cT rfl ?_ | refine g_cF rfl ?_ | refine g_x rfl ?_ | refine g_lb ?_))
        exact g_ret (q_1 rfl (h _ _ _ (hS.sel [0, 1, 2] rfl rfl)))
      · have e : jwrite D (fr + J.used) g = (D1.sync.1.write i (endedB g.n g.b)).1.sync := by
          unfold jwrite
          simp only [← hjd]
          rw [if_neg (by simp), if_neg (by simpa using hz), if_neg (by simpa using hy)]
        rw [e] at h
        (repeat (first | refine g_sq ?_ | refine g_rg ?_ | refine g_r0 ?_ | refine g_ok rfl rfl ?_ | refine g_no rfl ?_ | refine g_no0 rfl ?_ | refine g_bk ?_ | refine g_b ?_ | refine g_sk ?_ | refine g_cT rfl ?_ | refine g_cF rfl ?_ | refine g_x rfl ?_ | refine g_lb ?_))
        obtain ⟨_, _, _, vl, hB⟩ := JouR.blk hS
        refine g_l1 rfl rfl hB rfl ?_
        have hS := hS.sel [1, 0, 2, 3] rfl rfl
        refine g_cl rfl rfl (c24 hS fun w S4 hS => ?_)
        (repeat (first | refine g_sq ?_ | refine g_rg ?_ | refine g_r0 ?_ | refine g_ok rfl rfl ?_ | refine g_no rfl ?_ | refine g_no0 rfl ?_ | refine g_bk ?_ | refine g_b ?_ | refine g_sk ?_ | refine g_cT rfl ?_ | refine g_cF rfl ?_ | refine g_x rfl ?_ | refine g_lb ?_))
        exact g_ret (q_1 rfl (h _ _ _ (hS.sel [1, 0, 2] rfl rfl)))
end
end Go.Proofs.Ytegjocpjmfaigaa
