/- The statement JournalPlays: both are opened; something is done to both; both say the same. -/
import Derived.Test.YtegjocpjmfaigaaOg
set_option linter.unusedSimpArgs false
set_option linter.unusedVariables false
namespace Go.Proofs.Ytegjocpjmfaigaa
open Go.En

def playC (d r : Nat) (vj vs : Value) (f b : Int) : List Value := [dp d, dp r, vj, vs, .int .i64 f, .int .i64 b]
/-- what is held of a play -/
def PlL (p d r jb sb f b : Nat) (S1 S2 S3 S4 : Nat → Prop) (J : Jou) (D : Dev) : List Res :=
  [cel p (playC d r (dp jb) (dp sb) f b) 86, JouR S1 jb d f b J, DevR S2 d D, RjoR S3 sb r f b J, RefR S4 r D]
section
variable {w w0 : World} {S0 S S' S1 : Nat → Prop} {K : Value → World → Prop} {p d r jb sb : Nat} {J : Jou} {D : Dev} {B L : List Res} {vl v : Value} {Z : GZ}
set_option maxRecDepth 100000 in
theorem l52 {vj vs : Value} {f b : Int} (hl : D.cells.length ≤ 4096) (hS : St w0 S0 w [cel p (playC d r vj vs f b) 86, DevR S d D, RefR S' r D])
    (h1 : (badA D f b ∨ D.down = true) → ∀ w', St w0 S0 w' [cel p (playC d r (.pointer none) (.pointer none) f b) 86, DevR S d D, RefR S' r D] → K (.bool true) w')
    (h2 : ¬ badA D f b → D.down = false → ∀ w' jb sb S1 S2 S3 S4, St w0 S0 w' [cel p (playC d r (dp jb) (dp sb) f b) 86, JouR S1 jb d f.toNat b.toNat (openJ D f.toNat b.toNat), DevR S2 d D, RjoR S3 sb r f.toNat b.toNat (openJ D f.toNat b.toNat), RefR S4 r D] → K (.bool true) w') : CK Try.prog 52 [dp p] w K := by
  refine call_k Try.func52 k52 Try.ntmps52 (Nat.le_of_ble_eq_true rfl) ?_
  (repeat (first | refine g_sq ?_ | refine g_rg ?_ | refine g_r0 ?_ | refine g_ok rfl rfl ?_ | refine g_no rfl ?_ | refine g_no0 rfl ?_ | refine g_bk ?_ | refine g_b ?_ | refine g_sk ?_ | refine g_cT rfl ?_ | refine g_cF rfl ?_ | refine g_x rfl ?_ | refine g_lb ?_))
  refine g_dr mixed ?_
  have hS := hS.drew
  (repeat (first | refine d_ok rfl rfl rfl ?_ | refine d_no rfl rfl ?_))
  refine d_l1 rfl rfl rfl (hS.b 0 rfl) rfl ?_
  (repeat (first | refine d_ok rfl rfl rfl ?_ | refine d_no rfl rfl ?_))
  refine d_l1 rfl rfl rfl (hS.b 0 rfl) rfl ?_
  (repeat (first | refine d_ok rfl rfl rfl ?_ | refine d_no rfl rfl ?_))
  refine d_l1 rfl rfl rfl (hS.b 0 rfl) rfl ?_
  have hS := hS.sel [1, 0, 2] rfl rfl
  have rest : ∀ {T : TT} {D0 : List Deferred} {w : World} {L : List Res} {vj' vs' : Value} {ej : Int} {c : Bool}, L[0]? = some (cel p (playC d r vj vs f b) 86) → True := fun _ => trivial
  clear rest
  refine d_cl rfl rfl rfl (c39 hl hS (fun hb => ⟨rc_0, ?_⟩) (fun hb hd => ⟨rc_0, ?_⟩) (fun hb hd w S1 S2 jb hS => ⟨rc_0, ?_⟩))
  · (repeat (first | refine d_ok rfl rfl rfl ?_ | refine d_no rfl rfl ?_))
    refine d_fin ?_
    refine g_sq ?_
    refine g_dr mixed ?_
    have hS := hS.drew
    (repeat (first | refine d_ok rfl rfl rfl ?_ | refine d_no rfl rfl ?_))
    refine d_l1 rfl rfl rfl (hS.b 1 rfl) rfl ?_
    (repeat (first | refine d_ok rfl rfl rfl ?_ | refine d_no rfl rfl ?_))
    refine d_l1 rfl rfl rfl (hS.b 1 rfl) rfl ?_
    (repeat (first | refine d_ok rfl rfl rfl ?_ | refine d_no rfl rfl ?_))
    refine d_l1 rfl rfl rfl (hS.b 1 rfl) rfl ?_
    have hS := hS.sel [2, 1, 0] rfl rfl
    refine d_cl rfl rfl rfl (c94 hl hS (fun _ => ⟨rc_0, ?_⟩) (fun hb' => absurd hb hb') (fun hb' => absurd hb hb'))
    (repeat (first | refine d_ok rfl rfl rfl ?_ | refine d_no rfl rfl ?_))
    refine d_fin ?_
    (repeat (first | refine g_sq ?_ | refine g_rg ?_ | refine g_r0 ?_ | refine g_ok rfl rfl ?_ | refine g_no rfl ?_ | refine g_no0 rfl ?_ | refine g_bk ?_ | refine g_b ?_ | refine g_sk ?_ | refine g_cT rfl ?_ | refine g_cF rfl ?_ | refine g_x rfl ?_ | refine g_lb ?_))
    refine g_ef0 rfl (ef_st hS 1 rfl rfl rfl rfl (Nat.le_of_ble_eq_true rfl) rfl fun w hS => ?_)
    (repeat (first | refine g_sq ?_ | refine g_rg ?_ | refine g_r0 ?_ | refine g_ok rfl rfl ?_ | refine g_no rfl ?_ | refine g_no0 rfl ?_ | refine g_bk ?_ | refine g_b ?_ | refine g_sk ?_ | refine g_cT rfl ?_ | refine g_cF rfl ?_ | refine g_x rfl ?_ | refine g_lb ?_))
    refine g_ef0 rfl (ef_st hS 1 rfl rfl rfl rfl (Nat.le_of_ble_eq_true rfl) rfl fun w hS => ?_)
    (repeat (first | refine g_sq ?_ | refine g_rg ?_ | refine g_r0 ?_ | refine g_ok rfl rfl ?_ | refine g_no rfl ?_ | refine g_no0 rfl ?_ | refine g_bk ?_ | refine g_b ?_ | refine g_sk ?_ | refine g_cT rfl ?_ | refine g_cF rfl ?_ | refine g_x rfl ?_ | refine g_lb ?_))
    exact g_ret (q_1 rfl (h1 (.inl hb) _ (hS.sel [1, 2, 0] rfl rfl)))
  · (repeat (first | refine d_ok rfl rfl rfl ?_ | refine d_no rfl rfl ?_))
    refine d_fin ?_
    refine g_sq ?_
    refine g_dr mixed ?_
    have hS := hS.drew
    (repeat (first | refine d_ok rfl rfl rfl ?_ | refine d_no rfl rfl ?_))
    refine d_l1 rfl rfl rfl (hS.b 1 rfl) rfl ?_
    (repeat (first | refine d_ok rfl rfl rfl ?_ | refine d_no rfl rfl ?_))
    refine d_l1 rfl rfl rfl (hS.b 1 rfl) rfl ?_
    (repeat (first | refine d_ok rfl rfl rfl ?_ | refine d_no rfl rfl ?_))
    refine d_l1 rfl rfl rfl (hS.b 1 rfl) rfl ?_
    have hS := hS.sel [2, 1, 0] rfl rfl
    refine d_cl rfl rfl rfl (c94 hl hS (fun hb' => absurd hb' hb) (fun _ _ => ⟨rc_0, ?_⟩) (fun _ hd' => absurd hd (by simp [hd'])))
    (repeat (first | refine d_ok rfl rfl rfl ?_ | refine d_no rfl rfl ?_))
    refine d_fin ?_
    (repeat (first | refine g_sq ?_ | refine g_rg ?_ | refine g_r0 ?_ | refine g_ok rfl rfl ?_ | refine g_no rfl ?_ | refine g_no0 rfl ?_ | refine g_bk ?_ | refine g_b ?_ | refine g_sk ?_ | refine g_cT rfl ?_ | refine g_cF rfl ?_ | refine g_x rfl ?_ | refine g_lb ?_))
    refine g_ef0 rfl (ef_st hS 1 rfl rfl rfl rfl (Nat.le_of_ble_eq_true rfl) rfl fun w hS => ?_)
    (repeat (first | refine g_sq ?_ | refine g_rg ?_ | refine g_r0 ?_ | refine g_ok rfl rfl ?_ | refine g_no rfl ?_ | refine g_no0 rfl ?_ | refine g_bk ?_ | refine g_b ?_ | refine g_sk ?_ | refine g_cT rfl ?_ | refine g_cF rfl ?_ | refine g_x rfl ?_ | refine g_lb ?_))
    refine g_ef0 rfl (ef_st hS 1 rfl rfl rfl rfl (Nat.le_of_ble_eq_true rfl) rfl fun w hS => ?_)
    (repeat (first | refine g_sq ?_ | refine g_rg ?_ | refine g_r0 ?_ | refine g_ok rfl rfl ?_ | refine g_no rfl ?_ | refine g_no0 rfl ?_ | refine g_bk ?_ | refine g_b ?_ | refine g_sk ?_ | refine g_cT rfl ?_ | refine g_cF rfl ?_ | refine g_x rfl ?_ | refine g_lb ?_))
    exact g_ret (q_1 rfl (h1 (.inr hd) _ (hS.sel [1, 2, 0] rfl rfl)))
  · (repeat (first | refine d_ok rfl rfl rfl ?_ | refine d_no rfl rfl ?_))
    refine d_fin ?_
    refine g_sq ?_
    refine g_dr mixed ?_
    have hS := hS.drew
    (repeat (first | refine d_ok rfl rfl rfl ?_ | refine d_no rfl rfl ?_))
    refine d_l1 rfl rfl rfl (hS.b 2 rfl) rfl ?_
    (repeat (first | refine d_ok rfl rfl rfl ?_ | refine d_no rfl rfl ?_))
    refine d_l1 rfl rfl rfl (hS.b 2 rfl) rfl ?_
    (repeat (first | refine d_ok rfl rfl rfl ?_ | refine d_no rfl rfl ?_))
    refine d_l1 rfl rfl rfl (hS.b 2 rfl) rfl ?_
    have hS := hS.sel [3, 0, 1, 2] rfl rfl
    refine d_cl rfl rfl rfl (c94 hl hS (fun hb' => absurd hb' hb) (fun _ hd' => absurd hd (by simp [hd'])) (fun _ _ w S3 S4 sb hS => ⟨rc_0, ?_⟩))
    (repeat (first | refine d_ok rfl rfl rfl ?_ | refine d_no rfl rfl ?_))
    refine d_fin ?_
    (repeat (first | refine g_sq ?_ | refine g_rg ?_ | refine g_r0 ?_ | refine g_ok rfl rfl ?_ | refine g_no rfl ?_ | refine g_no0 rfl ?_ | refine g_bk ?_ | refine g_b ?_ | refine g_sk ?_ | refine g_cT rfl ?_ | refine g_cF rfl ?_ | refine g_x rfl ?_ | refine g_lb ?_))
    refine g_ef0 rfl (ef_st hS 4 rfl rfl rfl rfl (Nat.le_of_ble_eq_true rfl) rfl fun w hS => ?_)
    (repeat (first | refine g_sq ?_ | refine g_rg ?_ | refine g_r0 ?_ | refine g_ok rfl rfl ?_ | refine g_no rfl ?_ | refine g_no0 rfl ?_ | refine g_bk ?_ | refine g_b ?_ | refine g_sk ?_ | refine g_cT rfl ?_ | refine g_cF rfl ?_ | refine g_x rfl ?_ | refine g_lb ?_))
    refine g_ef0 rfl (ef_st hS 4 rfl rfl rfl rfl (Nat.le_of_ble_eq_true rfl) rfl fun w hS => ?_)
    (repeat (first | refine g_sq ?_ | refine g_rg ?_ | refine g_r0 ?_ | refine g_ok rfl rfl ?_ | refine g_no rfl ?_ | refine g_no0 rfl ?_ | refine g_bk ?_ | refine g_b ?_ | refine g_sk ?_ | refine g_cT rfl ?_ | refine g_cF rfl ?_ | refine g_x rfl ?_ | refine g_lb ?_))
    exact g_ret (q_1 rfl (h2 hb hd _ _ _ _ _ _ _ (hS.sel [4, 2, 3, 0, 1] rfl rfl)))
variable {f b : Nat} {S2 S3 S4 : Nat → Prop}
set_option maxRecDepth 100000 in
set_option maxHeartbeats 1000000 in
theorem l54 (hS : St w0 S0 w (PlL p d r jb sb f b S1 S2 S3 S4 J D)) (h : ∀ w' S1 S2 S3 S4, St w0 S0 w' (PlL p d r jb sb f b S1 S2 S3 S4 J D) → K (.bool true) w') : CK Try.prog 54 [dp p] w K := by
  unfold PlL at hS
  refine call_k Try.func54 k54 Try.ntmps54 (Nat.le_of_ble_eq_true rfl) ?_
  (repeat (first | refine g_sq ?_ | refine g_rg ?_ | refine g_r0 ?_ | refine g_ok rfl rfl ?_ | refine g_no rfl ?_ | refine g_no0 rfl ?_ | refine g_bk ?_ | refine g_b ?_ | refine g_sk ?_ | refine g_cT rfl ?_ | refine g_cF rfl ?_ | refine g_x rfl ?_ | refine g_lb ?_))
  refine g_l1 rfl rfl (hS.b  0 rfl) rfl ?_
  have hS := hS.sel [3, 0, 1, 2, 4] rfl rfl
  refine g_cl rfl rfl (c97 hS fun w hS => ?_)
  (repeat (first | refine g_sq ?_ | refine g_rg ?_ | refine g_r0 ?_ | refine g_ok rfl rfl ?_ | refine g_no rfl ?_ | refine g_no0 rfl ?_ | refine g_bk ?_ | refine g_b ?_ | refine g_sk ?_ | refine g_cT rfl ?_ | refine g_cF rfl ?_ | refine g_x rfl ?_ | refine g_lb ?_))
  refine g_l1 rfl rfl (hS.b  1 rfl) rfl ?_
  have hS := hS.sel [2, 0, 1, 3, 4] rfl rfl
  refine g_cl rfl rfl (c47o hS fun w S1 Z v hZ hS => ?_)
  have hS := hS.sel [3, 0, 1, 2, 4, 5, 6] rfl rfl
  obtain ⟨hw, hb4, hf4, _, _⟩ := RjoR.blk hS
  have hu := hw.1
  have hlen : (J.l.map Grp.b).length ≤ 4096 := by rw [List.length_map]; have := usedOf_len J.l; unfold Jou.used at hu; omega
  (repeat (first | refine g_sq ?_ | refine g_rg ?_ | refine g_r0 ?_ | refine g_ok rfl rfl ?_ | refine g_no rfl ?_ | refine g_no0 rfl ?_ | refine g_bk ?_ | refine g_b ?_ | refine g_sk ?_ | refine g_cT rfl ?_ | refine g_cF rfl ?_ | refine g_x rfl ?_ | refine g_lb ?_))
  refine g_atx (ι := Unit) 1 (fun _ => [(5, v), (6, .bool true)]) (fun _ w => ∃ S1 S2 S3 S4, St w0 S0 w [RjoR S3 sb r f b J, JouR S1 jb d f b J, row v 35 1 Z.length (Z.map Prod.fst), ows rbs Z, cel p (playC d r (dp jb) (dp sb) f b) 86, DevR S2 d D, RefR S4 r D]) rfl ?_ ?_
  · refine g_dr mixed ?_
    have hS := hS.drew
    (repeat (first | refine d_ok rfl rfl rfl ?_ | refine d_no rfl rfl ?_))
    refine d_l1 rfl rfl rfl (hS.b 4 rfl) rfl ?_
    refine d_cl rfl rfl rfl (c98 hS fun w S3 v' hS hr2 => ⟨rc_0, ?_⟩)
    have hr1 : RdL v (J.l.map Grp.b) w := ⟨35, Z, hZ, Ow.rd (hS.ok 2 _ rfl), fun q hq => ⟨5, Ow.rd (ows_mem (hS.ok 3 _ rfl) hq)⟩⟩
    refine d_cl rfl rfl rfl (c46 hr1 hr2 (by omega) hS fun w hS => ⟨rc_0, ?_⟩)
    rw [show decide (J.l.map Grp.b = J.l.map Grp.b) = true from decide_eq_true rfl]
    (repeat (first | refine d_ok rfl rfl rfl ?_ | refine d_no rfl rfl ?_))
    refine d_l1 rfl rfl rfl (hS.b 4 rfl) rfl ?_
    (repeat (first | refine d_ok rfl rfl rfl ?_ | refine d_no rfl rfl ?_))
    refine d_cl rfl rfl rfl (c49 (hS.sel [1, 0, 2, 3, 4, 5, 6] rfl rfl) ⟨rc_0, ?_⟩)
    refine d_ok (v := .bool true) rfl rfl (congrArg (fun x => R3.ok (.bool x)) (cmv_self _)) ?_
    (repeat (first | refine d_ok rfl rfl rfl ?_ | refine d_no rfl rfl ?_))
    refine d_l1 rfl rfl rfl (hS.b 4 rfl) rfl ?_
    (repeat (first | refine d_ok rfl rfl rfl ?_ | refine d_no rfl rfl ?_))
    refine d_cl rfl rfl rfl (c44 (hS.sel [1, 0, 2, 3, 4, 5, 6] rfl rfl) fun w S1 hS => ⟨rc_0, ?_⟩)
    refine d_ok (v := .bool true) rfl rfl (congrArg (fun x => R3.ok (.bool x)) (cmv_self _)) ?_
    (repeat (first | refine d_ok rfl rfl rfl ?_ | refine d_no rfl rfl ?_))
    refine d_l1 rfl rfl rfl (hS.b 4 rfl) rfl ?_
    (repeat (first | refine d_ok rfl rfl rfl ?_ | refine d_no rfl rfl ?_))
    refine d_l1 rfl rfl rfl (hS.b 4 rfl) rfl ?_
    obtain ⟨_, _, _, vl, hB⟩ := RjoR.blk (hS.sel [1, 0, 2, 3, 4, 5, 6] rfl rfl)
    (repeat (first | refine d_ok rfl rfl rfl ?_ | refine d_no rfl rfl ?_))
    refine d_l1 rfl rfl rfl hB rfl ?_
    refine d_cl rfl rfl rfl (c45 hS ⟨rc_1 rfl rfl rfl rfl (hS.b 4 rfl) rfl (rc_1 rfl rfl rfl rfl hB rfl rc_0), ?_⟩)
    refine d_ok (v := .bool true) rfl rfl (congrArg (fun x => R3.ok (.bool x)) (cmv_self _)) ?_
    (repeat (first | refine d_ok rfl rfl rfl ?_ | refine d_no rfl rfl ?_))
    refine d_l1 rfl rfl rfl (hS.b 4 rfl) rfl ?_
    (repeat (first | refine d_ok rfl rfl rfl ?_ | refine d_no rfl rfl ?_))
    refine d_l1 rfl rfl rfl (hS.b 4 rfl) rfl ?_
    refine d_cl rfl rfl rfl (c43 hS fun w S1 hS => ⟨rc_1 rfl rfl rfl rfl (hS.b 4 rfl) rfl rc_0, ?_⟩)
    refine d_cl rfl rfl rfl (c99 (hS.sel [1, 0, 2, 3, 4, 5, 6] rfl rfl) ⟨rc_0, ?_⟩)
    refine d_ok (v := .bool true) rfl rfl (congrArg (fun x => R3.ok (.bool x)) (cmv_self _)) ?_
    (repeat (first | refine d_ok rfl rfl rfl ?_ | refine d_no rfl rfl ?_))
    refine d_l1 rfl rfl rfl (hS.b 4 rfl) rfl ?_
    (repeat (first | refine d_ok rfl rfl rfl ?_ | refine d_no rfl rfl ?_))
    refine d_l1 rfl rfl rfl (hS.b 4 rfl) rfl ?_
    (repeat (first | refine d_ok rfl rfl rfl ?_ | refine d_no rfl rfl ?_))
    refine d_l1 rfl rfl rfl (hS.b 4 rfl) rfl ?_
    refine d_cl rfl rfl rfl (c41 hS fun w S1 hS => ⟨rc_1 rfl rfl rfl rfl (hS.b 4 rfl) rfl (rc_1 rfl rfl rfl rfl (hS.b 4 rfl) rfl rc_0), ?_⟩)
    refine d_cl rfl rfl rfl (c99 (hS.sel [1, 0, 2, 3, 4, 5, 6] rfl rfl) ⟨rc_1 rfl rfl rfl rfl (hS.b 4 rfl) rfl rc_0, ?_⟩)
    refine d_rq rfl rfl rfl (in64 (by simp only [arv]; omega)) ?_
    rw [show arv BinOp.sub (b : Int) (J.used : Int) = ((b - J.used : Nat) : Int) by simp only [arv]; omega]
    refine d_ok (v := .bool true) rfl rfl (congrArg (fun x => R3.ok (.bool x)) (cmv_self _)) ?_
    (repeat (first | refine d_ok rfl rfl rfl ?_ | refine d_no rfl rfl ?_))
    refine d_l1 rfl rfl rfl (hS.b 4 rfl) rfl ?_
    (repeat (first | refine d_ok rfl rfl rfl ?_ | refine d_no rfl rfl ?_))
    refine d_l1 rfl rfl rfl (hS.b 4 rfl) rfl ?_
    obtain ⟨_, aC, cC, aL, cL, hBr⟩ := RefR.blk (hS.sel [6, 0, 1, 2, 3, 4, 5] rfl rfl)
    (repeat (first | refine d_ok rfl rfl rfl ?_ | refine d_no rfl rfl ?_))
    refine d_l1 rfl rfl rfl hBr rfl ?_
    (repeat (first | refine d_ok rfl rfl rfl ?_ | refine d_no rfl rfl ?_))
    refine d_cl rfl rfl rfl (d28 (hS.sel [5, 0, 1, 2, 3, 4, 6] rfl rfl) ⟨rc_1 rfl rfl rfl rfl (hS.b 4 rfl) rfl (rc_1 rfl rfl rfl rfl hBr rfl rc_0), ?_⟩)
    refine d_ok (v := .bool true) rfl rfl (congrArg (fun x => R3.ok (.bool x)) (by simp)) ?_
    (repeat (first | refine d_ok rfl rfl rfl ?_ | refine d_no rfl rfl ?_))
    exact d_fin (g_jx () ⟨rfl, rfl, trivial⟩ ⟨_, _, _, _, hS.sel [1, 0, 2, 3, 4, 5, 6] rfl rfl⟩)
  clear hS
  rintro ⟨⟩ T w hT ⟨S1, S2, S3, S4, hS⟩
  refine g_wkc hT ?_
  have hZl : Z.length ≤ 4096 := by have := congrArg List.length hZ; simp at this; simp at hlen; omega
  have hZm : ∀ q ∈ Z, q.2.length ≤ 1000000 := fun q hq => by
    have : q.2 ∈ J.l.map Grp.b := by rw [← hZ]; exact List.mem_map.2 ⟨q, hq, rfl⟩
    obtain ⟨g, hg, e⟩ := List.mem_map.1 this
    rw [← e]
    exact (hw.2.2 g hg).1
  obtain ⟨a, c, rfl⟩ := hS.rlen 2 rfl
  clear hT hZ
  (repeat (first | refine g_sq ?_ | refine g_rg ?_ | refine g_r0 ?_ | refine g_ok rfl rfl ?_ | refine g_no rfl ?_ | refine g_no0 rfl ?_ | refine g_bk ?_ | refine g_b ?_ | refine g_sk ?_ | refine g_cT rfl ?_ | refine g_cF rfl ?_ | refine g_x rfl ?_ | refine g_lb ?_))
  refine g_lp (ι := Nat × BZ) (fun x => [(5, .slice a Z.length c), (6, .bool true), (110, .int .i64 Z.length), (111, .int .i64 x.1)])
    (fun x w => x.1 ≤ Z.length ∧ x.2.length = Z.length ∧ (∀ q ∈ x.2, q.2.length ≤ 1000000) ∧ St w0 S0 w [RjoR S3 sb r f b J, JouR S1 jb d f b J, row (.slice a Z.length c) 35 1 x.2.length (x.2.map Prod.fst), cel p (playC d r (dp jb) (dp sb) f b) 86, DevR S2 d D, RefR S4 r D, ows rbs x.2]) (fun x => Z.length - x.1) (0, Z)
    ⟨rfl, rfl, rfl, rfl, trivial⟩ ⟨Nat.zero_le _, rfl, hZm, hS.sel [0, 1, 2, 4, 5, 6, 3] rfl rfl⟩ ?_
  clear hS hZm
  rintro ⟨i, Y⟩ w ⟨hi, hY, hYm, hS⟩
  simp only at hi hY hYm hS
  (repeat (first | refine g_sq ?_ | refine g_rg ?_ | refine g_r0 ?_ | refine g_ok rfl rfl ?_ | refine g_no rfl ?_ | refine g_no0 rfl ?_ | refine g_bk ?_ | refine g_b ?_ | refine g_sk ?_ | refine g_cT rfl ?_ | refine g_cF rfl ?_ | refine g_x rfl ?_ | refine g_lb ?_))
  refine g_cd rfl (fun hc => ?_) (fun hc => ?_)
  all_goals simp only [cmv, decide_eq_true_eq, decide_eq_false_iff_not] at hc
  · have hlt : i < Y.length := by omega
    obtain ⟨Ya, y, Yb, rfl, hYa⟩ : ∃ Ya y Yb, Y = Ya ++ y :: Yb ∧ Ya.length = i := ⟨Y.take i, Y[i], Y.drop (i + 1), by rw [← List.drop_eq_getElem_cons hlt, List.take_append_drop], by rw [List.length_take]; omega⟩
    have hyl := hYm y (by simp)
    have hS := St.ows_split (B := [_, _, _, _, _, _]) Ya y Yb (hS.sel [6, 0, 1, 2, 3, 4, 5] rfl rfl)
    have hS : St w0 S0 w [ows rbs Ya, row y.1 5 1 y.2.length (bys y.2), ows rbs Yb, RjoR S3 sb r f b J, JouR S1 jb d f b J, row (.slice a Z.length c) 35 1 (Ya ++ y :: Yb).length ((Ya ++ y :: Yb).map Prod.fst), cel p (playC d r (dp jb) (dp sb) f b) 86, DevR S2 d D, RefR S4 r D] := hS
    obtain ⟨ay, cy, ey⟩ := hS.rlen 1 rfl
    obtain ⟨y1, yb⟩ := y
    simp only at ey hyl hS
    subst ey
    obtain ⟨bv, capv, restv, hvv, hcv, hBv, hlv⟩ := row_blk hS 5 rfl (by omega)
    rw [hY] at hvv
    cases hvv
    have hcell : ∀ rest : List Value, ((Ya ++ (Value.slice ay yb.length cy, yb) :: Yb).map Prod.fst ++ rest)[0 + i * 1]? = some (.slice ay yb.length cy) := fun rest => by
      rw [Nat.zero_add, Nat.mul_one, List.getElem?_append_left (by rw [List.length_map]; omega), List.getElem?_map, ← hYa, List.getElem?_append_right (Nat.le_refl _), Nat.sub_self]
      rfl
    (repeat (first | refine g_sq ?_ | refine g_rg ?_ | refine g_r0 ?_ | refine g_ok rfl rfl ?_ | refine g_no rfl ?_ | refine g_no0 rfl ?_ | refine g_bk ?_ | refine g_b ?_ | refine g_sk ?_ | refine g_cT rfl ?_ | refine g_cF rfl ?_ | refine g_x rfl ?_ | refine g_lb ?_))
    refine g_rq rfl rfl ⟨by omega, by omega⟩ ?_
    refine g_l1 rfl rfl hBv (hcell _) ?_
    (repeat (first | refine g_sq ?_ | refine g_rg ?_ | refine g_r0 ?_ | refine g_ok rfl rfl ?_ | refine g_no rfl ?_ | refine g_no0 rfl ?_ | refine g_bk ?_ | refine g_b ?_ | refine g_sk ?_ | refine g_cT rfl ?_ | refine g_cF rfl ?_ | refine g_x rfl ?_ | refine g_lb ?_))
    refine g_atx (ι := List UInt8) 2 (fun _ => [(5, .slice (some ⟨bv, 0, none⟩) Z.length c), (6, .bool true), (110, .int .i64 Z.length), (111, .int .i64 i)])
      (fun y w => y.length = yb.length ∧ St w0 S0 w [ows rbs Ya, row (.slice ay yb.length cy) 5 1 yb.length (bys y), ows rbs Yb, RjoR S3 sb r f b J, JouR S1 jb d f b J, row (.slice (some ⟨bv, 0, none⟩) Z.length c) 35 1 (Ya ++ (.slice ay yb.length cy, yb) :: Yb).length ((Ya ++ (.slice ay yb.length cy, yb) :: Yb).map Prod.fst), cel p (playC d r (dp jb) (dp sb) f b) 86, DevR S2 d D, RefR S4 r D]) rfl ?_ ?_
    · refine g_lp (ι := Nat × List UInt8) (fun x => [(5, .slice (some ⟨bv, 0, none⟩) Z.length c), (6, .bool true), (7, .int .i64 i), (110, .int .i64 Z.length), (111, .int .i64 i), (118, .int .i64 yb.length), (119, .int .i64 x.1)])
        (fun x w => x.1 ≤ yb.length ∧ x.2.length = yb.length ∧ St w0 S0 w [ows rbs Ya, row (.slice ay yb.length cy) 5 1 yb.length (bys x.2), ows rbs Yb, RjoR S3 sb r f b J, JouR S1 jb d f b J, row (.slice (some ⟨bv, 0, none⟩) Z.length c) 35 1 (Ya ++ (.slice ay yb.length cy, yb) :: Yb).length ((Ya ++ (.slice ay yb.length cy, yb) :: Yb).map Prod.fst), cel p (playC d r (dp jb) (dp sb) f b) 86, DevR S2 d D, RefR S4 r D]) (fun x => yb.length - x.1) (0, yb)
        ⟨rfl, rfl, rfl, rfl, rfl, rfl, rfl, trivial⟩ ⟨Nat.zero_le _, rfl, hS⟩ ?_
      clear hS hBv
      rintro ⟨k, y⟩ w ⟨hk, hy, hS⟩
      simp only at hk hy hS
      (repeat (first | refine g_sq ?_ | refine g_rg ?_ | refine g_r0 ?_ | refine g_ok rfl rfl ?_ | refine g_no rfl ?_ | refine g_no0 rfl ?_ | refine g_bk ?_ | refine g_b ?_ | refine g_sk ?_ | refine g_cT rfl ?_ | refine g_cF rfl ?_ | refine g_x rfl ?_ | refine g_lb ?_))
      refine g_cd rfl (fun hz => ?_) (fun hz => ?_)
      all_goals simp only [cmv, decide_eq_true_eq, decide_eq_false_iff_not] at hz
      · have hlt2 : k < y.length := by omega
        obtain ⟨bv', capv', restv', hvv', hcv', hBv, hlv'⟩ := row_blk hS 5 rfl (by omega)
        rw [hY] at hvv'
        cases hvv'
        obtain ⟨b1, cap1, rest1, hv, h1c, h2c, hS⟩ := hS.open_row 1 rfl (hS.rowb 1 rfl (by omega))
        cases hv
        (repeat (first | refine g_sq ?_ | refine g_rg ?_ | refine g_r0 ?_ | refine g_ok rfl rfl ?_ | refine g_no rfl ?_ | refine g_no0 rfl ?_ | refine g_bk ?_ | refine g_b ?_ | refine g_sk ?_ | refine g_cT rfl ?_ | refine g_cF rfl ?_ | refine g_x rfl ?_ | refine g_lb ?_))
        refine g_rq rfl rfl ⟨by omega, by omega⟩ ?_
        refine g_l1 rfl rfl hBv (hcell _) ?_
        (repeat (first | refine g_sq ?_ | refine g_rg ?_ | refine g_r0 ?_ | refine g_ok rfl rfl ?_ | refine g_no rfl ?_ | refine g_no0 rfl ?_ | refine g_bk ?_ | refine g_b ?_ | refine g_sk ?_ | refine g_cT rfl ?_ | refine g_cF rfl ?_ | refine g_x rfl ?_ | refine g_lb ?_))
        refine g_rq rfl rfl ⟨by omega, by omega⟩ ?_
        refine g_l1 (v := .int .u8 ((y[k]).toNat : Int)) rfl rfl (hS.b 1 rfl) (by
          show (bys y ++ rest1)[0 + k * 1]? = _
          rw [Nat.zero_add, Nat.mul_one, List.getElem?_append_left (by simpa using hlt2)]
          simp [bys, hlt2]) ?_
        (repeat (first | refine g_sq ?_ | refine g_rg ?_ | refine g_r0 ?_ | refine g_ok rfl rfl ?_ | refine g_no rfl ?_ | refine g_no0 rfl ?_ | refine g_bk ?_ | refine g_b ?_ | refine g_sk ?_ | refine g_cT rfl ?_ | refine g_cF rfl ?_ | refine g_x rfl ?_ | refine g_lb ?_))
        refine g_rq rfl rfl ⟨by omega, by omega⟩ ?_
        refine g_ef0 rfl ?_
        refine ef_st (u := .int .u8 ((y[k] + 1).toNat : Int)) hS 1 rfl rfl (congrArg (fun x => some (Value.int .u8 x)) (inc8 y[k])) rfl (by
          show 0 + k * 1 + 1 ≤ (bys y ++ rest1).length
          simp; omega) rfl fun w hS => ?_
        have hS := hS.ceq 1 rfl (bys_set y rest1 k (y[k] + 1) hlt2)
        have hS := hS.close_row (sz := 1) (n := yb.length) (cap := cy) 1 rfl h1c (by simp [hy]) (List.prefix_append _ _) (by rw [← h2c]; simp)
        (repeat (first | refine g_sq ?_ | refine g_rg ?_ | refine g_r0 ?_ | refine g_ok rfl rfl ?_ | refine g_no rfl ?_ | refine g_no0 rfl ?_ | refine g_bk ?_ | refine g_b ?_ | refine g_sk ?_ | refine g_cT rfl ?_ | refine g_cF rfl ?_ | refine g_x rfl ?_ | refine g_lb ?_))
        refine g_rq rfl rfl (in64 (by simp only [arv]; omega)) ?_
        (repeat (first | refine g_sq ?_ | refine g_rg ?_ | refine g_r0 ?_ | refine g_ok rfl rfl ?_ | refine g_no rfl ?_ | refine g_no0 rfl ?_ | refine g_bk ?_ | refine g_b ?_ | refine g_sk ?_ | refine g_cT rfl ?_ | refine g_cF rfl ?_ | refine g_x rfl ?_ | refine g_lb ?_))
        exact g_l (k + 1, y.set k (y[k] + 1)) ⟨rfl, rfl, rfl, rfl, rfl, rfl, rfl, trivial⟩ ⟨by simp only; omega, by simpa using hy, hS⟩ (by simp only; omega)
      · (repeat (first | refine g_sq ?_ | refine g_rg ?_ | refine g_r0 ?_ | refine g_ok rfl rfl ?_ | refine g_no rfl ?_ | refine g_no0 rfl ?_ | refine g_bk ?_ | refine g_b ?_ | refine g_sk ?_ | refine g_cT rfl ?_ | refine g_cF rfl ?_ | refine g_x rfl ?_ | refine g_lb ?_))
        exact g_jx y ⟨rfl, rfl, rfl, rfl, trivial⟩ ⟨hy, hS⟩
    clear hS hBv
    rintro y T w hT ⟨hy, hS⟩
    refine g_wkc hT ?_
    have e1 : (Ya ++ (Value.slice ay yb.length cy, y) :: Yb).map Prod.fst = (Ya ++ (Value.slice ay yb.length cy, yb) :: Yb).map Prod.fst := by simp
    have e2 : (Ya ++ (Value.slice ay yb.length cy, y) :: Yb).length = (Ya ++ (Value.slice ay yb.length cy, yb) :: Yb).length := by simp
    rw [← e1, ← e2] at hS
    have hS : St w0 S0 w [ows rbs Ya, row (.slice ay yb.length cy) 5 1 yb.length (bys y), ows rbs Yb, RjoR S3 sb r f b J, JouR S1 jb d f b J, row (.slice (some ⟨bv, 0, none⟩) Z.length c) 35 1 (Ya ++ (.slice ay yb.length cy, y) :: Yb).length ((Ya ++ (.slice ay yb.length cy, y) :: Yb).map Prod.fst), cel p (playC d r (dp jb) (dp sb) f b) 86, DevR S2 d D, RefR S4 r D] := hS
    rw [← hy] at hS hlv hcell e1 e2 hY
    have hS := St.ows_join (F := rbs) (x := (Value.slice ay y.length cy, y)) (B := [_, _, _, _, _, _]) Ya Yb hS
    (repeat (first | refine g_sq ?_ | refine g_rg ?_ | refine g_r0 ?_ | refine g_ok rfl rfl ?_ | refine g_no rfl ?_ | refine g_no0 rfl ?_ | refine g_bk ?_ | refine g_b ?_ | refine g_sk ?_ | refine g_cT rfl ?_ | refine g_cF rfl ?_ | refine g_x rfl ?_ | refine g_lb ?_))
    refine g_rq rfl rfl (in64 (by simp only [arv]; omega)) ?_
    (repeat (first | refine g_sq ?_ | refine g_rg ?_ | refine g_r0 ?_ | refine g_ok rfl rfl ?_ | refine g_no rfl ?_ | refine g_no0 rfl ?_ | refine g_bk ?_ | refine g_b ?_ | refine g_sk ?_ | refine g_cT rfl ?_ | refine g_cF rfl ?_ | refine g_x rfl ?_ | refine g_lb ?_))
    refine g_l (i + 1, Ya ++ (.slice ay y.length cy, y) :: Yb) ⟨rfl, rfl, rfl, rfl, trivial⟩ ⟨by simp only; omega, by simp only; simpa using hY, fun q hq => ?_, hS.sel [1, 2, 3, 4, 5, 6, 0] rfl rfl⟩ (by simp only; omega)
    simp only [List.mem_append, List.mem_cons] at hq
    rcases hq with hq | hq | hq
    · exact hYm q (by simp [hq])
    · subst hq; simp only; omega
    · exact hYm q (by simp [hq])
  · (repeat (first | refine g_sq ?_ | refine g_rg ?_ | refine g_r0 ?_ | refine g_ok rfl rfl ?_ | refine g_no rfl ?_ | refine g_no0 rfl ?_ | refine g_bk ?_ | refine g_b ?_ | refine g_sk ?_ | refine g_cT rfl ?_ | refine g_cF rfl ?_ | refine g_x rfl ?_ | refine g_lb ?_))
    exact g_ret (q_1 rfl (h _ _ _ _ _ (hS.sel [3, 1, 4, 0, 5] rfl rfl)))
end
end Go.Proofs.Ytegjocpjmfaigaa
