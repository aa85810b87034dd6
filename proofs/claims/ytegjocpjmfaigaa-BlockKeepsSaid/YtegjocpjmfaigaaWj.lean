/- Walks of the device: a copy, a new one. -/
import Derived.Test.YtegjocpjmfaigaaWi
set_option linter.unusedSimpArgs false
set_option linter.unusedVariables false
namespace Go.Proofs.Ytegjocpjmfaigaa
open Go.En

theorem fw_one (ws : List (Int × List UInt8)) : (fw ws).all (·.oneCell') = true := by
  rw [List.all_eq_true]
  intro v hv
  simp only [fw, List.mem_flatten, List.mem_map] at hv
  obtain ⟨l, ⟨x, _, rfl⟩, hv⟩ := hv
  exact List.all_eq_true.1 (wv_one x) v hv
theorem fc_one (cs : List (List UInt8)) : (fc cs).all (·.oneCell') = true := by
  rw [List.all_eq_true]
  intro v hv
  simp only [fc, List.mem_flatten, List.mem_map] at hv
  obtain ⟨l, ⟨x, _, rfl⟩, hv⟩ := hv
  exact List.all_eq_true.1 (bys_one x) v hv
def Dev.new (n : Nat) : Dev := ⟨List.replicate n (List.replicate 128 0), [], false, 0, ⟨0, 0, 0⟩, 0⟩
theorem Dev.new_wf {n : Nat} (h : 0 < n) : (Dev.new n).wf :=
  ⟨fun e => by have := congrArg List.length e; simp [Dev.new] at this; omega, fun c hc => by rw [(List.mem_replicate.1 hc).2]; exact List.length_replicate, (fun x hx => nomatch hx), Nat.lt_of_lt_of_le (Nat.zero_lt_succ 0) (by decide)⟩
section
variable {w w0 : World} {S0 S : Nat → Prop} {K : Value → World → Prop} {b : Nat} {D : Dev} {B L : List Res}
set_option maxRecDepth 100000 in
theorem b37 (hl : D.cells.length ≤ 4096) (hS : St w0 S0 w [DevR S b D]) (h : ∀ w' S' S2 b2, St w0 S0 w' [DevR S' b D, DevR S2 b2 D] → K (dp b2) w') : CK Try.prog 37 [dp b] w K := by
  obtain ⟨hw, bc, cap, rest, a, c, h1, h2, hS⟩ := DevR.opn hS
  obtain ⟨n, hn⟩ : ∃ n, D.cells.length = n + 1 := ⟨D.cells.length - 1, by have := List.length_pos_iff.2 hw.1; omega⟩
  have hwl := hw.2.2.2
  refine call_k Try.func37 k37 Try.ntmps37 (Nat.le_of_ble_eq_true rfl) ?_
  (repeat (first | refine g_sq ?_ | refine g_rg ?_ | refine g_r0 ?_ | refine g_ok rfl rfl ?_ | refine g_no rfl ?_ | refine g_no0 rfl ?_ | refine g_bk ?_ | refine g_b ?_ | refine g_sk ?_ | refine g_cT rfl ?_ | refine g_cF rfl ?_ | refine g_x rfl ?_ | refine g_lb ?_))
  refine g_cl rfl rfl (d85 (hS.b 0 rfl) ?_)
  rw [show decide (D.cells.length = 0) = false by rw [hn]; rfl]
  (repeat (first | refine g_sq ?_ | refine g_rg ?_ | refine g_r0 ?_ | refine g_ok rfl rfl ?_ | refine g_no rfl ?_ | refine g_no0 rfl ?_ | refine g_bk ?_ | refine g_b ?_ | refine g_sk ?_ | refine g_cT rfl ?_ | refine g_cF rfl ?_ | refine g_x rfl ?_ | refine g_lb ?_))
  refine g_lm rfl rfl (hS.b 0 rfl) (Nat.le_of_ble_eq_true rfl) ?_
  refine g_ef rfl (ef_al hS fun g w hS => ?_)
  refine g_ef0 rfl (ef_st hS 3 rfl rfl rfl rfl (Nat.le_of_ble_eq_true rfl) rfl fun w hS => ?_)
  (repeat (first | refine g_sq ?_ | refine g_rg ?_ | refine g_r0 ?_ | refine g_ok rfl rfl ?_ | refine g_no rfl ?_ | refine g_no0 rfl ?_ | refine g_bk ?_ | refine g_b ?_ | refine g_sk ?_ | refine g_cT rfl ?_ | refine g_cF rfl ?_ | refine g_x rfl ?_ | refine g_lb ?_))
  refine g_dr mixed ?_
  have hS := hS.drew
  (repeat (first | refine d_ok rfl rfl rfl ?_ | refine d_no rfl rfl ?_))
  refine d_l1 rfl rfl rfl (hS.b 0 rfl) rfl ?_
  (repeat (first | refine d_ok rfl rfl rfl ?_ | refine d_no rfl rfl ?_))
  refine d_l1 rfl rfl rfl (hS.b 0 rfl) rfl ?_
  have hrc : ∀ {w : World}, Blk w bc (fc D.cells ++ rest) 122 → Rd (.slice (some ⟨bc, 0, none⟩) D.cells.length cap) 122 128 D.cells.length (fc D.cells) w := fun hB => .inr ⟨bc, 0, cap, _, rfl, h1, by omega, by rw [List.drop_zero, ← fc_len hw.2.1, List.take_left], hB.r⟩
  refine d_cl rfl rfl rfl (c87 hS (hrc (hS.b 1 rfl)) (fc_one _) (by omega) fun v1 w hS => ⟨rc_1 rfl rfl rfl rfl (hS.b 0 rfl) rfl rc_0, ?_⟩)
  refine d_cl rfl rfl rfl (c88 hS (Ow.rd (hS.ok 2 _ rfl)) (fw_one _) (by omega) fun v2 w hS => ⟨rc_0, ?_⟩)
  obtain ⟨a1, c1, rfl⟩ := hS.rlen 4 rfl
  obtain ⟨a2, c2, rfl⟩ := hS.rlen 5 rfl
  (repeat (first | refine d_ok rfl rfl rfl ?_ | refine d_no rfl rfl ?_))
  refine d_e0 rfl rfl ?_
  refine ef_st hS 3 rfl rfl rfl rfl (Nat.le_of_ble_eq_true rfl) rfl fun w hS => ⟨rc_0, ?_⟩
  (repeat (first | refine d_ok rfl rfl rfl ?_ | refine d_no rfl rfl ?_))
  refine d_e0 rfl rfl ?_
  refine ef_st hS 3 rfl rfl rfl rfl (Nat.le_of_ble_eq_true rfl) rfl fun w hS => ⟨rc_0, ?_⟩
  refine d_fin ?_
  (repeat (first | refine g_sq ?_ | refine g_rg ?_ | refine g_r0 ?_ | refine g_ok rfl rfl ?_ | refine g_no rfl ?_ | refine g_no0 rfl ?_ | refine g_bk ?_ | refine g_b ?_ | refine g_sk ?_ | refine g_cT rfl ?_ | refine g_cF rfl ?_ | refine g_x rfl ?_ | refine g_lb ?_))
  refine g_ret (q_1 rfl ?_)
  have hS := hS.sel [0, 1, 2, 3, 4, 5] rfl rfl
  obtain ⟨S', hS⟩ := DevR.cls' (B := [_, _, _]) hw h1 h2 hS
  have hS := hS.sel [1, 2, 3, 0] rfl rfl
  obtain ⟨S2, hS⟩ := DevR.cls (B := [_]) (b := g) (D := D) hw hS
  exact h _ _ _ _ (hS.sel [1, 0] rfl rfl)
theorem c37 (hl : D.cells.length ≤ 4096) (hS : St w0 S0 w (DevR S b D :: B)) (h : ∀ w' S' S2 b2, St w0 S0 w' (DevR S' b D :: DevR S2 b2 D :: B) → K (dp b2) w') : CK Try.prog 37 [dp b] w K :=
  b37 hl (St.frame (A := [DevR S b D]) (B := B) hS).1 fun w' S' S2 b2 h' => h w' S' S2 b2 ((St.frame (A := [DevR S b D]) (B := B) hS).2 w' [DevR S' b D, DevR S2 b2 D] h')

set_option maxRecDepth 100000 in
theorem b18 {n : Int} (h1 : ¬ (1 ≤ n ∧ n ≤ 4096) → K (.tuple ⟨[.pointer none, .int .i64 2]⟩) w) (h2 : 1 ≤ n ∧ n ≤ 4096 → ∀ w' S b, St w (fun _ => False) w' [DevR S b (Dev.new n.toNat)] → K (.tuple ⟨[dp b, .int .i64 0]⟩) w') : CK Try.prog 18 [.int .i64 n] w K := by
  refine call_k Try.func18 k18 Try.ntmps18 (Nat.le_of_ble_eq_true rfl) ?_
  (repeat (first | refine g_sq ?_ | refine g_rg ?_ | refine g_r0 ?_ | refine g_ok rfl rfl ?_ | refine g_no rfl ?_ | refine g_no0 rfl ?_ | refine g_bk ?_ | refine g_b ?_ | refine g_sk ?_ | refine g_cT rfl ?_ | refine g_cF rfl ?_ | refine g_x rfl ?_ | refine g_lb ?_))
  generalize hg : cmv BinOp.lss n 1 = g
  cases g
  all_goals simp only [cmv, decide_eq_true_eq, decide_eq_false_iff_not] at hg
  · (repeat (first | refine g_sq ?_ | refine g_rg ?_ | refine g_r0 ?_ | refine g_ok rfl rfl ?_ | refine g_no rfl ?_ | refine g_no0 rfl ?_ | refine g_bk ?_ | refine g_b ?_ | refine g_sk ?_ | refine g_cT rfl ?_ | refine g_cF rfl ?_ | refine g_x rfl ?_ | refine g_lb ?_))
    refine g_cd rfl (fun hq => ?_) (fun hq => ?_)
    all_goals simp only [cmv, decide_eq_true_eq, decide_eq_false_iff_not] at hq
    · (repeat (first | refine g_sq ?_ | refine g_rg ?_ | refine g_r0 ?_ | refine g_ok rfl rfl ?_ | refine g_no rfl ?_ | refine g_no0 rfl ?_ | refine g_bk ?_ | refine g_b ?_ | refine g_sk ?_ | refine g_cT rfl ?_ | refine g_cF rfl ?_ | refine g_x rfl ?_ | refine g_lb ?_))
      exact g_ret (q_2 rfl rfl (h1 (by omega)))
    · have hn : 1 ≤ n ∧ n ≤ 4096 := by omega
      (repeat (first | refine g_sq ?_ | refine g_rg ?_ | refine g_r0 ?_ | refine g_ok rfl rfl ?_ | refine g_no rfl ?_ | refine g_no0 rfl ?_ | refine g_bk ?_ | refine g_b ?_ | refine g_sk ?_ | refine g_cT rfl ?_ | refine g_cF rfl ?_ | refine g_x rfl ?_ | refine g_lb ?_))
      refine g_ef rfl (ef_ms (St.nil w (fun _ => False)) rfl rfl (by omega) (by omega) (by omega) (by omega) fun b1 w1 hS => ?_)
      refine g_ok rfl rfl ?_
      refine g_ef rfl (ef_bx hS rfl fun g w1 hS => ?_)
      (repeat (first | refine g_sq ?_ | refine g_rg ?_ | refine g_r0 ?_ | refine g_ok rfl rfl ?_ | refine g_no rfl ?_ | refine g_no0 rfl ?_ | refine g_bk ?_ | refine g_b ?_ | refine g_sk ?_ | refine g_cT rfl ?_ | refine g_cF rfl ?_ | refine g_x rfl ?_ | refine g_lb ?_))
      have e : rep n.toNat [(128, .int .u8 0)] = fc (Dev.new n.toNat).cells := by
        rw [rep, fc, Dev.new, List.map_replicate, ← bys_rep]
        congr 2
      have hS := hS.ceq 0 rfl e
      have hp : 0 < n.toNat := by omega
      have hw := Dev.new_wf hp
      have hcl : (Dev.new n.toNat).cells.length = n.toNat := List.length_replicate
      have hS := hS.close_row (sz := 128) (n := n.toNat) (cap := n.toNat) 0 rfl (Nat.le_refl _) (by rw [fc_len hw.2.1, hcl]) (List.prefix_refl _) (by rw [fc_len hw.2.1, hcl])
      have hS := (hS.nilrow 124 129).sel [1, 0, 2] rfl rfl
      have hS : St w (fun _ => False) w1 [cel g (DevC (.slice (some ⟨b1, 0, none⟩) n.toNat n.toNat) (.slice none 0 0) (Dev.new n.toNat)) 65, row (.slice (some ⟨b1, 0, none⟩) n.toNat n.toNat) 122 128 n.toNat (fc (Dev.new n.toNat).cells), row (.slice none 0 0) 124 129 0 []] := hS
      obtain ⟨S', hS⟩ := DevR.cls (B := []) (b := g) (D := Dev.new n.toNat) hw (by rw [hcl]; exact hS)
      exact g_ret (q_2 rfl rfl (h2 hn _ _ _ hS))
  · (repeat (first | refine g_sq ?_ | refine g_rg ?_ | refine g_r0 ?_ | refine g_ok rfl rfl ?_ | refine g_no rfl ?_ | refine g_no0 rfl ?_ | refine g_bk ?_ | refine g_b ?_ | refine g_sk ?_ | refine g_cT rfl ?_ | refine g_cF rfl ?_ | refine g_x rfl ?_ | refine g_lb ?_))
    exact g_ret (q_2 rfl rfl (h1 (by omega)))
theorem c18 {n : Int} (hS : St w0 S0 w L) (h1 : ¬ (1 ≤ n ∧ n ≤ 4096) → K (.tuple ⟨[.pointer none, .int .i64 2]⟩) w) (h2 : 1 ≤ n ∧ n ≤ 4096 → ∀ w' S b, St w0 S0 w' (L ++ [DevR S b (Dev.new n.toNat)]) → K (.tuple ⟨[dp b, .int .i64 0]⟩) w') : CK Try.prog 18 [.int .i64 n] w K :=
  b18 h1 fun hn w' S b h' => h2 hn w' S b (hS.call0.2 w' _ h')
theorem c33 {i : Int} (hS : St w0 S0 w (DevR S b D :: B)) (h1 : D.down = true → K (.tuple ⟨[.slice none 0 0, .int .i64 141]⟩) w) (h2 : D.down = false → ¬ (0 ≤ i ∧ i < D.cells.length) → K (.tuple ⟨[.slice none 0 0, .int .i64 140]⟩) w)
    (h3 : D.down = false → (0 ≤ i ∧ i < D.cells.length) → ∀ w' S' v', St w0 S0 w' (DevR S' b D :: row v' 5 1 128 (bys (D.rd i)) :: B) → K (.tuple ⟨[v', .int .i64 0]⟩) w') : CK Try.prog 33 [dp b, .int .i64 i] w K :=
  b33 (St.frame (A := [DevR S b D]) (B := B) hS).1 h1 h2 fun hd hi w' S' v' h' => h3 hd hi w' S' v' ((St.frame (A := [DevR S b D]) (B := B) hS).2 w' [DevR S' b D, row v' 5 1 128 (bys (D.rd i))] h')
end
end Go.Proofs.Ytegjocpjmfaigaa
