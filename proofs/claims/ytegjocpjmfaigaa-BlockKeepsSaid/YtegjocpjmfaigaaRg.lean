/- The document's device: a copy, a new one. -/
import Derived.Test.YtegjocpjmfaigaaRf
set_option linter.unusedSimpArgs false
set_option linter.unusedVariables false
namespace Go.Proofs.Ytegjocpjmfaigaa
open Go.En

theorem lw_one {W : List (Int × Value × List UInt8)} (h : ∀ y ∈ W, ∃ a n c, y.2.1 = .slice a n c) : (lw W).all (·.oneCell') = true := by
  rw [List.all_eq_true]
  intro v hv
  simp only [lw, List.mem_flatten, List.mem_map] at hv
  obtain ⟨l, ⟨x, hx, rfl⟩, hv⟩ := hv
  obtain ⟨a, n, c, e⟩ := h x hx
  simp only [List.mem_cons, List.not_mem_nil, or_false] at hv
  rcases hv with rfl | rfl
  · rfl
  · rw [e]; rfl
theorem cA_one {A : List (Value × List UInt8)} (h : ∀ y ∈ A, ∃ a n c, y.1 = .slice a n c) : (A.map (·.1)).all (·.oneCell') = true := by
  rw [List.all_eq_true]
  intro v hv
  simp only [List.mem_map] at hv
  obtain ⟨x, hx, rfl⟩ := hv
  obtain ⟨a, n, c, e⟩ := h x hx
  rw [e]; rfl
section
variable {w w0 : World} {S0 S : Nat → Prop} {K : Value → World → Prop} {b : Nat} {D : Dev} {B L : List Res}
set_option maxRecDepth 100000 in
theorem rb77 (hl : D.cells.length ≤ 4096) (hS : St w0 S0 w [RefR S b D]) (h : ∀ w' S2 b2, St w0 S0 w' [RefR S2 b2 D] → K (dp b2) w') : CK Try.prog 77 [dp b] w K := by
  obtain ⟨x, hx, hS⟩ := RefR.opn hS
  obtain ⟨vC, vL, A, W⟩ := x
  have hcl : A.length = D.cells.length := hx.cl
  have hwl : W.length = D.waits.length := hx.wl
  have hwn := hx.1.2.2.2
  have hpool := hS.ok 3 _ rfl
  have hA1 : ∀ y ∈ A, ∃ a n c, y.1 = .slice a n c := fun y hy => by
    obtain ⟨a, c, e⟩ := Rd.form (hpool y (List.mem_append_left _ hy)); exact ⟨_, _, _, e⟩
  have hW1 : ∀ y ∈ W, ∃ a n c, y.2.1 = .slice a n c := fun y hy => by
    obtain ⟨a, c, e⟩ := Rd.form (hpool y.2 (List.mem_append_right _ (List.mem_map.2 ⟨y, hy, rfl⟩))); exact ⟨_, _, _, e⟩
  clear hpool
  refine call_k Try.func77 k77 Try.ntmps77 (Nat.le_of_ble_eq_true rfl) ?_
  (repeat (first | refine g_sq ?_ | refine g_rg ?_ | refine g_r0 ?_ | refine g_ok rfl rfl ?_ | refine g_no rfl ?_ | refine g_no0 rfl ?_ | refine g_bk ?_ | refine g_b ?_ | refine g_sk ?_ | refine g_cT rfl ?_ | refine g_cF rfl ?_ | refine g_x rfl ?_ | refine g_lb ?_))
  refine g_dr mixed ?_
  have hS := hS.drew
  (repeat (first | refine d_ok rfl rfl rfl ?_ | refine d_no rfl rfl ?_))
  refine d_l1 rfl rfl rfl (hS.b 0 rfl) rfl ?_
  (repeat (first | refine d_ok rfl rfl rfl ?_ | refine d_no rfl rfl ?_))
  refine d_l1 rfl rfl rfl (hS.b 0 rfl) rfl ?_
  (repeat (first | refine d_ok rfl rfl rfl ?_ | refine d_no rfl rfl ?_))
  refine d_l1 rfl rfl rfl (hS.b 0 rfl) rfl ?_
  (repeat (first | refine d_ok rfl rfl rfl ?_ | refine d_no rfl rfl ?_))
  refine d_lm rfl rfl rfl (hS.b 0 rfl) (Nat.le_of_ble_eq_true rfl) ?_
  (repeat (first | refine d_ok rfl rfl rfl ?_ | refine d_no rfl rfl ?_))
  refine d_e rfl rfl ?_
  refine ef_bx hS rfl fun g w hS => ⟨rc_0, ?_⟩
  (repeat (first | refine d_ok rfl rfl rfl ?_ | refine d_no rfl rfl ?_))
  refine d_fin ?_
  refine g_sq ?_
  refine g_dr mixed ?_
  have hS := (hS.drew).nilrow 35 1
  (repeat (first | refine d_ok rfl rfl rfl ?_ | refine d_no rfl rfl ?_))
  refine d_l1 rfl rfl rfl (hS.b 4 rfl) rfl ?_
  (repeat (first | refine d_ok rfl rfl rfl ?_ | refine d_no rfl rfl ?_))
  refine d_l1 rfl rfl rfl (hS.b 0 rfl) rfl ?_
  refine d_e rfl rfl ?_
  refine ef_ap (n := 0) (m := A.length) (xs := []) hS 5 rfl rfl rfl (.inl ⟨35, Ow.rd (hS.ok 1 _ rfl)⟩) (cA_one hA1) (by omega) (by omega) fun v1 w hS => ⟨rc_0, ?_⟩
  rw [show 0 + A.length = A.length from Nat.zero_add _, List.nil_append] at hS
  obtain ⟨a1, c1, rfl⟩ := hS.rlen 5 rfl
  (repeat (first | refine d_ok rfl rfl rfl ?_ | refine d_no rfl rfl ?_))
  refine d_e0 rfl rfl ?_
  refine ef_st hS 4 rfl rfl rfl rfl (Nat.le_of_ble_eq_true rfl) rfl fun w hS => ⟨rc_0, ?_⟩
  refine d_fin ?_
  refine g_sq ?_
  refine g_dr mixed ?_
  have hS := (hS.drew).nilrow 147 2
  (repeat (first | refine d_ok rfl rfl rfl ?_ | refine d_no rfl rfl ?_))
  refine d_l1 rfl rfl rfl (hS.b 4 rfl) rfl ?_
  (repeat (first | refine d_ok rfl rfl rfl ?_ | refine d_no rfl rfl ?_))
  refine d_l1 rfl rfl rfl (hS.b 0 rfl) rfl ?_
  refine d_e rfl rfl ?_
  refine ef_ap (n := 0) (m := W.length) (xs := []) hS 6 rfl rfl rfl (.inl ⟨147, Ow.rd (hS.ok 2 _ rfl)⟩) (lw_one hW1) (by omega) (by omega) fun v2 w hS => ⟨rc_0, ?_⟩
  rw [show 0 + W.length = W.length from Nat.zero_add _, List.nil_append] at hS
  obtain ⟨a2, c2, rfl⟩ := hS.rlen 6 rfl
  (repeat (first | refine d_ok rfl rfl rfl ?_ | refine d_no rfl rfl ?_))
  refine d_e0 rfl rfl ?_
  refine ef_st hS 4 rfl rfl rfl rfl (Nat.le_of_ble_eq_true rfl) rfl fun w hS => ⟨rc_0, ?_⟩
  refine d_fin ?_
  (repeat (first | refine g_sq ?_ | refine g_rg ?_ | refine g_r0 ?_ | refine g_ok rfl rfl ?_ | refine g_no rfl ?_ | refine g_no0 rfl ?_ | refine g_bk ?_ | refine g_b ?_ | refine g_sk ?_ | refine g_cT rfl ?_ | refine g_cF rfl ?_ | refine g_x rfl ?_ | refine g_lb ?_))
  have hS := hS.sel [4, 5, 6, 3] rfl rfl
  obtain ⟨S', hS⟩ := RefR.cls (x := ⟨.slice a1 A.length c1, .slice a2 W.length c2, A, W⟩) (D := D) (B := []) (b := g) hx hS
  exact g_ret (q_1 rfl (h _ _ _ hS))
theorem rc77 (hl : D.cells.length ≤ 4096) (hS : St w0 S0 w (RefR S b D :: B)) (h : ∀ w' S2 b2, St w0 S0 w' (RefR S2 b2 D :: B) → K (dp b2) w') : CK Try.prog 77 [dp b] w K :=
  rb77 hl (St.frame (A := [RefR S b D]) (B := B) hS).1 fun w' S2 b2 h' => h w' S2 b2 ((St.frame (A := [RefR S b D]) (B := B) hS).2 w' [RefR S2 b2 D] h')

set_option maxRecDepth 100000 in
theorem rb19 {n : Int} (h1 : ¬ (1 ≤ n ∧ n ≤ 4096) → K (.tuple ⟨[.pointer none, .int .i64 2]⟩) w) (h2 : 1 ≤ n ∧ n ≤ 4096 → ∀ w' S b, St w (fun _ => False) w' [RefR S b (Dev.new n.toNat)] → K (.tuple ⟨[dp b, .int .i64 0]⟩) w') : CK Try.prog 19 [.int .i64 n] w K := by
  refine call_k Try.func19 k19 Try.ntmps19 (Nat.le_of_ble_eq_true rfl) ?_
  (repeat (first | refine g_sq ?_ | refine g_rg ?_ | refine g_r0 ?_ | refine g_ok rfl rfl ?_ | refine g_no rfl ?_ | refine g_no0 rfl ?_ | refine g_bk ?_ | refine g_b ?_ | refine g_sk ?_ | refine g_cT rfl ?_ | refine g_cF rfl ?_ | refine g_x rfl ?_ | refine g_lb ?_))
  generalize hg : cmv BinOp.lss n 1 = g
  cases g
  all_goals simp only [cmv, decide_eq_true_eq, decide_eq_false_iff_not] at hg
  · (repeat (first | refine g_sq ?_ | refine g_rg ?_ | refine g_r0 ?_ | refine g_ok rfl rfl ?_ | refine g_no rfl ?_ | refine g_no0 rfl ?_ | refine g_bk ?_ | refine g_b ?_ | refine g_sk ?_ | refine g_cT rfl ?_ | refine g_cF rfl ?_ | refine g_x rfl ?_ | refine g_lb ?_))
    refine g_cd rfl (fun hq => ?_) (fun hq => ?_)
    all_goals simp only [cmv, decide_eq_true_eq, decide_eq_false_iff_not] at hq
    · (repeat (first | refine g_sq ?_ | refine g_rg ?_ | refine g_r0 ?_ | refine g_ok rfl rfl ?_ | refine g_no rfl ?_ | refine g_no0 rfl ?_ | refine g_bk ?_ | refine g_b ?_ | refine g_sk ?_ | refine g_cT rfl ?_ | refine g_cF rfl ?_ | refine g_x rfl ?_ | refine g_lb ?_))
      exact g_ret (q_2 rfl rfl (h1 (by omega)))
    · have hn : 1 ≤ n ∧ n ≤ 4096 := by omega
      (repeat (first | refine g_sq ?_ | refine g_rg ?_ | refine g_r0 ?_ | refine g_ok rfl rfl ?_ | refine g_no rfl ?_ | refine g_no0 rfl ?_ | refine g_bk ?_ | refine g_b ?_ | refine g_sk ?_ | refine g_cT rfl ?_ | refine g_cF rfl ?_ | refine g_x rfl ?_ | refine g_lb ?_))
      refine g_ef rfl (ef_bx (St.nil w (fun _ => False)) rfl fun b w1 hS => ?_)
      (repeat (first | refine g_sq ?_ | refine g_rg ?_ | refine g_r0 ?_ | refine g_ok rfl rfl ?_ | refine g_no rfl ?_ | refine g_no0 rfl ?_ | refine g_bk ?_ | refine g_b ?_ | refine g_sk ?_ | refine g_cT rfl ?_ | refine g_cF rfl ?_ | refine g_x rfl ?_ | refine g_lb ?_))
      have z0 : Dev.new 0 = ⟨[], [], false, 0, ⟨0, 0, 0⟩, 0⟩ := rfl
      have hS := ((hS.nilrow 35 1).nilrow 147 2)
      have hS : St w (fun _ => False) w1 ([cel b (RefC (.slice none 0 0) (.slice none 0 0) (Dev.new 0)) 57, row (.slice none 0 0) 35 1 0 [], row (.slice none 0 0) 147 2 0 []] ++ [pool []]) := by
        refine St.new (St.sel hS [0, 1, 2] rfl rfl) (Fr.refl _ _) (fun b ⟨p, hp, _⟩ => nomatch hp) (fun b ⟨p, hp, _⟩ => nomatch hp) (fun p hp => nomatch hp)
      refine g_lp (ι := Nat × List (Value × List UInt8)) (fun p => [(0, .int .i64 n), (4, dp b), (5, .int .i64 p.1)])
        (fun p w1 => (p.1 : Int) ≤ n ∧ p.2.length = p.1 ∧ p.2.map (·.2) = List.replicate p.1 (List.replicate 128 0) ∧ ∃ vC, St w (fun _ => False) w1 [cel b (RefC vC (.slice none 0 0) (Dev.new 0)) 57, row vC 35 1 p.1 (p.2.map (·.1)), row (.slice none 0 0) 147 2 0 [], pool p.2]) (fun p => n.toNat - p.1) (0, []) ⟨rfl, rfl, rfl, trivial⟩ ⟨by simp only; omega, rfl, rfl, _, hS⟩ ?_
      clear hS
      rintro ⟨k, A⟩ w1 ⟨hk, hA, hA2, vC, hS⟩
      simp only at hk hA hA2 hS
      obtain ⟨aC, cC, rfl⟩ := hS.rlen 1 rfl
      (repeat (first | refine g_sq ?_ | refine g_rg ?_ | refine g_r0 ?_ | refine g_ok rfl rfl ?_ | refine g_no rfl ?_ | refine g_no0 rfl ?_ | refine g_bk ?_ | refine g_b ?_ | refine g_sk ?_ | refine g_cT rfl ?_ | refine g_cF rfl ?_ | refine g_x rfl ?_ | refine g_lb ?_))
      refine g_cd rfl (fun hc => ?_) (fun hc => ?_)
      all_goals simp only [cmv, decide_eq_true_eq, decide_eq_false_iff_not] at hc
      · (repeat (first | refine g_sq ?_ | refine g_rg ?_ | refine g_r0 ?_ | refine g_ok rfl rfl ?_ | refine g_no rfl ?_ | refine g_no0 rfl ?_ | refine g_bk ?_ | refine g_b ?_ | refine g_sk ?_ | refine g_cT rfl ?_ | refine g_cF rfl ?_ | refine g_x rfl ?_ | refine g_lb ?_))
        refine g_dr mixed ?_
        have hS := hS.drew
        (repeat (first | refine d_ok rfl rfl rfl ?_ | refine d_no rfl rfl ?_))
        refine d_l1 rfl rfl rfl (hS.b 0 rfl) rfl ?_
        refine d_e rfl rfl ?_
        refine ef_ms hS rfl rfl (by decide) (by decide) (by decide) (by decide) fun g1 w2 hS => ⟨rc_1 rfl rfl rfl rfl (hS.b 0 rfl) rfl rc_0, ?_⟩
        refine d_e rfl rfl ?_
        refine ef_bl (rs := [.slice (some ⟨g1, 0, none⟩) 128 128]) hS rfl fun g2 w2 hS => ⟨rc_1 rfl rfl rfl rfl (hS.b 0 rfl) rfl rc_0, ?_⟩
        refine d_e rfl rfl ?_
        refine ef_ap (n := k) (m := 1) (ys := [.slice (some ⟨g1, 0, none⟩) 128 128]) hS 1 rfl rfl rfl (.inl ⟨35, .inr ⟨g2, 0, 1, _, rfl, Nat.le_refl _, Nat.le_refl _, rfl, (hS.b 5 rfl).r⟩⟩) rfl (by omega) (by omega) fun v' w2 hS => ⟨rc_0, ?_⟩
        obtain ⟨a', c', rfl⟩ := hS.rlen 1 rfl
        (repeat (first | refine d_ok rfl rfl rfl ?_ | refine d_no rfl rfl ?_))
        refine d_e0 rfl rfl ?_
        refine ef_st hS 0 rfl rfl rfl rfl (Nat.le_of_ble_eq_true rfl) rfl fun w2 hS => ⟨rc_0, ?_⟩
        refine d_fin ?_
        (repeat (first | refine g_sq ?_ | refine g_rg ?_ | refine g_r0 ?_ | refine g_ok rfl rfl ?_ | refine g_no rfl ?_ | refine g_no0 rfl ?_ | refine g_bk ?_ | refine g_b ?_ | refine g_sk ?_ | refine g_cT rfl ?_ | refine g_cF rfl ?_ | refine g_x rfl ?_ | refine g_lb ?_))
        refine g_rq rfl rfl (in64 (by simp only [arv]; omega)) ?_
        (repeat (first | refine g_sq ?_ | refine g_rg ?_ | refine g_r0 ?_ | refine g_ok rfl rfl ?_ | refine g_no rfl ?_ | refine g_no0 rfl ?_ | refine g_bk ?_ | refine g_b ?_ | refine g_sk ?_ | refine g_cT rfl ?_ | refine g_cF rfl ?_ | refine g_x rfl ?_ | refine g_lb ?_))
        have e : rep (Int.toNat 128) [(1, .int .u8 0)] = bys (List.replicate 128 0) := by
          rw [rep_byte, ← bys_rep]; rfl
        have hS := hS.ceq 4 rfl e
        have hS := hS.close_row (sz := 1) (n := 128) (cap := 128) 4 rfl (Nat.le_refl _) (by simp) (List.prefix_refl _) (by simp)
        have hS := hS.pool_add (bs := List.replicate 128 0) (v := .slice (some ⟨g1, 0, none⟩) 128 128) 3 4 rfl (by rw [List.length_replicate]; rfl) (by decide)
        refine g_l (k + 1, A ++ [(.slice (some ⟨g1, 0, none⟩) 128 128, List.replicate 128 0)]) ⟨rfl, rfl, rfl, trivial⟩ ⟨by simp only; omega, by simp only [List.length_append, hA]; rfl, ?_, ⟨.slice a' (k + 1) c', ?_⟩⟩ (by simp only; omega)
        · simp only [List.map_append, hA2, List.map_cons, List.map_nil, List.replicate_succ']
        · simp only [List.map_append, List.map_cons, List.map_nil]
          exact hS.sel [0, 1, 2, 3] rfl rfl
      · have hkn : k = n.toNat := by omega
        subst hkn
        (repeat (first | refine g_sq ?_ | refine g_rg ?_ | refine g_r0 ?_ | refine g_ok rfl rfl ?_ | refine g_no rfl ?_ | refine g_no0 rfl ?_ | refine g_bk ?_ | refine g_b ?_ | refine g_sk ?_ | refine g_cT rfl ?_ | refine g_cF rfl ?_ | refine g_x rfl ?_ | refine g_lb ?_))
        have hw := Dev.new_wf (n := n.toNat) (by omega)
        rw [← hA] at hS
        have hS := hS.pool_sub (M' := A ++ []) 3 rfl (by simp)
        obtain ⟨S', hS⟩ := RefR.cls (x := ⟨.slice aC A.length cC, .slice none 0 0, A, []⟩) (D := Dev.new n.toNat) (B := []) (b := b) ⟨hw, hA2, rfl⟩ hS
        exact g_ret (q_2 rfl rfl (h2 hn _ _ _ hS))
  · (repeat (first | refine g_sq ?_ | refine g_rg ?_ | refine g_r0 ?_ | refine g_ok rfl rfl ?_ | refine g_no rfl ?_ | refine g_no0 rfl ?_ | refine g_bk ?_ | refine g_b ?_ | refine g_sk ?_ | refine g_cT rfl ?_ | refine g_cF rfl ?_ | refine g_x rfl ?_ | refine g_lb ?_))
    exact g_ret (q_2 rfl rfl (h1 (by omega)))
theorem rc19 {n : Int} (hS : St w0 S0 w L) (h1 : ¬ (1 ≤ n ∧ n ≤ 4096) → K (.tuple ⟨[.pointer none, .int .i64 2]⟩) w) (h2 : 1 ≤ n ∧ n ≤ 4096 → ∀ w' S b, St w0 S0 w' (L ++ [RefR S b (Dev.new n.toNat)]) → K (.tuple ⟨[dp b, .int .i64 0]⟩) w') : CK Try.prog 19 [.int .i64 n] w K :=
  rb19 h1 fun hn w' S b h' => h2 hn w' S b (hS.call0.2 w' _ h')
end
end Go.Proofs.Ytegjocpjmfaigaa
