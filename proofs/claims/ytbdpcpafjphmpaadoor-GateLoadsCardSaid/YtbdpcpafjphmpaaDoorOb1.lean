/- Records loaded, by the program. -/
import Derived.Test.YtbdpcpafjphmpaaDoorOa9
set_option linter.unusedSimpArgs false
set_option linter.unusedVariables false
namespace Go.Proofs.YtbdpcpafjphmpaaDoor
open Go.En

/-- a gate's map -/
def gm : Option Nat → List Rec → Res
  | none, o => emp.when (o = [])
  | some bm, o => obj bm (.map ⟨ents o⟩ o.length)
theorem spl_full (l m : List Value) (h : m.length = l.length) : spl l 0 m = m := by
  unfold spl
  rw [List.take_zero, List.nil_append, Nat.zero_add, List.drop_eq_nil_of_le (by omega), List.append_nil]
theorem dlt_C (x y : Rec) : dlt' x y ↔ dotC x.site x.cnt y.site y.cnt < 0 := by
  unfold dlt'
  rw [dotC_R]
  rcases dotR_3 x.site x.cnt y.site y.cnt with h | h | h <;> omega
theorem dc_inj {a b c d : Int} (h : dc a b = dc c d) : a = c ∧ b = d := by
  unfold dc at h
  simp only [List.cons.injEq, Value.int.injEq, true_and, and_true] at h
  exact h
section
variable {w w0 : World} {S0 : Nat → Prop} {L B : List Res} {K : Value → World → Prop} {s : Bs} {E0 E1 : Nat}
theorem Gl.lt (h : Gl w) : 0 < w.heap.size := by
  obtain ⟨m, hm⟩ := h
  unfold World.cell? at hm
  by_cases hl : 0 < w.heap.size
  · exact hl
  · rw [Array.getElem?_eq_none (by omega)] at hm; cases hm
/-- the package's variable stays where a part of what is new is handed on -/
theorem Gl.foot {w1 w2 : World} {A L2 : List Res} (h : Gl w) (hS : St w (fun _ => False) w1 (A ++ B)) (h2 : St w1 (foot A) w2 L2) : Gl w2 := by
  refine (h.in hS).to ?_ h2
  rintro ⟨i, r, hi, hb⟩
  have hi' : (A ++ B)[i]? = some r := by rw [List.getElem?_append_left (List.getElem?_eq_some_iff.1 hi).1]; exact hi
  rcases hS.src i r hi' _ hb with h0 | h0
  · exact h0
  · have := h.lt; omega
theorem b_PutG {w1 : World} {mv : Option Nat} {o : List Rec} {r : Rec} {bG : Nat} (hg : Gl w) (hS : St w (fun _ => False) w1 ([cel bG [.map mv] 47, gm mv o] ++ B)) (hne : ∀ x ∈ o, dc x.site x.cnt ≠ dc r.site r.cnt)
    (h1 : recB r = false → ∀ w', St w (fun _ => False) w' ([cel bG [.map mv] 47, gm mv o] ++ B) → K (.int .i64 220) w')
    (h2 : recB r = true → ∀ mv' w', St w (fun _ => False) w' ([cel bG [.map mv'] 47, gm mv' (o ++ [r])] ++ B) → K (.int .i64 0) w') : CK Tryd.prog 10 [dp bG, .agg ⟨rc r⟩] w1 K := by
  cases mv with
  | none =>
    obtain ⟨ho, hS⟩ := hS.cond (r := emp) 1 rfl
    subst ho
    have hS : St w (fun _ => False) w1 ([cel bG [.map none] 47] ++ emp :: B) := hS
    have hF := hS.frame
    refine b_Put0 (w0 := w1) (S0 := foot [cel bG [.map none] 47]) (fun h => hg.foot hS h) hF.1 (fun e w' h' => ?_) (fun e bm w' h' => ?_)
    · have hS := hF.2 _ _ h'
      exact h1 e w' (St.toWhen (r := emp) (p := ([] : List Rec) = []) hS 1 rfl rfl)
    · have hS := hF.2 _ _ h'
      exact h2 e (some bm) w' (St.selB (A := [cel bG [.map (some bm)] 47, obj bm (.map ⟨ents [r]⟩ 1), emp]) hS [0, 1] rfl rfl)
  | some bm =>
    have hS : St w (fun _ => False) w1 ([cel bG [.map (some bm)] 47, obj bm (.map ⟨ents o⟩ o.length)] ++ B) := hS
    have hF := hS.frame
    refine b_Put1 (w0 := w1) (S0 := foot [cel bG [.map (some bm)] 47, obj bm (.map ⟨ents o⟩ o.length)]) (fun h => hg.foot hS h) hF.1 hne (fun e w' h' => h1 e w' (hF.2 _ _ h')) (fun e w' h' => h2 e (some bm) w' ?_)
    have hS := hF.2 _ _ h'
    show St w (fun _ => False) w' ([cel bG [.map (some bm)] 47, obj bm (.map ⟨ents (o ++ [r])⟩ (o ++ [r]).length)] ++ B)
    rw [List.length_append]
    exact hS
theorem ldB_ne {d : List Rec} {k : Nat} (hk : k < d.length) (hp : (d.take (k + 1)).Pairwise dlt') : ∀ x ∈ d.take k, dc x.site x.cnt ≠ dc d[k].site d[k].cnt := fun x hx e => by
  rw [List.take_succ_eq_append_getElem hk, List.pairwise_append] at hp
  have h1 := (dlt_iff _ _).1 (hp.2.2 x hx d[k] (by simp))
  have h2 := dc_inj e
  omega
set_option maxHeartbeats 4000000 in
theorem b_LoadG {d : List Rec} {v : Value} {n : Nat} (hd : d.length = n) (hn : n < 2000000) (hg : Gl w) (hr : Rd v E0 52 n (fl rc d) w)
    (h1 : ¬ ldB d → ∀ w', St w (fun _ => False) w' [] → K (.tuple ⟨[.pointer none, .int .i64 220]⟩) w')
    (h2 : ldB d → ∀ bG mv w', St w (fun _ => False) w' [cel bG [.map mv] 47, gm mv d] → K (.tuple ⟨[dp bG, .int .i64 0]⟩) w') : CK Tryd.prog 4 [v] w K := by
  have hS := St.nil w (fun _ => False)
  have hrr : ∀ {L : List Res} (w' : World), St w (fun _ => False) w' L → Rd v E0 52 n (fl rc d) w' := fun w' hS => hr.same fun b hb => hS.fr.kept b (hr.lt b hb) (fun h => h)
  obtain ⟨a, c, rfl⟩ := hr.form
  refine call_k Tryd.func4 k4 Tryd.ntmps4 (Nat.le_of_ble_eq_true rfl) ?_
  (repeat (first | refine g_sq ?_ | refine g_rg ?_ | refine g_r0 ?_ | refine g_ok rfl rfl ?_ | refine g_no rfl ?_ | refine g_no0 rfl ?_ | refine g_bk ?_ | refine g_b ?_ | refine g_sk ?_ | refine g_cT rfl ?_ | refine g_cF rfl ?_ | refine g_x rfl ?_ | refine g_lb ?_))
  refine g_ef rfl (ef_bx hS rfl fun bG w1 hS => ?_)
  replace hS : St w (fun _ => False) w1 [cel bG [.map none] 47] := hS
  replace hS : St w (fun _ => False) w1 [cel bG [.map none] 47, gm none (d.take 0)] := hS.fact (p := ([] : List Rec) = []) rfl
  (repeat (first | refine g_sq ?_ | refine g_rg ?_ | refine g_r0 ?_ | refine g_ok rfl rfl ?_ | refine g_no rfl ?_ | refine g_no0 rfl ?_ | refine g_bk ?_ | refine g_b ?_ | refine g_sk ?_ | refine g_cT rfl ?_ | refine g_cF rfl ?_ | refine g_x rfl ?_ | refine g_lb ?_))
  refine g_lp (ι := Nat × Option Nat) (fun x => [(0, .slice a n c), (4, dp bG), (9, .slice a n c), (10, .int .i64 n), (11, .int .i64 x.1)]) (fun x w' => x.1 ≤ n ∧ ldB (d.take x.1) ∧ St w (fun _ => False) w' [cel bG [.map x.2] 47, gm x.2 (d.take x.1)]) (fun x => n - x.1) (0, none)
    ⟨rfl, rfl, rfl, rfl, rfl, trivial⟩ ⟨Nat.zero_le _, ⟨fun x hx => absurd hx List.not_mem_nil, List.Pairwise.nil⟩, hS⟩ ?_
  clear hS
  rintro ⟨k, mv⟩ w1 ⟨hk, hI, hS⟩
  dsimp only at hk hI hS ⊢
  (repeat (first | refine g_sq ?_ | refine g_rg ?_ | refine g_r0 ?_ | refine g_ok rfl rfl ?_ | refine g_no rfl ?_ | refine g_no0 rfl ?_ | refine g_bk ?_ | refine g_b ?_ | refine g_sk ?_ | refine g_cT rfl ?_ | refine g_cF rfl ?_ | refine g_x rfl ?_ | refine g_lb ?_))
  (refine g_cd rfl (fun hlt => ?_) (fun hlt => ?_) <;> simp only [cmv, arv, Bool.not_eq_true', Bool.not_eq_false', decide_eq_true_eq, decide_eq_false_iff_not] at hlt)
  · have hlt : k < d.length := by omega
    have step : ∀ {L : List Res} {w1 : World}, St w (fun _ => False) w1 L → ∃ b off l, a = some ⟨b, off, none⟩ ∧ n ≤ c ∧ off + c * 52 ≤ l.length ∧ (l.drop off).take (n * 52) = fl rc d ∧ Blr w1 b l E0 := fun {L} {w1} hS => by
      obtain ⟨b, off, cap, l, e1, hcap, hl, hx, hb⟩ := Rd.block (hrr _ hS) (by omega)
      cases e1
      exact ⟨b, off, l, rfl, hcap, hl, hx, hb⟩
    obtain ⟨b, off, l, rfl, hcap, hl, hx, hb⟩ := step hS
    have hbd : off + k * 52 + 52 ≤ l.length := by have : (k + 1) * 52 ≤ c * 52 := Nat.mul_le_mul_right 52 (by omega); omega
    have lz : (zx [(2, .int .i64 0), (16, .int .u32 0), (1, .string ⟨#[]⟩), (1, .bool false), (32, .int .u8 0)]).length = 52 := by decide
    (repeat (first | refine g_sq ?_ | refine g_rg ?_ | refine g_r0 ?_ | refine g_ok rfl rfl ?_ | refine g_no rfl ?_ | refine g_no0 rfl ?_ | refine g_bk ?_ | refine g_b ?_ | refine g_sk ?_ | refine g_cT rfl ?_ | refine g_cF rfl ?_ | refine g_x rfl ?_ | refine g_lb ?_))
    refine g_rq rfl rfl ⟨by omega, by omega⟩ ?_
    refine g_lmr rfl rfl hb hbd ?_
    rw [Int.toNat_natCast, rd_at rc_len hx hd hlt]
    refine g_ef rfl (ef_al hS fun b6 w1 hS => ?_)
    (repeat (first | refine g_sq ?_ | refine g_rg ?_ | refine g_r0 ?_ | refine g_ok rfl rfl ?_ | refine g_no rfl ?_ | refine g_no0 rfl ?_ | refine g_bk ?_ | refine g_b ?_ | refine g_sk ?_ | refine g_cT rfl ?_ | refine g_cF rfl ?_ | refine g_x rfl ?_ | refine g_lb ?_))
    refine g_ef0 rfl (ef_st hS 2 rfl rfl rfl (rc_len _) (by rw [lz]; decide) (List.all_eq_true.2 (rc_one _)) fun w1 hS => ?_)
    replace hS := hS.ceq (l' := rc d[k]) 2 rfl (spl_full _ _ (by show (rc d[k]).length = _; rw [rc_len, lz]))
    replace hS : St w (fun _ => False) w1 [cel bG [.map mv] 47, gm mv (d.take k), cel b6 (rc d[k]) 31] := hS
    (repeat (first | refine g_sq ?_ | refine g_rg ?_ | refine g_r0 ?_ | refine g_ok rfl rfl ?_ | refine g_no rfl ?_ | refine g_no0 rfl ?_ | refine g_bk ?_ | refine g_b ?_ | refine g_sk ?_ | refine g_cT rfl ?_ | refine g_cF rfl ?_ | refine g_x rfl ?_ | refine g_lb ?_))
    refine g_dr mixed ?_
    replace hS := hS.drew
    (repeat (first | refine d_ok rfl rfl rfl ?_ | refine d_no rfl rfl ?_))
    have hend : ∀ (mv' : Option Nat) (w' : World), ldB (d.take (k + 1)) → St w (fun _ => False) w' [cel bG [.map mv'] 47, gm mv' (d.take k ++ [d[k]]), cel b6 (rc d[k]) 31] → St w (fun _ => False) w' [cel bG [.map mv'] 47, gm mv' (d.take (k + 1))] := fun mv' w' _ hS => by
      rw [List.take_succ_eq_append_getElem hlt]
      exact hS.sel [0, 1] rfl rfl
    (generalize q1 : cmv _ _ _ = q; cases q <;> simp only [cmv, arv, Bool.not_eq_true', Bool.not_eq_false', decide_eq_true_eq, decide_eq_false_iff_not] at q1 <;> first | (exfalso; omega) | skip)
    · have k0 : k = 0 := by omega
      (repeat (first | refine d_ok rfl rfl rfl ?_ | refine d_no rfl rfl ?_))
      refine d_en rfl rfl rc_0 ?_
      (repeat (first | refine d_ok rfl rfl rfl ?_ | refine d_no rfl rfl ?_))
      refine d_lm rfl rfl rfl (hS.b 2 rfl) (Nat.le_of_eq (by rw [rc_len])) ?_
      rw [List.drop_zero, List.take_of_length_le (Nat.le_of_eq (rc_len _))]
      refine d_cl rfl rfl rfl (b_PutG (B := [cel b6 (rc d[k]) 31]) hg hS (by subst k0; exact fun x hx => absurd hx List.not_mem_nil) (fun e w' hS => ⟨rc_0, ?_⟩) (fun e mv' w' hS => ⟨rc_0, ?_⟩))
      · (repeat (first | refine d_ok rfl rfl rfl ?_ | refine d_no rfl rfl ?_))
        refine d_fin ?_
        (repeat (first | refine g_sq ?_ | refine g_rg ?_ | refine g_r0 ?_ | refine g_ok rfl rfl ?_ | refine g_no rfl ?_ | refine g_no0 rfl ?_ | refine g_bk ?_ | refine g_b ?_ | refine g_sk ?_ | refine g_cT rfl ?_ | refine g_cF rfl ?_ | refine g_x rfl ?_ | refine g_lb ?_))
        exact g_ret (q_2 rfl rfl (h1 (ldB_bad hlt e) _ (hS.sel [] rfl rfl)))
      · have hI2 := ldB_next hI hlt e (fun h0 => by omega)
        (repeat (first | refine d_ok rfl rfl rfl ?_ | refine d_no rfl rfl ?_))
        refine d_fin ?_
        (repeat (first | refine g_sq ?_ | refine g_rg ?_ | refine g_r0 ?_ | refine g_ok rfl rfl ?_ | refine g_no rfl ?_ | refine g_no0 rfl ?_ | refine g_bk ?_ | refine g_b ?_ | refine g_sk ?_ | refine g_cT rfl ?_ | refine g_cF rfl ?_ | refine g_x rfl ?_ | refine g_lb ?_))
        refine g_rq rfl rfl (in64 (by simp only [arv]; omega)) ?_
        (repeat (first | refine g_sq ?_ | refine g_rg ?_ | refine g_r0 ?_ | refine g_ok rfl rfl ?_ | refine g_no rfl ?_ | refine g_no0 rfl ?_ | refine g_bk ?_ | refine g_b ?_ | refine g_sk ?_ | refine g_cT rfl ?_ | refine g_cF rfl ?_ | refine g_x rfl ?_ | refine g_lb ?_))
        exact g_l (k + 1, mv') ⟨rfl, rfl, rfl, rfl, rfl, trivial⟩ ⟨by simp only; omega, hI2, hend mv' _ hI2 hS⟩ (by simp only; omega)
    · have ek1 : (arv BinOp.sub (k : Int) 1) = ((k - 1 : Nat) : Int) := by simp only [arv]; omega
      obtain ⟨b2, off2, l2, e2, hcap2, hl2, hx2, hb2⟩ := step hS
      cases e2
      have hbd1 : off + (k - 1) * 52 + 52 ≤ l2.length := by have : (k - 1 + 1) * 52 ≤ c * 52 := Nat.mul_le_mul_right 52 (by omega); omega
      have hk1 : k - 1 < d.length := by omega
      (repeat (first | refine d_ok rfl rfl rfl ?_ | refine d_no rfl rfl ?_))
      refine d_rq rfl rfl rfl (in64 (by rw [ek1]; omega)) ?_
      rw [ek1]
      refine d_rq rfl rfl rfl ⟨by omega, by omega⟩ ?_
      refine d_qt rfl rfl rfl (qt_ldmr rfl hb2 (by rw [Int.toNat_natCast]; omega)) ?_
      rw [Int.toNat_natCast, rd_at rc_len hx2 hd hk1]
      refine d_lm rfl rfl rfl (hS.b 2 rfl) (Nat.le_of_eq (by rw [rc_len])) ?_
      rw [List.drop_zero, List.take_of_length_le (Nat.le_of_eq (rc_len _))]
      refine d_cl rfl rfl rfl (b_byDot fun w1 h' => ⟨rc_0, ?_⟩)
      replace hS := hS.call0.2 _ _ h'
      rw [List.append_nil] at hS
      clear h'
      (repeat (first | refine d_ok rfl rfl rfl ?_ | refine d_no rfl rfl ?_))
      by_cases hlt' : dlt' d[k - 1] d[k]
      · rw [show cmv BinOp.geq (dotC d[k - 1].site d[k - 1].cnt d[k].site d[k].cnt) 0 = false from decide_eq_false (by have := (dlt_C _ _).1 hlt'; omega)]
        (repeat (first | refine d_ok rfl rfl rfl ?_ | refine d_no rfl rfl ?_))
        refine d_lm rfl rfl rfl (hS.b 2 rfl) (Nat.le_of_eq (by rw [rc_len])) ?_
        rw [List.drop_zero, List.take_of_length_le (Nat.le_of_eq (rc_len _))]
        have hne : ∀ x ∈ d.take k, dc x.site x.cnt ≠ dc d[k].site d[k].cnt := fun x hx e => by
          have h2 := dc_inj e
          obtain ⟨i, hi, rfl⟩ := List.mem_take_iff_getElem.1 hx
          have h3 := (dlt_iff _ _).1 hlt'
          by_cases ei : i = k - 1
          · subst ei; omega
          · have h4 := List.pairwise_iff_getElem.1 hI.2 i (k - 1) (by rw [List.length_take]; omega) (by rw [List.length_take]; omega) (by omega)
            rw [List.getElem_take, List.getElem_take] at h4
            have h4 := (dlt_iff _ _).1 h4
            omega
        refine d_cl rfl rfl rfl (b_PutG (B := [cel b6 (rc d[k]) 31]) hg hS hne (fun e w' hS => ⟨rc_0, ?_⟩) (fun e mv' w' hS => ⟨rc_0, ?_⟩))
        · (repeat (first | refine d_ok rfl rfl rfl ?_ | refine d_no rfl rfl ?_))
          refine d_fin ?_
          (repeat (first | refine g_sq ?_ | refine g_rg ?_ | refine g_r0 ?_ | refine g_ok rfl rfl ?_ | refine g_no rfl ?_ | refine g_no0 rfl ?_ | refine g_bk ?_ | refine g_b ?_ | refine g_sk ?_ | refine g_cT rfl ?_ | refine g_cF rfl ?_ | refine g_x rfl ?_ | refine g_lb ?_))
          exact g_ret (q_2 rfl rfl (h1 (ldB_bad hlt e) _ (hS.sel [] rfl rfl)))
        · have hI2 := ldB_next hI hlt e (fun h0 => hlt')
          (repeat (first | refine d_ok rfl rfl rfl ?_ | refine d_no rfl rfl ?_))
          refine d_fin ?_
          (repeat (first | refine g_sq ?_ | refine g_rg ?_ | refine g_r0 ?_ | refine g_ok rfl rfl ?_ | refine g_no rfl ?_ | refine g_no0 rfl ?_ | refine g_bk ?_ | refine g_b ?_ | refine g_sk ?_ | refine g_cT rfl ?_ | refine g_cF rfl ?_ | refine g_x rfl ?_ | refine g_lb ?_))
          refine g_rq rfl rfl (in64 (by simp only [arv]; omega)) ?_
          (repeat (first | refine g_sq ?_ | refine g_rg ?_ | refine g_r0 ?_ | refine g_ok rfl rfl ?_ | refine g_no rfl ?_ | refine g_no0 rfl ?_ | refine g_bk ?_ | refine g_b ?_ | refine g_sk ?_ | refine g_cT rfl ?_ | refine g_cF rfl ?_ | refine g_x rfl ?_ | refine g_lb ?_))
          exact g_l (k + 1, mv') ⟨rfl, rfl, rfl, rfl, rfl, trivial⟩ ⟨by simp only; omega, hI2, hend mv' _ hI2 hS⟩ (by simp only; omega)
      · rw [show cmv BinOp.geq (dotC d[k - 1].site d[k - 1].cnt d[k].site d[k].cnt) 0 = true from decide_eq_true (by have := mt (dlt_C d[k - 1] d[k]).2 hlt'; omega)]
        (repeat (first | refine d_ok rfl rfl rfl ?_ | refine d_no rfl rfl ?_))
        refine d_en rfl rfl rc_0 ?_
        (repeat (first | refine d_ok rfl rfl rfl ?_ | refine d_no rfl rfl ?_))
        refine d_fin ?_
        (repeat (first | refine g_sq ?_ | refine g_rg ?_ | refine g_r0 ?_ | refine g_ok rfl rfl ?_ | refine g_no rfl ?_ | refine g_no0 rfl ?_ | refine g_bk ?_ | refine g_b ?_ | refine g_sk ?_ | refine g_cT rfl ?_ | refine g_cF rfl ?_ | refine g_x rfl ?_ | refine g_lb ?_))
        exact g_ret (q_2 rfl rfl (h1 (ldB_ord (by omega) hlt hlt') _ (hS.sel [] rfl rfl)))
  · have ek : k = n := by omega
    subst ek
    rw [List.take_of_length_le (by omega)] at hI hS
    (repeat (first | refine g_sq ?_ | refine g_rg ?_ | refine g_r0 ?_ | refine g_ok rfl rfl ?_ | refine g_no rfl ?_ | refine g_no0 rfl ?_ | refine g_bk ?_ | refine g_b ?_ | refine g_sk ?_ | refine g_cT rfl ?_ | refine g_cF rfl ?_ | refine g_x rfl ?_ | refine g_lb ?_))
    exact g_ret (q_2 rfl rfl (h2 hI _ _ _ hS))
end
end Go.Proofs.YtbdpcpafjphmpaaDoor
