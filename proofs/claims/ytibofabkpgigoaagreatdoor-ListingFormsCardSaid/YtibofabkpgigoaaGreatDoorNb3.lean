/- A ref's tips under their names. -/
import Derived.Test.YtibofabkpgigoaaGreatDoorNb2
set_option linter.unusedSimpArgs false
set_option linter.unusedVariables false
namespace Go.Proofs.YtibofabkpgigoaaGreatDoor
open Go.En

theorem dig_lt {i j : Nat} (hi : i < 16) (hj : j < 16) : dig.getD i 0 < dig.getD j 0 ↔ i < j := by
  have key : ∀ i j : Fin 16, dig.getD i.val 0 < dig.getD j.val 0 ↔ i.val < j.val := by decide
  exact key ⟨i, hi⟩ ⟨j, hj⟩
theorem hx_cb (c d : UInt8) (a b : Bs) : Lib.compareBytes (hx c ++ a) (hx d ++ b) = if c < d then -1 else if d < c then 1 else Lib.compareBytes a b := by
  have h1 := c.toNat_lt; have h2 := d.toNat_lt
  show (if dig.getD (c.toNat / 16) 0 < dig.getD (d.toNat / 16) 0 then (-1 : Int) else if dig.getD (d.toNat / 16) 0 < dig.getD (c.toNat / 16) 0 then 1 else
    if dig.getD (c.toNat % 16) 0 < dig.getD (d.toNat % 16) 0 then (-1 : Int) else if dig.getD (d.toNat % 16) 0 < dig.getD (c.toNat % 16) 0 then 1 else Lib.compareBytes a b) = _
  simp only [dig_lt (show c.toNat / 16 < 16 by omega) (show d.toNat / 16 < 16 by omega), dig_lt (show d.toNat / 16 < 16 by omega) (show c.toNat / 16 < 16 by omega), dig_lt (show c.toNat % 16 < 16 by omega) (show d.toNat % 16 < 16 by omega), dig_lt (show d.toNat % 16 < 16 by omega) (show c.toNat % 16 < 16 by omega), UInt8.lt_iff_toNat_lt]
  repeat' split
  all_goals first | rfl | omega
theorem hex_cb : ∀ a b : Bs, Lib.compareBytes (hex a) (hex b) = Lib.compareBytes a b
  | [], [] => rfl
  | [], d :: b => rfl
  | c :: a, [] => rfl
  | c :: a, d :: b => by
    have := hex_cb a b
    have e : ∀ c a, hex (c :: a) = hx c ++ hex a := fun c a => by simp [hex]
    rw [e, e, hx_cb, this]
    rw [Lib.compareBytes]
theorem hex_inj {a b : Bs} (h : hex a = hex b) : a = b := cb_zero (by rw [← hex_cb, h, cb_self])
/-- a conflict name -/
def cfl (s : Bs) (id : Id) : Bs := s ++ 126 :: hex id.1
def nm1 (s : Bs) (m : Bool) (id : Id) : Li := (if m then cfl s id else s, id)
/-- a ref's tips under their names -/
def nmL (s : Bs) (ids : List Id) : List Li := (iset ids).map (nm1 s (decide (1 < (iset ids).length)))
theorem cfl_cb (s : Bs) (a b : Id) : Lib.compareBytes (cfl s a) (cfl s b) = Lib.compareBytes a.1 b.1 := by
  unfold cfl
  rw [cb_app, ← hex_cb a.1 b.1]
  rw [Lib.compareBytes, if_neg (UInt8.lt_irrefl _), if_neg (UInt8.lt_irrefl _)]
theorem nmL_inj (s : Bs) (ids : List Id) (x y : Li) (hx : x ∈ nmL s ids) (hy : y ∈ nmL s ids) (h : x.1 = y.1) : x = y := by
  unfold nmL at hx hy
  obtain ⟨a, ha, rfl⟩ := List.mem_map.1 hx
  obtain ⟨b, hb, rfl⟩ := List.mem_map.1 hy
  by_cases h1 : 1 < (iset ids).length
  · simp only [nm1, decide_eq_true h1, if_true] at h ⊢
    have : a.1 = b.1 := cb_zero (by rw [← cfl_cb s a b, h, cb_self])
    rw [id_inj a b this]
  · match hl : iset ids, ha, hb, h1 with
    | [], ha, _, _ => cases ha
    | [c], ha, hb, _ =>
      rw [List.mem_singleton.1 ha, List.mem_singleton.1 hb]
    | _ :: _ :: _, _, _, h1 => exact absurd (by simp) h1
theorem nmL_sorted (s : Bs) (ids : List Id) : (nmL s ids).Pairwise fun x y => ble x.1 y.1 = true := by
  unfold nmL
  rw [List.pairwise_map]
  have hs := kset_sorted (fun x : Id => x.1) id_inj ids
  by_cases h1 : 1 < (iset ids).length
  · refine List.Pairwise.imp ?_ hs
    intro a b h
    simp only [nm1, decide_eq_true h1, if_true]
    have := h.1
    unfold ble at this ⊢
    rw [cfl_cb]; exact this
  · match hl : iset ids, h1 with
    | [], _ => exact List.Pairwise.nil
    | [c], _ => exact List.pairwise_singleton _ _
    | _ :: _ :: _, h1 => exact absurd (by simp) h1
section
variable {w w0 : World} {S0 : Nat → Prop} {L B : List Res} {K : Value → World → Prop} {s : Bs} {E0 E1 : Nat}
theorem b_Names {v : Value} {n : Nat} {ids : List Id} (hd : ids.length = n) (hn : n < 2000000) (hg : Gl w) (hr : Rd v E0 32 n (fl ic ids) w)
    (h0 : brk s ≠ 0 → ∀ w', St w (fun _ => False) w' [] → K (.tuple ⟨[.slice none 0 0, .int .i64 40]⟩) w')
    (h : brk s = 0 → ∀ v' w', St w (fun _ => False) w' [row v' 41 33 (nmL s ids).length (fl lc (nmL s ids))] → K (.tuple ⟨[v', .int .i64 0]⟩) w') : CK Tryz.prog 13 [sv s, v] w K := by
  have hS := St.nil w (fun _ => False)
  refine call_k Tryz.func13 k13 Tryz.ntmps13 (Nat.le_of_ble_eq_true rfl) ?_
  (repeat (first | refine g_sq ?_ | refine g_rg ?_ | refine g_r0 ?_ | refine g_ok rfl rfl ?_ | refine g_no rfl ?_ | refine g_no0 rfl ?_ | refine g_bk ?_ | refine g_b ?_ | refine g_sk ?_ | refine g_cT rfl ?_ | refine g_cF rfl ?_ | refine g_x rfl ?_ | refine g_lb ?_))
  refine g_cl rfl rfl (c_Check (hg.in hS) hS fun w' hS => ?_)
  (repeat (first | refine g_sq ?_ | refine g_rg ?_ | refine g_r0 ?_ | refine g_ok rfl rfl ?_ | refine g_no rfl ?_ | refine g_no0 rfl ?_ | refine g_bk ?_ | refine g_b ?_ | refine g_sk ?_ | refine g_cT rfl ?_ | refine g_cF rfl ?_ | refine g_x rfl ?_ | refine g_lb ?_))
  (refine g_cd rfl (fun hc => ?_) (fun hc => ?_) <;> simp only [cmv, arv, Bool.not_eq_true', Bool.not_eq_false', decide_eq_true_eq, decide_eq_false_iff_not] at hc)
  · have e : brk s ≠ 0 := fun e => hc (by unfold nmE; rw [if_pos e])
    have e1 : nmE s = 40 := by unfold nmE; rw [if_neg e]
    rw [e1]
    (repeat (first | refine g_sq ?_ | refine g_rg ?_ | refine g_r0 ?_ | refine g_ok rfl rfl ?_ | refine g_no rfl ?_ | refine g_no0 rfl ?_ | refine g_bk ?_ | refine g_b ?_ | refine g_sk ?_ | refine g_cT rfl ?_ | refine g_cF rfl ?_ | refine g_x rfl ?_ | refine g_lb ?_))
    exact g_ret (q_2 rfl rfl (h0 e _ hS))
  · have e : brk s = 0 := by
      by_cases e : brk s = 0
      · exact e
      · unfold nmE at hc; rw [if_neg e] at hc; omega
    have hle := brk_le e
    replace h := h e
    clear h0
    (repeat (first | refine g_sq ?_ | refine g_rg ?_ | refine g_r0 ?_ | refine g_ok rfl rfl ?_ | refine g_no rfl ?_ | refine g_no0 rfl ?_ | refine g_bk ?_ | refine g_b ?_ | refine g_sk ?_ | refine g_cT rfl ?_ | refine g_cF rfl ?_ | refine g_x rfl ?_ | refine g_lb ?_))
    refine g_cl rfl rfl (b_Set hd hn (hr.same fun b hb => hS.fr.kept b (hr.lt b hb) (fun h => h)) fun v1 w1 h' => ?_)
    replace hS := hS.call0.2 _ _ h'
    replace hS : St w (fun _ => False) w1 [row v1 35 32 (iset ids).length (fl ic (iset ids))] := hS
    clear h'
    have hml : (iset ids).length < 2000000 := by have := kset_len (fun x : Id => x.1) ids; unfold iset; omega
    generalize hI : iset ids = I at hS hml
    obtain ⟨a, c, rfl⟩ := hS.rlen 0 rfl
    (repeat (first | refine g_sq ?_ | refine g_rg ?_ | refine g_r0 ?_ | refine g_ok rfl rfl ?_ | refine g_no rfl ?_ | refine g_no0 rfl ?_ | refine g_bk ?_ | refine g_b ?_ | refine g_sk ?_ | refine g_cT rfl ?_ | refine g_cF rfl ?_ | refine g_x rfl ?_ | refine g_lb ?_))
    refine g_lp (ι := Nat × Value) (fun x => [(0, sv s), (7, .slice a I.length c), (8, x.2), (19, .slice a I.length c), (20, .int .i64 I.length), (21, .int .i64 x.1)])
      (fun x w' => x.1 ≤ I.length ∧ St w (fun _ => False) w' [row (.slice a I.length c) 35 32 I.length (fl ic I), row x.2 41 33 x.1 (fl lc ((I.take x.1).map (nm1 s (decide (1 < I.length)))))]) (fun x => I.length - x.1) (0, .slice none 0 0)
      ⟨rfl, rfl, rfl, rfl, rfl, rfl, trivial⟩ ⟨Nat.zero_le _, hS.nilrow 41 33⟩ ?_
    clear hS
    rintro ⟨k, vo⟩ w1 ⟨hk, hS⟩
    dsimp only at hk hS ⊢
    (repeat (first | refine g_sq ?_ | refine g_rg ?_ | refine g_r0 ?_ | refine g_ok rfl rfl ?_ | refine g_no rfl ?_ | refine g_no0 rfl ?_ | refine g_bk ?_ | refine g_b ?_ | refine g_sk ?_ | refine g_cT rfl ?_ | refine g_cF rfl ?_ | refine g_x rfl ?_ | refine g_lb ?_))
    (refine g_cd rfl (fun hlt => ?_) (fun hlt => ?_) <;> simp only [cmv, arv, Bool.not_eq_true', Bool.not_eq_false', decide_eq_true_eq, decide_eq_false_iff_not] at hlt)
    · have hlt : k < I.length := by omega
      obtain ⟨b, off, cap, l, e1, hcap, hl, hx, hb⟩ := Rd.block (Ow.rd (hS.ok 0 _ rfl)) (by omega)
      cases e1
      (repeat (first | refine g_sq ?_ | refine g_rg ?_ | refine g_r0 ?_ | refine g_ok rfl rfl ?_ | refine g_no rfl ?_ | refine g_no0 rfl ?_ | refine g_bk ?_ | refine g_b ?_ | refine g_sk ?_ | refine g_cT rfl ?_ | refine g_cF rfl ?_ | refine g_x rfl ?_ | refine g_lb ?_))
      refine g_rq rfl rfl ⟨by omega, by omega⟩ ?_
      have hbd : off + k * 32 + 32 ≤ l.length := by have : (k + 1) * 32 ≤ c * 32 := Nat.mul_le_mul_right 32 (by omega); omega
      refine g_lmr rfl rfl hb hbd ?_
      rw [Int.toNat_natCast, rd_at ic_len hx rfl hlt]
      (repeat (first | refine g_sq ?_ | refine g_rg ?_ | refine g_r0 ?_ | refine g_ok rfl rfl ?_ | refine g_no rfl ?_ | refine g_no0 rfl ?_ | refine g_bk ?_ | refine g_b ?_ | refine g_sk ?_ | refine g_cT rfl ?_ | refine g_cF rfl ?_ | refine g_x rfl ?_ | refine g_lb ?_))
      refine g_ef rfl (ef_al hS fun b2 w1 hS => ?_)
      replace hS : St w (fun _ => False) w1 [_, _, cel b2 (bys zid) 35] := hS
      refine g_ef0 rfl (ef_st hS 2 rfl rfl rfl (ic_len _) (by rw [bys_length, zid_len]; decide) (bys_one _) fun w1 hS => ?_)
      replace hS := hS.ceq (l' := ic I[k]) 2 rfl (spl_full _ _ (by show (ic _).length = _; rw [ic_len, bys_length, zid_len]))
      (repeat (first | refine g_sq ?_ | refine g_rg ?_ | refine g_r0 ?_ | refine g_ok rfl rfl ?_ | refine g_no rfl ?_ | refine g_no0 rfl ?_ | refine g_bk ?_ | refine g_b ?_ | refine g_sk ?_ | refine g_cT rfl ?_ | refine g_cF rfl ?_ | refine g_x rfl ?_ | refine g_lb ?_))
      refine g_at 1 [(0, sv s), (7, .slice (some ⟨b, off, none⟩) I.length c), (8, vo), (10, dp b2), (11, sv (nm1 s (decide (1 < I.length)) I[k]).1), (19, .slice (some ⟨b, off, none⟩) I.length c), (20, .int .i64 I.length), (21, .int .i64 k)]
        (fun w' => St w (fun _ => False) w' [row (.slice (some ⟨b, off, none⟩) I.length c) 35 32 I.length (fl ic I), row vo 41 33 k (fl lc ((I.take k).map (nm1 s (decide (1 < I.length))))), cel b2 (ic I[k]) 35]) rfl ?_ ?_
      · refine g_cd rfl (fun hm => ?_) (fun hm => ?_) <;> (simp only [cmv, arv, Bool.not_eq_true', Bool.not_eq_false', decide_eq_true_eq, decide_eq_false_iff_not] at hm)
        · (repeat (first | refine g_sq ?_ | refine g_rg ?_ | refine g_r0 ?_ | refine g_ok rfl rfl ?_ | refine g_no rfl ?_ | refine g_no0 rfl ?_ | refine g_bk ?_ | refine g_b ?_ | refine g_sk ?_ | refine g_cT rfl ?_ | refine g_cF rfl ?_ | refine g_x rfl ?_ | refine g_lb ?_))
          refine g_lm rfl rfl (hS.b 2 rfl) (Nat.le_of_eq (by rw [ic_len])) ?_
          rw [List.drop_zero, List.take_of_length_le (Nat.le_of_eq (ic_len _))]
          refine g_cl rfl rfl (b_Conflict I[k].2 (hg.in hS) fun w' h' => ?_)
          replace hS := hS.call0.2 _ _ h'
          rw [List.append_nil] at hS
          rw [if_pos e]
          (repeat (first | refine g_sq ?_ | refine g_rg ?_ | refine g_r0 ?_ | refine g_ok rfl rfl ?_ | refine g_no rfl ?_ | refine g_no0 rfl ?_ | refine g_bk ?_ | refine g_b ?_ | refine g_sk ?_ | refine g_cT rfl ?_ | refine g_cF rfl ?_ | refine g_x rfl ?_ | refine g_lb ?_))
          have e1 : (nm1 s (decide (1 < I.length)) I[k]).1 = s ++ 126 :: hex I[k].1 := by
            unfold nm1 cfl
            rw [if_pos (decide_eq_true (by omega))]
          exact g_j ⟨rfl, rfl, rfl, rfl, by rw [e1]; rfl, rfl, rfl, rfl, trivial⟩ hS
        · (repeat (first | refine g_sq ?_ | refine g_rg ?_ | refine g_r0 ?_ | refine g_ok rfl rfl ?_ | refine g_no rfl ?_ | refine g_no0 rfl ?_ | refine g_bk ?_ | refine g_b ?_ | refine g_sk ?_ | refine g_cT rfl ?_ | refine g_cF rfl ?_ | refine g_x rfl ?_ | refine g_lb ?_))
          have e1 : (nm1 s (decide (1 < I.length)) I[k]).1 = s := by
            unfold nm1
            rw [if_neg (by rw [decide_eq_true_eq]; omega)]
          exact g_j ⟨rfl, rfl, rfl, rfl, by rw [e1]; rfl, rfl, rfl, rfl, trivial⟩ hS
      · clear hS
        intro T w1 hT hS
        refine g_wkc hT ?_
        (repeat (first | refine g_sq ?_ | refine g_rg ?_ | refine g_r0 ?_ | refine g_ok rfl rfl ?_ | refine g_no rfl ?_ | refine g_no0 rfl ?_ | refine g_bk ?_ | refine g_b ?_ | refine g_sk ?_ | refine g_cT rfl ?_ | refine g_cF rfl ?_ | refine g_x rfl ?_ | refine g_lb ?_))
        refine g_lm rfl rfl (hS.b 2 rfl) (Nat.le_of_eq (by rw [ic_len])) ?_
        rw [List.drop_zero, List.take_of_length_le (Nat.le_of_eq (ic_len _))]
        refine g_qt rfl (qt_bd (out := lc (nm1 s (decide (1 < I.length)) I[k])) (fill_li _ rfl rfl) _) ?_
        refine g_ef rfl (ef_bl (rs := lc (nm1 s (decide (1 < I.length)) I[k])) hS (evcs_1 rfl (lc_len _)) fun g w1 hS => ?_)
        have hone : (lc (nm1 s (decide (1 < I.length)) I[k])).all (·.oneCell') = true := List.all_eq_true.2 (lc_one _)
        refine g_ef rfl (ef_ap (n := k) (m := 1) hS 1 rfl rfl rfl (.inl ⟨41, .inr ⟨g, 0, 1, _, rfl, Nat.le_refl _, Nat.le_of_eq (by rw [lc_len]), by rw [List.drop_zero, List.take_of_length_le (Nat.le_of_eq (lc_len _))], (hS.b 3 rfl).r⟩⟩) hone (by omega) (by omega) fun v1 w1 hS => ?_)
        have est : fl lc ((I.take k).map (nm1 s (decide (1 < I.length)))) ++ lc (nm1 s (decide (1 < I.length)) I[k]) = fl lc ((I.take (k + 1)).map (nm1 s (decide (1 < I.length)))) := by
          rw [List.take_succ_eq_append_getElem hlt, List.map_append, fl_app]
          simp [fl]
        rw [est] at hS
        (repeat (first | refine g_sq ?_ | refine g_rg ?_ | refine g_r0 ?_ | refine g_ok rfl rfl ?_ | refine g_no rfl ?_ | refine g_no0 rfl ?_ | refine g_bk ?_ | refine g_b ?_ | refine g_sk ?_ | refine g_cT rfl ?_ | refine g_cF rfl ?_ | refine g_x rfl ?_ | refine g_lb ?_))
        refine g_rq rfl rfl (in64 (by simp only [arv]; omega)) ?_
        (repeat (first | refine g_sq ?_ | refine g_rg ?_ | refine g_r0 ?_ | refine g_ok rfl rfl ?_ | refine g_no rfl ?_ | refine g_no0 rfl ?_ | refine g_bk ?_ | refine g_b ?_ | refine g_sk ?_ | refine g_cT rfl ?_ | refine g_cF rfl ?_ | refine g_x rfl ?_ | refine g_lb ?_))
        exact g_l (k + 1, v1) ⟨rfl, rfl, rfl, rfl, rfl, rfl, trivial⟩ ⟨by simp only; omega, hS.sel [0, 1] rfl rfl⟩ (by simp only; omega)
    · have ek : k = I.length := by omega
      subst ek
      rw [List.take_length] at hS
      have en : I.map (nm1 s (decide (1 < I.length))) = nmL s ids := by unfold nmL; rw [hI]
      rw [en] at hS
      have enl : (nmL s ids).length = I.length := by rw [← en, List.length_map]
      (repeat (first | refine g_sq ?_ | refine g_rg ?_ | refine g_r0 ?_ | refine g_ok rfl rfl ?_ | refine g_no rfl ?_ | refine g_no0 rfl ?_ | refine g_bk ?_ | refine g_b ?_ | refine g_sk ?_ | refine g_cT rfl ?_ | refine g_cF rfl ?_ | refine g_x rfl ?_ | refine g_lb ?_))
      refine g_cl rfl rfl (CK.fr (A := [row vo 41 33 I.length (fl lc (nmL s ids))]) (B := []) (A' := [row vo 41 33 I.length (fl lc (nmL s ids))]) (hS.sel [1] rfl rfl) (fun hS h => b_SortL enl hml hS fun d' w' hp hs hS => h w' ?_) fun w1 hS => ?_)
      · have ed : d' = nmL s ids := sorted_unique (nmL_inj s ids) hp hs (nmL_sorted s ids)
        rw [ed] at hS
        exact hS
      · (repeat (first | refine g_sq ?_ | refine g_rg ?_ | refine g_r0 ?_ | refine g_ok rfl rfl ?_ | refine g_no rfl ?_ | refine g_no0 rfl ?_ | refine g_bk ?_ | refine g_b ?_ | refine g_sk ?_ | refine g_cT rfl ?_ | refine g_cF rfl ?_ | refine g_x rfl ?_ | refine g_lb ?_))
        rw [← enl] at hS
        exact g_ret (q_2 rfl rfl (h _ _ hS))
end
end Go.Proofs.YtibofabkpgigoaaGreatDoor
