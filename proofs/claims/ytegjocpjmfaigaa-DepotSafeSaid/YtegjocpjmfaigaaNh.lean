/- The statement DepotNumbers: the walk. -/
import Derived.Test.YtegjocpjmfaigaaNg
set_option linter.unusedSimpArgs false
set_option linter.unusedVariables false
namespace Go.Proofs.Ytegjocpjmfaigaa
open Go.En

theorem blocks40 {n : Int} (h : 0 ≤ n ∧ n ≤ 255) : ∃ N : Nat, 4 ≤ N ∧ N ≤ 43 ∧ (IntKind.i64.wrap n).tmod 40 = (N : Int) - 4 := by
  rw [wrap_in (k := .i64) (in64 (by omega))]
  refine ⟨(4 + n % 40).toNat, by omega, by omega, ?_⟩
  rw [Int.tmod_eq_emod_of_nonneg h.1]
  omega
section
variable {P : Dep} {D : Dev} {N : Nat} {v : Bool} {l : List Grp} {b : List UInt8}
theorem PI.num (h : PI P N v l) (he : l = [] → v = false) : P.number = lastOf l := by
  unfold Dep.number
  rw [h.ar]
  by_cases hl : l = []
  · rw [if_pos hl, if_pos rfl, hl]; rfl
  · rw [if_neg hl, if_neg (by split <;> decide), h.liv he, h.lv]; rfl
theorem PI.left (h : PI P N v l) (he : l = [] → v = false) : P.left = N / 2 - usedOf l := by
  unfold Dep.left
  rw [h.ar, h.bk]
  by_cases hl : l = []
  · rw [if_pos hl, if_pos rfl, hl]; rfl
  · rw [if_neg hl, if_neg (by split <;> decide), h.liv he, h.lv]; rfl
theorem PI.list (h : PI P N v l) (he : l = [] → v = false) : P.list = l.map Grp.b := by
  unfold Dep.list
  rw [h.ar]
  by_cases hl : l = []
  · rw [if_pos hl, if_pos rfl, hl]; rfl
  · rw [if_neg hl, if_neg (by split <;> decide), h.liv he, h.lv]
theorem dk_new (hN : 4 ≤ N) : Dk (Dev.new N).cells N false [] := by
  have hz : ∀ b ∈ (Dev.new N).cells, Lo 1 b := fun b hb => by
    have : b = List.replicate 128 0 := List.eq_of_mem_replicate hb
    rw [this]; exact lo_loose loose_zero (Nat.le_refl _)
  exact ⟨List.length_replicate, ⟨_, rfl, fun b hb => hz b (List.mem_of_mem_drop (List.mem_of_mem_take hb))⟩, fun b hb => hz b (List.mem_of_mem_drop (List.mem_of_mem_take hb)), trivial, (fun g hg => nomatch hg), fun _ => rfl⟩
theorem pi_new (hN : 4 ≤ N) : PI (openP (Dev.new N)) N false [] := depot_open (dk_new hN) rfl rfl hN (by decide)
theorem calm_append (hP : PI P N v l) (hD : Dk D.cells N v l) (hc : D.calm) (hw : D.wf) (hwt : D.waits = []) (hb : b.length ≤ 1000) (hk : lastOf l < 255) : (P.append D b).2.1.calm ∧ (P.append D b).2.2 ≠ 141 := by
  have hmx : maxN = 4611686018427387904 := rfl
  have hblk : blk b.length ≤ 10 := by unfold blk; omega
  have hu := hD.used
  have hlen := hD.len
  have hju : (⟨l, lastOf l + 1, false⟩ : Jou).used = usedOf l := rfl
  unfold Dep.append
  rw [if_neg (by rw [hP.sh]; simp)]
  split
  · exact ⟨hc, by simp⟩
  · rw [hP.liv hD.em, hP.bk, hP.lv]
    by_cases hfit : blk b.length ≤ N / 2 - usedOf l
    · obtain ⟨D', h1, h2, _⟩ := append_calm (J := ⟨l, lastOf l + 1, false⟩) (fr := frm v (N / 2)) (bk := N / 2) (b := b) hc hw rfl (by rw [hju]; exact hfit) (by show lastOf l + 1 ≤ maxN; omega) (by rw [hju]; exact hu) (by unfold frm; split <;> omega) (by rw [hwt]; simp; omega)
      rw [h1]
      exact ⟨h2, by simp⟩
    · rw [append_full rfl (by rw [hju]; exact hfit)]
      exact ⟨hc, by simp⟩
theorem calm_compact (hP : PI P N v l) (hD : Dk D.cells N v l) (hc : D.calm) (hw : D.wf) (hwt : D.waits = []) (hb : b.length ≤ 1000) (hk : lastOf l < 255) : (P.compact D b).2.1.calm ∧ (P.compact D b).2.2 ≠ 141 := by
  have hmx : maxN = 4611686018427387904 := rfl
  have hblk : blk b.length ≤ 10 := by unfold blk; omega
  have hnd : needs [b.length] = blk b.length := by simp [needs]; omega
  have hlen := hD.len
  have htop := hP.top
  unfold Dep.compact
  rw [if_neg (by rw [hP.sh]; simp), hnd, hP.bk]
  split
  · exact ⟨hc, by simp⟩
  · rename_i hfit
    rw [htop, if_neg (by omega), hP.tgt]
    have hsh : ((P.j (goal v l)).begin (lastOf l + 1)).shut = false := by
      show (P.j (goal v l)).shut = false
      unfold goal
      split
      · rename_i hl
        have hv := hD.em hl
        subst hv
        rw [hP.lv]
      · exact hP.os
    have hju : ((P.j (goal v l)).begin (lastOf l + 1)).used = 0 := rfl
    obtain ⟨D', h1, h2, _⟩ := append_calm (J := (P.j (goal v l)).begin (lastOf l + 1)) (fr := frm (goal v l) (N / 2)) (bk := N / 2) (b := b) hc hw hsh (by rw [hju]; omega) (by show lastOf l + 1 ≤ maxN; omega) (by rw [hju]; exact Nat.zero_le _) (by unfold frm; split <;> omega) (by rw [hwt]; simp; omega)
    rw [h1]
    simp only
    rw [if_neg (by simp)]
    exact ⟨h2, by simp⟩
theorem needs_l : ∀ (l : List Grp), (∀ g ∈ l, g.b.length ≤ 1000) → needs (l.map fun g => g.b.length) = usedOf l
  | [], _ => rfl
  | g :: l, h => by
    have ih := needs_l l fun x hx => h x (List.mem_cons_of_mem _ hx)
    have hg := h g List.mem_cons_self
    have e1 : needs ((g :: l).map fun g => g.b.length) = min (blk g.b.length) 4096 + needs (l.map fun g => g.b.length) := by simp [needs]
    have e2 : usedOf (g :: l) = blk g.b.length + usedOf l := by simp [usedOf, Grp.many]
    have : blk g.b.length ≤ 10 := by unfold blk; omega
    rw [e1, e2, ih]
    omega
theorem PI.arN (h : PI P N v l) : (P.area = 0 ↔ l = []) := by
  rw [h.ar]
  by_cases hl : l = []
  · rw [if_pos hl]; simp [hl]
  · rw [if_neg hl]; split <;> simp [hl]
theorem nts_app (l : List Nat) (n : Nat) : nts (l ++ [n]) = nts l ++ [.int .i64 (n : Int)] := by simp [nts]
theorem nts_one (l : List Nat) : (nts l).all (·.oneCell') = true := by
  rw [List.all_eq_true]
  intro x hx
  obtain ⟨n, _, rfl⟩ := List.mem_map.1 hx
  rfl
end
section
variable {w w0 : World} {S0 S S1 : Nat → Prop} {K : Value → World → Prop} {E : TypeId} {L B : List Res} {pb d : Nat} {D : Dev}
set_option maxRecDepth 100000 in
set_option maxHeartbeats 1000000 in
theorem l13 {bl : Int} {v : Value} {ops : List Odp} (h0 : 0 ≤ bl ∧ bl ≤ 255) (hv : OpsP E v ops w0) (h : ∀ w', Fr w0 (fun _ => False) w' → K (.bool true) w') : CK Try.prog 13 [.int .u8 bl, v] w0 K := by
  have hS := St.nil w0 (fun _ => False)
  have hfin : ∀ {w' : World} {L : List Res}, St w0 (fun _ => False) w' L → K (.bool true) w' := fun hS => h _ hS.fr
  obtain ⟨N, hN1, hN2, hN⟩ := blocks40 h0
  obtain ⟨a, c, rfl⟩ := Rd.form hv.1
  refine call_k Try.func13 k13 Try.ntmps13 (Nat.le_of_ble_eq_true rfl) ?_
  (repeat (first | refine g_sq ?_ | refine g_rg ?_ | refine g_r0 ?_ | refine g_ok rfl rfl ?_ | refine g_no rfl ?_ | refine g_no0 rfl ?_ | refine g_bk ?_ | refine g_b ?_ | refine g_sk ?_ | refine g_cT rfl ?_ | refine g_cF rfl ?_ | refine g_x rfl ?_ | refine g_lb ?_))
  refine g_cl rfl rfl (c56 hS fun w hS => ?_)
  (repeat (first | refine g_sq ?_ | refine g_rg ?_ | refine g_r0 ?_ | refine g_ok rfl rfl ?_ | refine g_no rfl ?_ | refine g_no0 rfl ?_ | refine g_bk ?_ | refine g_b ?_ | refine g_sk ?_ | refine g_cT rfl ?_ | refine g_cF rfl ?_ | refine g_x rfl ?_ | refine g_lb ?_))
  refine g_rq rfl rfl (by decide) ?_
  rw [hN]
  refine g_rq rfl rfl (in64 (by simp only [arv]; omega)) ?_
  rw [show arv BinOp.add 4 ((N : Int) - 4) = (N : Int) by simp only [arv]; omega]
  refine g_cl rfl rfl (c57 ⟨hN1, by omega⟩ hS fun w S S1 pb d hS => ?_)
  have hS : St w0 (fun _ => False) w [DepR S pb d (openP (Dev.new N)), DevR S1 d (Dev.new N)] := hS
  (repeat (first | refine g_sq ?_ | refine g_rg ?_ | refine g_r0 ?_ | refine g_ok rfl rfl ?_ | refine g_no rfl ?_ | refine g_no0 rfl ?_ | refine g_bk ?_ | refine g_b ?_ | refine g_sk ?_ | refine g_cT rfl ?_ | refine g_cF rfl ?_ | refine g_x rfl ?_ | refine g_lb ?_))
  refine g_cl rfl rfl (l58 (OpsP.to hv hS) (fun hg => ?_) (fun hg => ?_))
  · (repeat (first | refine g_sq ?_ | refine g_rg ?_ | refine g_r0 ?_ | refine g_ok rfl rfl ?_ | refine g_no rfl ?_ | refine g_no0 rfl ?_ | refine g_bk ?_ | refine g_b ?_ | refine g_sk ?_ | refine g_cT rfl ?_ | refine g_cF rfl ?_ | refine g_x rfl ?_ | refine g_lb ?_))
    exact g_ret (q_1 rfl (hfin hS))
  have h60 := hg.1
  (repeat (first | refine g_sq ?_ | refine g_rg ?_ | refine g_r0 ?_ | refine g_ok rfl rfl ?_ | refine g_no rfl ?_ | refine g_no0 rfl ?_ | refine g_bk ?_ | refine g_b ?_ | refine g_sk ?_ | refine g_cT rfl ?_ | refine g_cF rfl ?_ | refine g_x rfl ?_ | refine g_lb ?_))
  refine g_lp (ι := Nat) (fun k => [(1, .slice a ops.length c), (5, .bool true), (7, dp pb), (38, .int .i64 ops.length), (39, .int .i64 k)])
    (fun k w => k ≤ ops.length ∧ ∃ S S1 P D v l, PI P N v l ∧ Dk D.cells N v l ∧ D.calm ∧ D.waits = [] ∧ lastOf l ≤ k ∧ St w0 (fun _ => False) w [DepR S pb d P, DevR S1 d D]) (fun k => ops.length - k) 0 ⟨rfl, rfl, rfl, rfl, rfl, trivial⟩
    ⟨Nat.zero_le _, S, S1, _, _, false, [], pi_new hN1, dk_new hN1, new_calm N, rfl, Nat.zero_le _, hS⟩ ?_
  clear hS
  rintro k w ⟨hk, S, S1, P, D, bv, l, hP, hD, hc, hwt, hlk, hS⟩
  have hem := hD.em
  have hus := hD.used
  (repeat (first | refine g_sq ?_ | refine g_rg ?_ | refine g_r0 ?_ | refine g_ok rfl rfl ?_ | refine g_no rfl ?_ | refine g_no0 rfl ?_ | refine g_bk ?_ | refine g_b ?_ | refine g_sk ?_ | refine g_cT rfl ?_ | refine g_cF rfl ?_ | refine g_x rfl ?_ | refine g_lb ?_))
  refine g_cd rfl (fun hq => ?_) (fun hq => ?_)
  all_goals simp only [cmv, decide_eq_true_eq, decide_eq_false_iff_not] at hq
  · obtain ⟨o, bo, off, cap, lo, av, cv, ho, hmem, he, hov, hxt, hll, hget, hf3, hB⟩ := odp_at hv (k := k) (by omega)
    cases he
    have h1000 := hg.2 o hmem
    have hx1 : lo[off + k * 5 + 1]? = some (.slice av o.bs.length cv) := by rw [hget 1 (by decide), ← hov]; rfl
    rw [hov] at hxt
    (repeat (first | refine g_sq ?_ | refine g_rg ?_ | refine g_r0 ?_ | refine g_ok rfl rfl ?_ | refine g_no rfl ?_ | refine g_no0 rfl ?_ | refine g_bk ?_ | refine g_b ?_ | refine g_sk ?_ | refine g_cT rfl ?_ | refine g_cF rfl ?_ | refine g_x rfl ?_ | refine g_lb ?_))
    refine g_cl rfl rfl (c59 hS fun w S hS => ?_)
    rw [hP.num hem]
    (repeat (first | refine g_sq ?_ | refine g_rg ?_ | refine g_r0 ?_ | refine g_ok rfl rfl ?_ | refine g_no rfl ?_ | refine g_no0 rfl ?_ | refine g_bk ?_ | refine g_b ?_ | refine g_sk ?_ | refine g_cT rfl ?_ | refine g_cF rfl ?_ | refine g_x rfl ?_ | refine g_lb ?_))
    refine g_cl rfl rfl (c60 hS ?_)
    (repeat (first | refine g_sq ?_ | refine g_rg ?_ | refine g_r0 ?_ | refine g_ok rfl rfl ?_ | refine g_no rfl ?_ | refine g_no0 rfl ?_ | refine g_bk ?_ | refine g_b ?_ | refine g_sk ?_ | refine g_cT rfl ?_ | refine g_cF rfl ?_ | refine g_x rfl ?_ | refine g_lb ?_))
    refine g_cl rfl rfl (c61 hS fun w S hS => ?_)
    rw [hP.left hem]
    (repeat (first | refine g_sq ?_ | refine g_rg ?_ | refine g_r0 ?_ | refine g_ok rfl rfl ?_ | refine g_no rfl ?_ | refine g_no0 rfl ?_ | refine g_bk ?_ | refine g_b ?_ | refine g_sk ?_ | refine g_cT rfl ?_ | refine g_cF rfl ?_ | refine g_x rfl ?_ | refine g_lb ?_))
    refine g_cl rfl rfl (c62 hS fun w S S2 vb hS => ?_)
    rw [hP.list hem] at hS
    have hlb : (l.map Grp.b).length = l.length := List.length_map _
    have hll2 := usedOf_len l
    obtain ⟨ab, cb, rfl⟩ := (BsR.rdl hS 1 rfl).form
    rw [hlb] at hS ⊢
    (repeat (first | refine g_sq ?_ | refine g_rg ?_ | refine g_r0 ?_ | refine g_ok rfl rfl ?_ | refine g_no rfl ?_ | refine g_no0 rfl ?_ | refine g_bk ?_ | refine g_b ?_ | refine g_sk ?_ | refine g_cT rfl ?_ | refine g_cF rfl ?_ | refine g_x rfl ?_ | refine g_lb ?_))
    have hS := hS.nilrow 3 1
    have hS : St w0 (fun _ => False) w [DepR S pb d P, BsR S2 (.slice ab l.length cb) (l.map Grp.b), DevR S1 d D, row (.slice none 0 0) 3 1 0 []] := hS
    refine g_lp (ι := Nat × Value) (fun x => [(1, .slice (some ⟨bo, off, none⟩) ops.length c), (5, .bool true), (7, dp pb), (8, .int .i64 k), (9, .int .i64 (lastOf l)), (10, .int .i64 P.area), (11, .int .i64 (N / 2 - usedOf l : Nat)), (12, x.2), (38, .int .i64 ops.length), (39, .int .i64 k), (49, .slice ab l.length cb), (50, .int .i64 l.length), (51, .int .i64 x.1)])
      (fun x w => x.1 ≤ l.length ∧ ∃ s, s = (l.take x.1).map (fun g => g.b.length) ∧ s.length = x.1 ∧ St w0 (fun _ => False) w [DepR S pb d P, BsR S2 (.slice ab l.length cb) (l.map Grp.b), DevR S1 d D, row x.2 3 1 s.length (nts s)]) (fun x => l.length - x.1) (0, .slice none 0 0) ⟨rfl, rfl, rfl, rfl, rfl, rfl, rfl, rfl, rfl, rfl, rfl, rfl, rfl, trivial⟩
      ⟨Nat.zero_le _, [], rfl, rfl, hS⟩ ?_
    clear hS
    rintro ⟨j, vs⟩ w ⟨hj, s, hs, hsl, hS⟩
    simp only at hj hs hsl hS
    obtain ⟨asz, csz, rfl⟩ := hS.rlen 3 rfl
    (repeat (first | refine g_sq ?_ | refine g_rg ?_ | refine g_r0 ?_ | refine g_ok rfl rfl ?_ | refine g_no rfl ?_ | refine g_no0 rfl ?_ | refine g_bk ?_ | refine g_b ?_ | refine g_sk ?_ | refine g_cT rfl ?_ | refine g_cF rfl ?_ | refine g_x rfl ?_ | refine g_lb ?_))
    refine g_cd rfl (fun hq2 => ?_) (fun hq2 => ?_)
    all_goals simp only [cmv, decide_eq_true_eq, decide_eq_false_iff_not] at hq2
    · have hlt : j < l.length := by omega
      have hgk : (l.map Grp.b)[j]? = some (l[j].b) := by rw [List.getElem?_map, List.getElem?_eq_getElem hlt]; rfl
      obtain ⟨bg, og, kg, lg, ug, Eg, Fg, eg, hBg, hxg, hrg⟩ := (BsR.rdl hS 1 rfl).get hgk
      rw [hlb] at eg
      cases eg
      obtain ⟨au, cu, rfl⟩ := Rd.form hrg
      (repeat (first | refine g_sq ?_ | refine g_rg ?_ | refine g_r0 ?_ | refine g_ok rfl rfl ?_ | refine g_no rfl ?_ | refine g_no0 rfl ?_ | refine g_bk ?_ | refine g_b ?_ | refine g_sk ?_ | refine g_cT rfl ?_ | refine g_cF rfl ?_ | refine g_x rfl ?_ | refine g_lb ?_))
      refine g_rq rfl rfl ⟨by omega, by omega⟩ ?_
      refine g_l1r rfl rfl hBg hxg ?_
      (repeat (first | refine g_sq ?_ | refine g_rg ?_ | refine g_r0 ?_ | refine g_ok rfl rfl ?_ | refine g_no rfl ?_ | refine g_no0 rfl ?_ | refine g_bk ?_ | refine g_b ?_ | refine g_sk ?_ | refine g_cT rfl ?_ | refine g_cF rfl ?_ | refine g_x rfl ?_ | refine g_lb ?_))
      refine g_ef rfl (ef_bl (rs := [.int .i64 (l[j].b.length : Int)]) hS rfl fun g w hS => ?_)
      refine g_ef rfl (ef_ap (n := s.length) (m := 1) (ys := [.int .i64 (l[j].b.length : Int)]) hS 3 rfl rfl rfl (.inl ⟨3, .inr ⟨g, 0, 1, _, rfl, Nat.le_refl _, Nat.le_refl _, rfl, (hS.b 4 rfl).r⟩⟩) rfl (by omega) (by omega) fun vs1 w hS => ?_)
      (repeat (first | refine g_sq ?_ | refine g_rg ?_ | refine g_r0 ?_ | refine g_ok rfl rfl ?_ | refine g_no rfl ?_ | refine g_no0 rfl ?_ | refine g_bk ?_ | refine g_b ?_ | refine g_sk ?_ | refine g_cT rfl ?_ | refine g_cF rfl ?_ | refine g_x rfl ?_ | refine g_lb ?_))
      refine g_rq rfl rfl (in64 (by simp only [arv]; omega)) ?_
      (repeat (first | refine g_sq ?_ | refine g_rg ?_ | refine g_r0 ?_ | refine g_ok rfl rfl ?_ | refine g_no rfl ?_ | refine g_no0 rfl ?_ | refine g_bk ?_ | refine g_b ?_ | refine g_sk ?_ | refine g_cT rfl ?_ | refine g_cF rfl ?_ | refine g_x rfl ?_ | refine g_lb ?_))
      refine g_l (j + 1, vs1) ⟨rfl, rfl, rfl, rfl, rfl, rfl, rfl, rfl, rfl, rfl, rfl, rfl, rfl, trivial⟩ ⟨by simp only; omega, s ++ [l[j].b.length], ?_, by rw [List.length_append, hsl]; rfl, ?_⟩ (by simp only; omega)
      · simp only
        rw [List.take_succ_eq_append_getElem hlt, List.map_append, hs]
        rfl
      · have e1 : (s ++ [l[j].b.length]).length = s.length + 1 := by simp
        rw [e1, nts_app]
        exact hS.sel [0, 1, 2, 3] rfl rfl
    have hjl : j = l.length := by omega
    subst hjl
    rw [List.take_length] at hs
    have hsn : needs s = usedOf l := by rw [hs]; exact needs_l l hD.sz
    have hsb : ∀ n ∈ s, n ≤ 1000000 := fun n hn => by
      rw [hs] at hn
      obtain ⟨g, hgm, rfl⟩ := List.mem_map.1 hn
      have := hD.sz g hgm
      omega
    have hS := hS.sel [0, 2, 3] rfl rfl
    (repeat (first | refine g_sq ?_ | refine g_rg ?_ | refine g_r0 ?_ | refine g_ok rfl rfl ?_ | refine g_no rfl ?_ | refine g_no0 rfl ?_ | refine g_bk ?_ | refine g_b ?_ | refine g_sk ?_ | refine g_cT rfl ?_ | refine g_cF rfl ?_ | refine g_x rfl ?_ | refine g_lb ?_))
    refine g_rq rfl rfl ⟨by omega, by omega⟩ ?_
    (repeat (first | refine g_sq ?_ | refine g_rg ?_ | refine g_r0 ?_ | refine g_ok rfl rfl ?_ | refine g_no rfl ?_ | refine g_no0 rfl ?_ | refine g_bk ?_ | refine g_b ?_ | refine g_sk ?_ | refine g_cT rfl ?_ | refine g_cF rfl ?_ | refine g_x rfl ?_ | refine g_lb ?_))
    refine g_l1r (v := .int .i64 o.k) rfl rfl (hB hS) (hget 0 (by decide)) ?_
    (repeat (first | refine g_sq ?_ | refine g_rg ?_ | refine g_r0 ?_ | refine g_ok rfl rfl ?_ | refine g_no rfl ?_ | refine g_no0 rfl ?_ | refine g_bk ?_ | refine g_b ?_ | refine g_sk ?_ | refine g_cT rfl ?_ | refine g_cF rfl ?_ | refine g_x rfl ?_ | refine g_lb ?_))
    have hwf := (DevR.blk (hS.sel [1] rfl rfl)).1
    refine g_cd rfl (fun hz => ?_) (fun hz => ?_)
    all_goals simp only [cmv, decide_eq_true_eq, decide_eq_false_iff_not] at hz
    · -- an entry
      (repeat (first | refine g_sq ?_ | refine g_rg ?_ | refine g_r0 ?_ | refine g_ok rfl rfl ?_ | refine g_no rfl ?_ | refine g_no0 rfl ?_ | refine g_bk ?_ | refine g_b ?_ | refine g_sk ?_ | refine g_cT rfl ?_ | refine g_cF rfl ?_ | refine g_x rfl ?_ | refine g_lb ?_))
      refine g_rq rfl rfl ⟨by omega, by omega⟩ ?_
      (repeat (first | refine g_sq ?_ | refine g_rg ?_ | refine g_r0 ?_ | refine g_ok rfl rfl ?_ | refine g_no rfl ?_ | refine g_no0 rfl ?_ | refine g_bk ?_ | refine g_b ?_ | refine g_sk ?_ | refine g_cT rfl ?_ | refine g_cF rfl ?_ | refine g_x rfl ?_ | refine g_lb ?_))
      refine g_l1r rfl rfl (hB hS) hx1 ?_
      obtain ⟨E2, hu⟩ := hxt.rd hS
      refine g_cl rfl rfl (c63 (bs := o.bs) (by omega) (by rw [hwt]; decide) hu (fun x hx => ⟨hxt.dis hS 0 rfl x hx, hxt.dis hS 1 rfl x hx⟩) hS fun w S S1 hS => ?_)
      have hcm := calm_append (b := o.bs) hP hD hc hwf hwt h1000 (by omega)
      (repeat (first | refine g_sq ?_ | refine g_rg ?_ | refine g_r0 ?_ | refine g_ok rfl rfl ?_ | refine g_no rfl ?_ | refine g_no0 rfl ?_ | refine g_bk ?_ | refine g_b ?_ | refine g_sk ?_ | refine g_cT rfl ?_ | refine g_cF rfl ?_ | refine g_x rfl ?_ | refine g_lb ?_))
      refine g_rq rfl rfl ⟨by omega, by omega⟩ ?_
      (repeat (first | refine g_sq ?_ | refine g_rg ?_ | refine g_r0 ?_ | refine g_ok rfl rfl ?_ | refine g_no rfl ?_ | refine g_no0 rfl ?_ | refine g_bk ?_ | refine g_b ?_ | refine g_sk ?_ | refine g_cT rfl ?_ | refine g_cF rfl ?_ | refine g_x rfl ?_ | refine g_lb ?_))
      refine g_l1r rfl rfl (hB hS) hx1 ?_
      (repeat (first | refine g_sq ?_ | refine g_rg ?_ | refine g_r0 ?_ | refine g_ok rfl rfl ?_ | refine g_no rfl ?_ | refine g_no0 rfl ?_ | refine g_bk ?_ | refine g_b ?_ | refine g_sk ?_ | refine g_cT rfl ?_ | refine g_cF rfl ?_ | refine g_x rfl ?_ | refine g_lb ?_))
      refine g_ef rfl (ef_bl (rs := [.int .i64 (o.bs.length : Int)]) hS rfl fun g w hS => ?_)
      refine g_ef rfl (ef_ap (n := s.length) (m := 1) (ys := [.int .i64 (o.bs.length : Int)]) hS 2 rfl (by rw [hsl]; rfl) rfl (.inl ⟨3, .inr ⟨g, 0, 1, _, rfl, Nat.le_refl _, Nat.le_refl _, rfl, (hS.b 3 rfl).r⟩⟩) rfl (by omega) (by omega) fun vs1 w hS => ?_)
      have hr : Rd vs1 3 1 (s ++ [o.bs.length]).length (nts (s ++ [o.bs.length])) w := by
        rw [nts_app, show (s ++ [o.bs.length]).length = s.length + 1 by simp]
        exact (hS.ok 2 _ rfl : Ow _ _ _ _ _ _).rd
      have hsb2 : ∀ n ∈ s ++ [o.bs.length], n ≤ 1000000 := fun n hn => by
        rcases List.mem_append.1 hn with hn | hn
        · exact hsb n hn
        · simp at hn; omega
      have hn2 : needs (s ++ [o.bs.length]) = usedOf l + blk o.bs.length := by
        have : blk o.bs.length ≤ 10 := by unfold blk; omega
        rw [needs_app, hsn]; simp [needs]; omega
      have hS := hS.sel [0, 1] rfl rfl
      have hrl : (s ++ [o.bs.length]).length ≤ 1000000 := by rw [List.length_append, hsl]; simp; omega
      rcases depot_append (b := o.bs) hP hD hc.1 hwt hwf h1000 ⟨hN1, by omega⟩ (by omega) with ⟨hl, e⟩ | ⟨hl, hfit, P', e, hP'⟩ | ⟨hl, hfit, P', D', e, _, hw', hP', hD'⟩ | ⟨hl, hfit, P', D', e, _⟩
      · rw [e] at hS ⊢
        simp only at hS
        refine g_cl rfl rfl (c64 hr hsb2 hrl hS fun w hS => ?_)
        rw [show (P.area : Int) = 0 by have := hP.arN.2 hl; omega]
        (repeat (first | refine g_sq ?_ | refine g_rg ?_ | refine g_r0 ?_ | refine g_ok rfl rfl ?_ | refine g_no rfl ?_ | refine g_no0 rfl ?_ | refine g_bk ?_ | refine g_b ?_ | refine g_sk ?_ | refine g_cT rfl ?_ | refine g_cF rfl ?_ | refine g_x rfl ?_ | refine g_lb ?_))
        refine g_cl rfl rfl (c59 hS fun w S hS => ?_)
        rw [hP.num hem]
        (repeat (first | refine g_sq ?_ | refine g_rg ?_ | refine g_r0 ?_ | refine g_ok rfl rfl ?_ | refine g_no rfl ?_ | refine g_no0 rfl ?_ | refine g_bk ?_ | refine g_b ?_ | refine g_sk ?_ | refine g_cT rfl ?_ | refine g_cF rfl ?_ | refine g_x rfl ?_ | refine g_lb ?_))
        rw [cmv_neq (lastOf l : Int)]
        (repeat (first | refine g_sq ?_ | refine g_rg ?_ | refine g_r0 ?_ | refine g_ok rfl rfl ?_ | refine g_no rfl ?_ | refine g_no0 rfl ?_ | refine g_bk ?_ | refine g_b ?_ | refine g_sk ?_ | refine g_cT rfl ?_ | refine g_cF rfl ?_ | refine g_x rfl ?_ | refine g_lb ?_))
        refine g_cl rfl rfl (c61 hS fun w S hS => ?_)
        rw [hP.left hem]
        (repeat (first | refine g_sq ?_ | refine g_rg ?_ | refine g_r0 ?_ | refine g_ok rfl rfl ?_ | refine g_no rfl ?_ | refine g_no0 rfl ?_ | refine g_bk ?_ | refine g_b ?_ | refine g_sk ?_ | refine g_cT rfl ?_ | refine g_cF rfl ?_ | refine g_x rfl ?_ | refine g_lb ?_))
        rw [cmv_neq ((N / 2 - usedOf l : Nat) : Int)]
        (repeat (first | refine g_sq ?_ | refine g_rg ?_ | refine g_r0 ?_ | refine g_ok rfl rfl ?_ | refine g_no rfl ?_ | refine g_no0 rfl ?_ | refine g_bk ?_ | refine g_b ?_ | refine g_sk ?_ | refine g_cT rfl ?_ | refine g_cF rfl ?_ | refine g_x rfl ?_ | refine g_lb ?_))
        refine g_rq rfl rfl (in64 (by simp only [arv]; omega)) ?_
        (repeat (first | refine g_sq ?_ | refine g_rg ?_ | refine g_r0 ?_ | refine g_ok rfl rfl ?_ | refine g_no rfl ?_ | refine g_no0 rfl ?_ | refine g_bk ?_ | refine g_b ?_ | refine g_sk ?_ | refine g_cT rfl ?_ | refine g_cF rfl ?_ | refine g_x rfl ?_ | refine g_lb ?_))
        exact g_l (k + 1) ⟨rfl, rfl, rfl, rfl, rfl, trivial⟩ ⟨by omega, S, S1, P, D, bv, l, hP, hD, hc, hwt, by omega, hS⟩ (by omega)
      · rw [e] at hS ⊢
        simp only at hS
        refine g_cl rfl rfl (c64 hr hsb2 hrl hS fun w hS => ?_)
        rw [hn2, hP'.bk, decide_eq_false (by omega)]
        (repeat (first | refine g_sq ?_ | refine g_rg ?_ | refine g_r0 ?_ | refine g_ok rfl rfl ?_ | refine g_no rfl ?_ | refine g_no0 rfl ?_ | refine g_bk ?_ | refine g_b ?_ | refine g_sk ?_ | refine g_cT rfl ?_ | refine g_cF rfl ?_ | refine g_x rfl ?_ | refine g_lb ?_))
        rw [show cmv BinOp.eql (P.area : Int) 0 = false by
          have : P.area ≠ 0 := fun e => hl (hP.arN.1 e)
          simp only [cmv, decide_eq_false_iff_not]; omega]
        (repeat (first | refine g_sq ?_ | refine g_rg ?_ | refine g_r0 ?_ | refine g_ok rfl rfl ?_ | refine g_no rfl ?_ | refine g_no0 rfl ?_ | refine g_bk ?_ | refine g_b ?_ | refine g_sk ?_ | refine g_cT rfl ?_ | refine g_cF rfl ?_ | refine g_x rfl ?_ | refine g_lb ?_))
        refine g_cl rfl rfl (c59 hS fun w S hS => ?_)
        rw [hP'.num hem]
        (repeat (first | refine g_sq ?_ | refine g_rg ?_ | refine g_r0 ?_ | refine g_ok rfl rfl ?_ | refine g_no rfl ?_ | refine g_no0 rfl ?_ | refine g_bk ?_ | refine g_b ?_ | refine g_sk ?_ | refine g_cT rfl ?_ | refine g_cF rfl ?_ | refine g_x rfl ?_ | refine g_lb ?_))
        rw [cmv_neq (lastOf l : Int)]
        (repeat (first | refine g_sq ?_ | refine g_rg ?_ | refine g_r0 ?_ | refine g_ok rfl rfl ?_ | refine g_no rfl ?_ | refine g_no0 rfl ?_ | refine g_bk ?_ | refine g_b ?_ | refine g_sk ?_ | refine g_cT rfl ?_ | refine g_cF rfl ?_ | refine g_x rfl ?_ | refine g_lb ?_))
        refine g_cl rfl rfl (c61 hS fun w S hS => ?_)
        rw [hP'.left hem]
        (repeat (first | refine g_sq ?_ | refine g_rg ?_ | refine g_r0 ?_ | refine g_ok rfl rfl ?_ | refine g_no rfl ?_ | refine g_no0 rfl ?_ | refine g_bk ?_ | refine g_b ?_ | refine g_sk ?_ | refine g_cT rfl ?_ | refine g_cF rfl ?_ | refine g_x rfl ?_ | refine g_lb ?_))
        rw [cmv_neq ((N / 2 - usedOf l : Nat) : Int)]
        (repeat (first | refine g_sq ?_ | refine g_rg ?_ | refine g_r0 ?_ | refine g_ok rfl rfl ?_ | refine g_no rfl ?_ | refine g_no0 rfl ?_ | refine g_bk ?_ | refine g_b ?_ | refine g_sk ?_ | refine g_cT rfl ?_ | refine g_cF rfl ?_ | refine g_x rfl ?_ | refine g_lb ?_))
        refine g_rq rfl rfl (in64 (by simp only [arv]; omega)) ?_
        (repeat (first | refine g_sq ?_ | refine g_rg ?_ | refine g_r0 ?_ | refine g_ok rfl rfl ?_ | refine g_no rfl ?_ | refine g_no0 rfl ?_ | refine g_bk ?_ | refine g_b ?_ | refine g_sk ?_ | refine g_cT rfl ?_ | refine g_cF rfl ?_ | refine g_x rfl ?_ | refine g_lb ?_))
        exact g_l (k + 1) ⟨rfl, rfl, rfl, rfl, rfl, trivial⟩ ⟨by omega, S, S1, P', D, bv, l, hP', hD, hc, hwt, by omega, hS⟩ (by omega)
      · rw [e] at hS hcm ⊢
        simp only at hS hcm
        have hlast : lastOf (l ++ [(⟨lastOf l + 1, o.bs⟩ : Grp)]) = lastOf l + 1 := lastOf_app _ _
        refine g_cl rfl rfl (c64 hr hsb2 hrl hS fun w hS => ?_)
        rw [hn2, hP'.bk, decide_eq_true hfit]
        (repeat (first | refine g_sq ?_ | refine g_rg ?_ | refine g_r0 ?_ | refine g_ok rfl rfl ?_ | refine g_no rfl ?_ | refine g_no0 rfl ?_ | refine g_bk ?_ | refine g_b ?_ | refine g_sk ?_ | refine g_cT rfl ?_ | refine g_cF rfl ?_ | refine g_x rfl ?_ | refine g_lb ?_))
        rw [show cmv BinOp.eql (P.area : Int) 0 = false by
          have : P.area ≠ 0 := fun e => hl (hP.arN.1 e)
          simp only [cmv, decide_eq_false_iff_not]; omega]
        (repeat (first | refine g_sq ?_ | refine g_rg ?_ | refine g_r0 ?_ | refine g_ok rfl rfl ?_ | refine g_no rfl ?_ | refine g_no0 rfl ?_ | refine g_bk ?_ | refine g_b ?_ | refine g_sk ?_ | refine g_cT rfl ?_ | refine g_cF rfl ?_ | refine g_x rfl ?_ | refine g_lb ?_))
        refine g_cl rfl rfl (c59 hS fun w S hS => ?_)
        rw [hP'.num hD'.em, hlast]
        (repeat (first | refine g_sq ?_ | refine g_rg ?_ | refine g_r0 ?_ | refine g_ok rfl rfl ?_ | refine g_no rfl ?_ | refine g_no0 rfl ?_ | refine g_bk ?_ | refine g_b ?_ | refine g_sk ?_ | refine g_cT rfl ?_ | refine g_cF rfl ?_ | refine g_x rfl ?_ | refine g_lb ?_))
        refine g_rq rfl rfl (in64 (by simp only [arv]; omega)) ?_
        (repeat (first | refine g_sq ?_ | refine g_rg ?_ | refine g_r0 ?_ | refine g_ok rfl rfl ?_ | refine g_no rfl ?_ | refine g_no0 rfl ?_ | refine g_bk ?_ | refine g_b ?_ | refine g_sk ?_ | refine g_cT rfl ?_ | refine g_cF rfl ?_ | refine g_x rfl ?_ | refine g_lb ?_))
        rw [show cmv BinOp.neq ((lastOf l + 1 : Nat) : Int) (arv BinOp.add (lastOf l : Int) 1) = false by simp [cmv, arv]]
        (repeat (first | refine g_sq ?_ | refine g_rg ?_ | refine g_r0 ?_ | refine g_ok rfl rfl ?_ | refine g_no rfl ?_ | refine g_no0 rfl ?_ | refine g_bk ?_ | refine g_b ?_ | refine g_sk ?_ | refine g_cT rfl ?_ | refine g_cF rfl ?_ | refine g_x rfl ?_ | refine g_lb ?_))
        refine g_cl rfl rfl (c60 hS ?_)
        rw [show (P'.area : Int) = (P.area : Int) by rw [hP'.ar, hP.ar, if_neg hl, if_neg (app_ne _ _)]]
        (repeat (first | refine g_sq ?_ | refine g_rg ?_ | refine g_r0 ?_ | refine g_ok rfl rfl ?_ | refine g_no rfl ?_ | refine g_no0 rfl ?_ | refine g_bk ?_ | refine g_b ?_ | refine g_sk ?_ | refine g_cT rfl ?_ | refine g_cF rfl ?_ | refine g_x rfl ?_ | refine g_lb ?_))
        rw [cmv_neq (P.area : Int)]
        (repeat (first | refine g_sq ?_ | refine g_rg ?_ | refine g_r0 ?_ | refine g_ok rfl rfl ?_ | refine g_no rfl ?_ | refine g_no0 rfl ?_ | refine g_bk ?_ | refine g_b ?_ | refine g_sk ?_ | refine g_cT rfl ?_ | refine g_cF rfl ?_ | refine g_x rfl ?_ | refine g_lb ?_))
        refine g_rq rfl rfl (in64 (by simp only [arv]; omega)) ?_
        (repeat (first | refine g_sq ?_ | refine g_rg ?_ | refine g_r0 ?_ | refine g_ok rfl rfl ?_ | refine g_no rfl ?_ | refine g_no0 rfl ?_ | refine g_bk ?_ | refine g_b ?_ | refine g_sk ?_ | refine g_cT rfl ?_ | refine g_cF rfl ?_ | refine g_x rfl ?_ | refine g_lb ?_))
        exact g_l (k + 1) ⟨rfl, rfl, rfl, rfl, rfl, trivial⟩ ⟨by omega, S, S1, P', D', bv, _, hP', hD', hcm.1, hw', by omega, hS⟩ (by omega)
      · rw [e] at hcm
        exact absurd rfl hcm.2
    · (repeat (first | refine g_sq ?_ | refine g_rg ?_ | refine g_r0 ?_ | refine g_ok rfl rfl ?_ | refine g_no rfl ?_ | refine g_no0 rfl ?_ | refine g_bk ?_ | refine g_b ?_ | refine g_sk ?_ | refine g_cT rfl ?_ | refine g_cF rfl ?_ | refine g_x rfl ?_ | refine g_lb ?_))
      refine g_cd rfl (fun hz2 => ?_) (fun hz2 => ?_)
      all_goals simp only [cmv, decide_eq_true_eq, decide_eq_false_iff_not] at hz2
      · -- a snapshot
        (repeat (first | refine g_sq ?_ | refine g_rg ?_ | refine g_r0 ?_ | refine g_ok rfl rfl ?_ | refine g_no rfl ?_ | refine g_no0 rfl ?_ | refine g_bk ?_ | refine g_b ?_ | refine g_sk ?_ | refine g_cT rfl ?_ | refine g_cF rfl ?_ | refine g_x rfl ?_ | refine g_lb ?_))
        refine g_rq rfl rfl ⟨by omega, by omega⟩ ?_
        (repeat (first | refine g_sq ?_ | refine g_rg ?_ | refine g_r0 ?_ | refine g_ok rfl rfl ?_ | refine g_no rfl ?_ | refine g_no0 rfl ?_ | refine g_bk ?_ | refine g_b ?_ | refine g_sk ?_ | refine g_cT rfl ?_ | refine g_cF rfl ?_ | refine g_x rfl ?_ | refine g_lb ?_))
        refine g_l1r rfl rfl (hB hS) hx1 ?_
        obtain ⟨E2, hu⟩ := hxt.rd hS
        refine g_cl rfl rfl (c65 (bs := o.bs) (by omega) (by rw [hwt]; decide) hu (fun x hx => ⟨hxt.dis hS 0 rfl x hx, hxt.dis hS 1 rfl x hx⟩) hS fun w S S1 hS => ?_)
        have hcm := calm_compact (b := o.bs) hP hD hc hwf hwt h1000 (by omega)
        have hnd : needs [o.bs.length] = blk o.bs.length := by
          have : blk o.bs.length ≤ 10 := by unfold blk; omega
          simp [needs]; omega
        have hS := hS.sel [0, 1] rfl rfl
        rcases depot_compact (b := o.bs) hP hD hc.1 hwt hwf h1000 ⟨hN1, by omega⟩ (by omega) with ⟨hfit, e⟩ | ⟨hfit, P', D', e, _, hw', hP', hD'⟩ | ⟨hfit, P', D', e, _⟩
        · rw [e] at hS ⊢
          simp only at hS
          (repeat (first | refine g_sq ?_ | refine g_rg ?_ | refine g_r0 ?_ | refine g_ok rfl rfl ?_ | refine g_no rfl ?_ | refine g_no0 rfl ?_ | refine g_bk ?_ | refine g_b ?_ | refine g_sk ?_ | refine g_cT rfl ?_ | refine g_cF rfl ?_ | refine g_x rfl ?_ | refine g_lb ?_))
          refine g_rq rfl rfl ⟨by omega, by omega⟩ ?_
          (repeat (first | refine g_sq ?_ | refine g_rg ?_ | refine g_r0 ?_ | refine g_ok rfl rfl ?_ | refine g_no rfl ?_ | refine g_no0 rfl ?_ | refine g_bk ?_ | refine g_b ?_ | refine g_sk ?_ | refine g_cT rfl ?_ | refine g_cF rfl ?_ | refine g_x rfl ?_ | refine g_lb ?_))
          refine g_l1r rfl rfl (hB hS) hx1 ?_
          (repeat (first | refine g_sq ?_ | refine g_rg ?_ | refine g_r0 ?_ | refine g_ok rfl rfl ?_ | refine g_no rfl ?_ | refine g_no0 rfl ?_ | refine g_bk ?_ | refine g_b ?_ | refine g_sk ?_ | refine g_cT rfl ?_ | refine g_cF rfl ?_ | refine g_x rfl ?_ | refine g_lb ?_))
          refine g_ef rfl (ef_bl (rs := [.int .i64 (o.bs.length : Int)]) hS rfl fun g w hS => ?_)
          have hr : Rd (.slice (some ⟨g, 0, none⟩) 1 1) 3 1 [o.bs.length].length (nts [o.bs.length]) w := .inr ⟨g, 0, 1, _, rfl, Nat.le_refl _, Nat.le_refl _, rfl, (hS.b 2 rfl).r⟩
          refine g_cl rfl rfl (c64 hr (fun n hn => by simp at hn; omega) (by simp) hS fun w hS => ?_)
          rw [hnd, hP.bk, decide_eq_false (by omega)]
          (repeat (first | refine g_sq ?_ | refine g_rg ?_ | refine g_r0 ?_ | refine g_ok rfl rfl ?_ | refine g_no rfl ?_ | refine g_no0 rfl ?_ | refine g_bk ?_ | refine g_b ?_ | refine g_sk ?_ | refine g_cT rfl ?_ | refine g_cF rfl ?_ | refine g_x rfl ?_ | refine g_lb ?_))
          refine g_cl rfl rfl (c59 hS fun w S hS => ?_)
          rw [hP.num hem]
          (repeat (first | refine g_sq ?_ | refine g_rg ?_ | refine g_r0 ?_ | refine g_ok rfl rfl ?_ | refine g_no rfl ?_ | refine g_no0 rfl ?_ | refine g_bk ?_ | refine g_b ?_ | refine g_sk ?_ | refine g_cT rfl ?_ | refine g_cF rfl ?_ | refine g_x rfl ?_ | refine g_lb ?_))
          rw [cmv_neq (lastOf l : Int)]
          (repeat (first | refine g_sq ?_ | refine g_rg ?_ | refine g_r0 ?_ | refine g_ok rfl rfl ?_ | refine g_no rfl ?_ | refine g_no0 rfl ?_ | refine g_bk ?_ | refine g_b ?_ | refine g_sk ?_ | refine g_cT rfl ?_ | refine g_cF rfl ?_ | refine g_x rfl ?_ | refine g_lb ?_))
          refine g_cl rfl rfl (c60 hS ?_)
          (repeat (first | refine g_sq ?_ | refine g_rg ?_ | refine g_r0 ?_ | refine g_ok rfl rfl ?_ | refine g_no rfl ?_ | refine g_no0 rfl ?_ | refine g_bk ?_ | refine g_b ?_ | refine g_sk ?_ | refine g_cT rfl ?_ | refine g_cF rfl ?_ | refine g_x rfl ?_ | refine g_lb ?_))
          rw [cmv_neq (P.area : Int)]
          (repeat (first | refine g_sq ?_ | refine g_rg ?_ | refine g_r0 ?_ | refine g_ok rfl rfl ?_ | refine g_no rfl ?_ | refine g_no0 rfl ?_ | refine g_bk ?_ | refine g_b ?_ | refine g_sk ?_ | refine g_cT rfl ?_ | refine g_cF rfl ?_ | refine g_x rfl ?_ | refine g_lb ?_))
          refine g_cl rfl rfl (c61 hS fun w S hS => ?_)
          rw [hP.left hem]
          (repeat (first | refine g_sq ?_ | refine g_rg ?_ | refine g_r0 ?_ | refine g_ok rfl rfl ?_ | refine g_no rfl ?_ | refine g_no0 rfl ?_ | refine g_bk ?_ | refine g_b ?_ | refine g_sk ?_ | refine g_cT rfl ?_ | refine g_cF rfl ?_ | refine g_x rfl ?_ | refine g_lb ?_))
          rw [cmv_neq ((N / 2 - usedOf l : Nat) : Int)]
          (repeat (first | refine g_sq ?_ | refine g_rg ?_ | refine g_r0 ?_ | refine g_ok rfl rfl ?_ | refine g_no rfl ?_ | refine g_no0 rfl ?_ | refine g_bk ?_ | refine g_b ?_ | refine g_sk ?_ | refine g_cT rfl ?_ | refine g_cF rfl ?_ | refine g_x rfl ?_ | refine g_lb ?_))
          refine g_rq rfl rfl (in64 (by simp only [arv]; omega)) ?_
          (repeat (first | refine g_sq ?_ | refine g_rg ?_ | refine g_r0 ?_ | refine g_ok rfl rfl ?_ | refine g_no rfl ?_ | refine g_no0 rfl ?_ | refine g_bk ?_ | refine g_b ?_ | refine g_sk ?_ | refine g_cT rfl ?_ | refine g_cF rfl ?_ | refine g_x rfl ?_ | refine g_lb ?_))
          exact g_l (k + 1) ⟨rfl, rfl, rfl, rfl, rfl, trivial⟩ ⟨by omega, S, S1, P, D, bv, l, hP, hD, hc, hwt, by omega, hS.sel [0, 1] rfl rfl⟩ (by omega)
        · rw [e] at hS hcm ⊢
          simp only at hS hcm
          (repeat (first | refine g_sq ?_ | refine g_rg ?_ | refine g_r0 ?_ | refine g_ok rfl rfl ?_ | refine g_no rfl ?_ | refine g_no0 rfl ?_ | refine g_bk ?_ | refine g_b ?_ | refine g_sk ?_ | refine g_cT rfl ?_ | refine g_cF rfl ?_ | refine g_x rfl ?_ | refine g_lb ?_))
          refine g_rq rfl rfl ⟨by omega, by omega⟩ ?_
          (repeat (first | refine g_sq ?_ | refine g_rg ?_ | refine g_r0 ?_ | refine g_ok rfl rfl ?_ | refine g_no rfl ?_ | refine g_no0 rfl ?_ | refine g_bk ?_ | refine g_b ?_ | refine g_sk ?_ | refine g_cT rfl ?_ | refine g_cF rfl ?_ | refine g_x rfl ?_ | refine g_lb ?_))
          refine g_l1r rfl rfl (hB hS) hx1 ?_
          (repeat (first | refine g_sq ?_ | refine g_rg ?_ | refine g_r0 ?_ | refine g_ok rfl rfl ?_ | refine g_no rfl ?_ | refine g_no0 rfl ?_ | refine g_bk ?_ | refine g_b ?_ | refine g_sk ?_ | refine g_cT rfl ?_ | refine g_cF rfl ?_ | refine g_x rfl ?_ | refine g_lb ?_))
          refine g_ef rfl (ef_bl (rs := [.int .i64 (o.bs.length : Int)]) hS rfl fun g w hS => ?_)
          have hr : Rd (.slice (some ⟨g, 0, none⟩) 1 1) 3 1 [o.bs.length].length (nts [o.bs.length]) w := .inr ⟨g, 0, 1, _, rfl, Nat.le_refl _, Nat.le_refl _, rfl, (hS.b 2 rfl).r⟩
          refine g_cl rfl rfl (c64 hr (fun n hn => by simp at hn; omega) (by simp) hS fun w hS => ?_)
          rw [hnd, hP'.bk, decide_eq_true hfit]
          (repeat (first | refine g_sq ?_ | refine g_rg ?_ | refine g_r0 ?_ | refine g_ok rfl rfl ?_ | refine g_no rfl ?_ | refine g_no0 rfl ?_ | refine g_bk ?_ | refine g_b ?_ | refine g_sk ?_ | refine g_cT rfl ?_ | refine g_cF rfl ?_ | refine g_x rfl ?_ | refine g_lb ?_))
          refine g_cl rfl rfl (c59 hS fun w S hS => ?_)
          rw [hP'.num hD'.em, show lastOf [(⟨lastOf l + 1, o.bs⟩ : Grp)] = lastOf l + 1 from rfl]
          (repeat (first | refine g_sq ?_ | refine g_rg ?_ | refine g_r0 ?_ | refine g_ok rfl rfl ?_ | refine g_no rfl ?_ | refine g_no0 rfl ?_ | refine g_bk ?_ | refine g_b ?_ | refine g_sk ?_ | refine g_cT rfl ?_ | refine g_cF rfl ?_ | refine g_x rfl ?_ | refine g_lb ?_))
          refine g_rq rfl rfl (in64 (by simp only [arv]; omega)) ?_
          (repeat (first | refine g_sq ?_ | refine g_rg ?_ | refine g_r0 ?_ | refine g_ok rfl rfl ?_ | refine g_no rfl ?_ | refine g_no0 rfl ?_ | refine g_bk ?_ | refine g_b ?_ | refine g_sk ?_ | refine g_cT rfl ?_ | refine g_cF rfl ?_ | refine g_x rfl ?_ | refine g_lb ?_))
          rw [show cmv BinOp.neq ((lastOf l + 1 : Nat) : Int) (arv BinOp.add (lastOf l : Int) 1) = false by simp [cmv, arv]]
          (repeat (first | refine g_sq ?_ | refine g_rg ?_ | refine g_r0 ?_ | refine g_ok rfl rfl ?_ | refine g_no rfl ?_ | refine g_no0 rfl ?_ | refine g_bk ?_ | refine g_b ?_ | refine g_sk ?_ | refine g_cT rfl ?_ | refine g_cF rfl ?_ | refine g_x rfl ?_ | refine g_lb ?_))
          refine g_cl rfl rfl (c60 hS ?_)
          (repeat (first | refine g_sq ?_ | refine g_rg ?_ | refine g_r0 ?_ | refine g_ok rfl rfl ?_ | refine g_no rfl ?_ | refine g_no0 rfl ?_ | refine g_bk ?_ | refine g_b ?_ | refine g_sk ?_ | refine g_cT rfl ?_ | refine g_cF rfl ?_ | refine g_x rfl ?_ | refine g_lb ?_))
          rw [show cmv BinOp.eql (P'.area : Int) (P.area : Int) = false by
            have : P'.area ≠ P.area := by
              rw [hP'.ar, hP.ar, if_neg (by simp)]
              unfold goal
              by_cases hl : l = []
              · rw [if_pos hl, if_pos hl]; decide
              · rw [if_neg hl, if_neg hl]; cases bv <;> decide
            simp only [cmv, decide_eq_false_iff_not]; omega]
          (repeat (first | refine g_sq ?_ | refine g_rg ?_ | refine g_r0 ?_ | refine g_ok rfl rfl ?_ | refine g_no rfl ?_ | refine g_no0 rfl ?_ | refine g_bk ?_ | refine g_b ?_ | refine g_sk ?_ | refine g_cT rfl ?_ | refine g_cF rfl ?_ | refine g_x rfl ?_ | refine g_lb ?_))
          refine g_cl rfl rfl (c66 hS (fun h0 => ?_) (fun _ w S v' Z hZ hS => ?_))
          · have := hP'.arN.1 h0
            cases this
          · rw [hP'.list hD'.em] at hZ
            have hZ : Z = [] := by simpa using hZ
            subst hZ
            obtain ⟨a', c', rfl⟩ := Rd.form (hS.ok 1 _ rfl : Rd _ _ _ _ _ _)
            (repeat (first | refine g_sq ?_ | refine g_rg ?_ | refine g_r0 ?_ | refine g_ok rfl rfl ?_ | refine g_no rfl ?_ | refine g_no0 rfl ?_ | refine g_bk ?_ | refine g_b ?_ | refine g_sk ?_ | refine g_cT rfl ?_ | refine g_cF rfl ?_ | refine g_x rfl ?_ | refine g_lb ?_))
            refine g_rq rfl rfl (in64 (by simp only [arv]; omega)) ?_
            (repeat (first | refine g_sq ?_ | refine g_rg ?_ | refine g_r0 ?_ | refine g_ok rfl rfl ?_ | refine g_no rfl ?_ | refine g_no0 rfl ?_ | refine g_bk ?_ | refine g_b ?_ | refine g_sk ?_ | refine g_cT rfl ?_ | refine g_cF rfl ?_ | refine g_x rfl ?_ | refine g_lb ?_))
            exact g_l (k + 1) ⟨rfl, rfl, rfl, rfl, rfl, trivial⟩ ⟨by omega, S, S1, P', D', _, _, hP', hD', hcm.1, hw', by show lastOf l + 1 ≤ _; omega, hS.sel [0, 3] rfl rfl⟩ (by omega)
        · rw [e] at hcm
          exact absurd rfl hcm.2
      · (repeat (first | refine g_sq ?_ | refine g_rg ?_ | refine g_r0 ?_ | refine g_ok rfl rfl ?_ | refine g_no rfl ?_ | refine g_no0 rfl ?_ | refine g_bk ?_ | refine g_b ?_ | refine g_sk ?_ | refine g_cT rfl ?_ | refine g_cF rfl ?_ | refine g_x rfl ?_ | refine g_lb ?_))
        refine g_rq rfl rfl (in64 (by simp only [arv]; omega)) ?_
        (repeat (first | refine g_sq ?_ | refine g_rg ?_ | refine g_r0 ?_ | refine g_ok rfl rfl ?_ | refine g_no rfl ?_ | refine g_no0 rfl ?_ | refine g_bk ?_ | refine g_b ?_ | refine g_sk ?_ | refine g_cT rfl ?_ | refine g_cF rfl ?_ | refine g_x rfl ?_ | refine g_lb ?_))
        exact g_l (k + 1) ⟨rfl, rfl, rfl, rfl, rfl, trivial⟩ ⟨by omega, S, S1, P, D, bv, l, hP, hD, hc, hwt, by omega, hS.sel [0, 1] rfl rfl⟩ (by omega)
  · -- the end
    (repeat (first | refine g_sq ?_ | refine g_rg ?_ | refine g_r0 ?_ | refine g_ok rfl rfl ?_ | refine g_no rfl ?_ | refine g_no0 rfl ?_ | refine g_bk ?_ | refine g_b ?_ | refine g_sk ?_ | refine g_cT rfl ?_ | refine g_cF rfl ?_ | refine g_x rfl ?_ | refine g_lb ?_))
    refine g_cl rfl rfl (c51z ?_)
    (repeat (first | refine g_sq ?_ | refine g_rg ?_ | refine g_r0 ?_ | refine g_ok rfl rfl ?_ | refine g_no rfl ?_ | refine g_no0 rfl ?_ | refine g_bk ?_ | refine g_b ?_ | refine g_sk ?_ | refine g_cT rfl ?_ | refine g_cF rfl ?_ | refine g_x rfl ?_ | refine g_lb ?_))
    exact g_ret (q_1 rfl (hfin hS))
end
end Go.Proofs.Ytegjocpjmfaigaa
