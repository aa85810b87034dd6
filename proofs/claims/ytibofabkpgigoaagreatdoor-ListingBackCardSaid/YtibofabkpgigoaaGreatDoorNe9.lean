/- ListingBack: the walk. -/
import Derived.Test.YtibofabkpgigoaaGreatDoorNe8
import Derived.Test.YtibofabkpgigoaaGreatDoorNd6
set_option linter.unusedSimpArgs false
set_option linter.unusedVariables false
namespace Go.Proofs.YtibofabkpgigoaaGreatDoor
open Go.En

theorem lnsF_mem : ∀ (n : Nat) (s l : Bs), l ∈ lnsF n s → l.length ≤ s.length
  | 0, _, _, h => by cases h
  | n + 1, s, l, h => by
    unfold lnsF at h
    split at h
    · cases h
    · rename_i hs
      rcases List.mem_cons.1 h with rfl | h
      · exact hd1_le s
      · have := lnsF_mem n _ l h
        have := hd1_lt hs
        omega
theorem prsL_bd : ∀ (ls : List Bs) (m : List Li), prsL ls = some m → m.length = ls.length ∧ ∀ x ∈ m, ∃ l ∈ ls, x.1.length ≤ l.length
  | [], m, h => by
    rw [prsL] at h
    cases h
    exact ⟨rfl, fun x hx => by cases hx⟩
  | l :: r, m, h => by
    cases hp : prs1 l with
    | none => rw [prsL_none hp] at h; cases h
    | some x =>
      rw [prsL_some hp] at h
      obtain ⟨m', hm', rfl⟩ := Option.map_eq_some_iff.1 h
      obtain ⟨h1, h2⟩ := prsL_bd r m' hm'
      refine ⟨by rw [List.length_cons, List.length_cons, h1], fun y hy => ?_⟩
      rcases List.mem_cons.1 hy with rfl | hy
      · exact ⟨l, List.mem_cons_self, prs1_len hp⟩
      · obtain ⟨l', hl', h3⟩ := h2 y hy
        exact ⟨l', List.mem_cons_of_mem _ hl', h3⟩
theorem prs_bd {s : Bs} {m : List Li} (h : prs s = some m) : m.length ≤ s.length ∧ ∀ x ∈ m, x.1.length ≤ s.length := by
  unfold prs at h
  split at h
  · rename_i d hd
    split at h
    · cases h
      obtain ⟨h1, h2⟩ := prsL_bd _ _ hd
      refine ⟨by rw [h1]; exact lnsF_len _ _, fun x hx => ?_⟩
      obtain ⟨l, hl, h3⟩ := h2 x hx
      exact Nat.le_trans h3 (lnsF_mem _ _ l hl)
    · cases h
  · cases h
theorem grt_no {d : List Li} (h : ¬ grt d = true) : d.length ≤ 60 ∧ ∀ x ∈ d, x.1.length ≤ 300 := by
  unfold grt at h
  simp only [Bool.or_eq_true, decide_eq_true_eq, List.any_eq_true, not_or, not_exists, not_and] at h
  exact ⟨by omega, fun x hx => by have := h.2 x hx; omega⟩
theorem txt_bd {d : List Li} {n m : Nat} (h1 : d.length ≤ n) (h2 : ∀ x ∈ d, x.1.length ≤ m) : (d.map ln1).flatten.length ≤ n * (66 + m) :=
  Nat.le_trans (flen_bd d h2) (Nat.mul_le_mul_right _ h1)
theorem txt_le (d : List Li) : (txt d).length ≤ (d.map ln1).flatten.length := by
  unfold txt
  split
  · exact Nat.le_refl _
  · exact Nat.zero_le _
section
variable {w w0 : World} {S0 : Nat → Prop} {L B : List Res} {K : Value → World → Prop} {s : Bs} {E0 E1 : Nat}
set_option maxHeartbeats 4000000 in
theorem b_Back {v : Value} {n : Nat} {d : List Li} (hd : d.length = n) (hn : n ≤ 9223372036854775807) (hg : Gl w) (hr : Rd v E0 33 n (fl lc d) w) (h : ∀ w', St w (fun _ => False) w' [] → K (.bool true) w') : CK Tryz.prog 3 [v, sv s] w K := by
  have hS := St.nil w (fun _ => False)
  have hrr : ∀ {L : List Res} (w' : World), St w (fun _ => False) w' L → Rd v E0 33 n (fl lc d) w' := fun w' hS => hr.same fun b hb => hS.fr.kept b (hr.lt b hb) (fun h => h)
  obtain ⟨a, c, rfl⟩ := hr.form
  refine call_k Tryz.func3 k3 Tryz.ntmps3 (Nat.le_of_ble_eq_true rfl) ?_
  (repeat (first | refine g_sq ?_ | refine g_rg ?_ | refine g_r0 ?_ | refine g_ok rfl rfl ?_ | refine g_no rfl ?_ | refine g_no0 rfl ?_ | refine g_bk ?_ | refine g_b ?_ | refine g_sk ?_ | refine g_cT rfl ?_ | refine g_cF rfl ?_ | refine g_x rfl ?_ | refine g_lb ?_))
  refine g_cl rfl rfl (b_alive hg fun w1 hS => ?_)
  (repeat (first | refine g_sq ?_ | refine g_rg ?_ | refine g_r0 ?_ | refine g_ok rfl rfl ?_ | refine g_no rfl ?_ | refine g_no0 rfl ?_ | refine g_bk ?_ | refine g_b ?_ | refine g_sk ?_ | refine g_cT rfl ?_ | refine g_cF rfl ?_ | refine g_x rfl ?_ | refine g_lb ?_))
  refine g_cl rfl rfl (r_Great hd hn (hrr _ hS) ?_)
  by_cases hgr : grt d = true
  · rw [if_pos hgr]
    (repeat (first | refine g_sq ?_ | refine g_rg ?_ | refine g_r0 ?_ | refine g_ok rfl rfl ?_ | refine g_no rfl ?_ | refine g_no0 rfl ?_ | refine g_bk ?_ | refine g_b ?_ | refine g_sk ?_ | refine g_cT rfl ?_ | refine g_cF rfl ?_ | refine g_x rfl ?_ | refine g_lb ?_))
    exact g_ret (q_1 rfl (h _ hS))
  rw [if_neg hgr]
  obtain ⟨hn60, hx300⟩ := grt_no hgr
  (repeat (first | refine g_sq ?_ | refine g_rg ?_ | refine g_r0 ?_ | refine g_ok rfl rfl ?_ | refine g_no rfl ?_ | refine g_no0 rfl ?_ | refine g_bk ?_ | refine g_b ?_ | refine g_sk ?_ | refine g_cT rfl ?_ | refine g_cF rfl ?_ | refine g_x rfl ?_ | refine g_lb ?_))
  generalize hq1 : cmv BinOp.gtr _ 8000 = q1
  cases q1
  rotate_left
  · (repeat (first | refine g_sq ?_ | refine g_rg ?_ | refine g_r0 ?_ | refine g_ok rfl rfl ?_ | refine g_no rfl ?_ | refine g_no0 rfl ?_ | refine g_bk ?_ | refine g_b ?_ | refine g_sk ?_ | refine g_cT rfl ?_ | refine g_cF rfl ?_ | refine g_x rfl ?_ | refine g_lb ?_))
    exact g_ret (q_1 rfl (h _ hS))
  (simp only [cmv, arv, Bool.not_eq_true', Bool.not_eq_false', decide_eq_true_eq, decide_eq_false_iff_not] at hq1)
  have hs : s.length ≤ 8000 := by
    rw [Lib.size_eq] at hq1
    have : (⟨s.toArray⟩ : ByteArray).data.toList.length = s.length := rfl
    omega
  have hlen : ∀ x ∈ d, x.1.length < 4294967281 := fun x hx => by have := hx300 x hx; omega
  have htb := txt_bd hn60 hx300
  have htl := txt_le d
  (repeat (first | refine g_sq ?_ | refine g_rg ?_ | refine g_r0 ?_ | refine g_ok rfl rfl ?_ | refine g_no rfl ?_ | refine g_no0 rfl ?_ | refine g_bk ?_ | refine g_b ?_ | refine g_sk ?_ | refine g_cT rfl ?_ | refine g_cF rfl ?_ | refine g_x rfl ?_ | refine g_lb ?_))
  refine g_cl rfl rfl (b_CheckL hd (by omega) hlen (hg.in hS) (hrr _ hS) fun w1 h' => ?_)
  replace hS := hS.call0.2 _ _ h'
  rw [List.append_nil] at hS
  refine g_at 2 [(0, .slice a n c), (1, sv s), (5, .bool true)] (fun w' => St w (fun _ => False) w' []) rfl ?_ ?_
  · cases hck : chk d
    · have e1 : eE d = 200 := by unfold eE; rw [if_neg (by rw [hck]; decide)]
      rw [e1]
      (repeat (first | refine g_sq ?_ | refine g_rg ?_ | refine g_r0 ?_ | refine g_ok rfl rfl ?_ | refine g_no rfl ?_ | refine g_no0 rfl ?_ | refine g_bk ?_ | refine g_b ?_ | refine g_sk ?_ | refine g_cT rfl ?_ | refine g_cF rfl ?_ | refine g_x rfl ?_ | refine g_lb ?_))
      exact g_j ⟨rfl, rfl, rfl, trivial⟩ hS
    · have e1 : eE d = 0 := by unfold eE; rw [if_pos hck]
      have e2 : psE (txt d) = 0 := by unfold psE; rw [prs_txt hck]; rfl
      have e3 : psL (txt d) = d := by unfold psL; rw [prs_txt hck]; rfl
      rw [e1]
      (repeat (first | refine g_sq ?_ | refine g_rg ?_ | refine g_r0 ?_ | refine g_ok rfl rfl ?_ | refine g_no rfl ?_ | refine g_no0 rfl ?_ | refine g_bk ?_ | refine g_b ?_ | refine g_sk ?_ | refine g_cT rfl ?_ | refine g_cF rfl ?_ | refine g_x rfl ?_ | refine g_lb ?_))
      refine g_cl rfl rfl (b_TextL hd (by omega) hlen (by omega) (hg.in hS) (hrr _ hS) fun w1 h' => ?_)
      replace hS := hS.call0.2 _ _ h'
      rw [List.append_nil] at hS
      (repeat (first | refine g_sq ?_ | refine g_rg ?_ | refine g_r0 ?_ | refine g_ok rfl rfl ?_ | refine g_no rfl ?_ | refine g_no0 rfl ?_ | refine g_bk ?_ | refine g_b ?_ | refine g_sk ?_ | refine g_cT rfl ?_ | refine g_cF rfl ?_ | refine g_x rfl ?_ | refine g_lb ?_))
      refine g_cl rfl rfl (b_ParseL (s := txt d) (by omega) (hg.in hS) fun v1 w1 h' => ?_)
      replace hS := hS.call0.2 _ _ h'
      rw [e2]
      rw [e3] at hS
      replace hS : St w (fun _ => False) w1 [row v1 41 33 d.length (fl lc d)] := hS
      obtain ⟨a1, c1, rfl⟩ := hS.rlen 0 rfl
      (repeat (first | refine g_sq ?_ | refine g_rg ?_ | refine g_r0 ?_ | refine g_ok rfl rfl ?_ | refine g_no rfl ?_ | refine g_no0 rfl ?_ | refine g_bk ?_ | refine g_b ?_ | refine g_sk ?_ | refine g_cT rfl ?_ | refine g_cF rfl ?_ | refine g_x rfl ?_ | refine g_lb ?_))
      refine g_cl rfl rfl (b_SameL (d := d) (e := d) rfl hd (by omega) (by omega) (Ow.rd (hS.ok 0 _ rfl)) (hrr _ hS) fun w1 h' => ?_)
      replace hS := hS.call0.2 _ _ h'
      rw [List.append_nil] at hS
      rw [decide_eq_true rfl]
      (repeat (first | refine g_sq ?_ | refine g_rg ?_ | refine g_r0 ?_ | refine g_ok rfl rfl ?_ | refine g_no rfl ?_ | refine g_no0 rfl ?_ | refine g_bk ?_ | refine g_b ?_ | refine g_sk ?_ | refine g_cT rfl ?_ | refine g_cF rfl ?_ | refine g_x rfl ?_ | refine g_lb ?_))
      exact g_j ⟨rfl, rfl, rfl, trivial⟩ (hS.sel [] rfl rfl)
  · clear hS
    intro T w1 hT hS
    refine g_wkc hT ?_
    (repeat (first | refine g_sq ?_ | refine g_rg ?_ | refine g_r0 ?_ | refine g_ok rfl rfl ?_ | refine g_no rfl ?_ | refine g_no0 rfl ?_ | refine g_bk ?_ | refine g_b ?_ | refine g_sk ?_ | refine g_cT rfl ?_ | refine g_cF rfl ?_ | refine g_x rfl ?_ | refine g_lb ?_))
    refine g_cl rfl rfl (b_ParseL (s := s) (by omega) (hg.in hS) fun v1 w1 h' => ?_)
    replace hS := hS.call0.2 _ _ h'
    replace hS : St w (fun _ => False) w1 [row v1 41 33 (psL s).length (fl lc (psL s))] := hS
    obtain ⟨a1, c1, rfl⟩ := hS.rlen 0 rfl
    cases hp : prs s with
    | none =>
      have e2 : psE s = 200 := by unfold psE; rw [hp]; rfl
      have e3 : psL s = [] := by unfold psL; rw [hp]; rfl
      rw [e2, e3]
      (repeat (first | refine g_sq ?_ | refine g_rg ?_ | refine g_r0 ?_ | refine g_ok rfl rfl ?_ | refine g_no rfl ?_ | refine g_no0 rfl ?_ | refine g_bk ?_ | refine g_b ?_ | refine g_sk ?_ | refine g_cT rfl ?_ | refine g_cF rfl ?_ | refine g_x rfl ?_ | refine g_lb ?_))
      exact g_ret (q_1 rfl (h _ (hS.sel [] rfl rfl)))
    | some m =>
      have e2 : psE s = 0 := by unfold psE; rw [hp]; rfl
      have e3 : psL s = m := by unfold psL; rw [hp]; rfl
      obtain ⟨hm1, hm2⟩ := prs_bd hp
      obtain ⟨hm3, hm4⟩ := prs_ok hp
      have hml : ∀ x ∈ m, x.1.length < 4294967281 := fun x hx => by have := hm2 x hx; omega
      have hmt := txt_bd (d := m) (n := 8000) (m := 8000) (by omega) fun x hx => by have := hm2 x hx; omega
      rw [e3] at hS
      rw [e2, e3]
      (repeat (first | refine g_sq ?_ | refine g_rg ?_ | refine g_r0 ?_ | refine g_ok rfl rfl ?_ | refine g_no rfl ?_ | refine g_no0 rfl ?_ | refine g_bk ?_ | refine g_b ?_ | refine g_sk ?_ | refine g_cT rfl ?_ | refine g_cF rfl ?_ | refine g_x rfl ?_ | refine g_lb ?_))
      refine g_cl rfl rfl (b_TextL (d := m) rfl (by omega) hml (by omega) (hg.in hS) (Ow.rd (hS.ok 0 _ rfl)) fun w1 h' => ?_)
      replace hS := hS.call0.2 _ _ h'
      rw [List.append_nil] at hS
      rw [hm3]
      (repeat (first | refine g_sq ?_ | refine g_rg ?_ | refine g_r0 ?_ | refine g_ok rfl rfl ?_ | refine g_no rfl ?_ | refine g_no0 rfl ?_ | refine g_bk ?_ | refine g_b ?_ | refine g_sk ?_ | refine g_cT rfl ?_ | refine g_cF rfl ?_ | refine g_x rfl ?_ | refine g_lb ?_))
      rw [show decide ((⟨s.toArray⟩ : ByteArray).data.toList = (⟨s.toArray⟩ : ByteArray).data.toList) = true from decide_eq_true rfl]
      (repeat (first | refine g_sq ?_ | refine g_rg ?_ | refine g_r0 ?_ | refine g_ok rfl rfl ?_ | refine g_no rfl ?_ | refine g_no0 rfl ?_ | refine g_bk ?_ | refine g_b ?_ | refine g_sk ?_ | refine g_cT rfl ?_ | refine g_cF rfl ?_ | refine g_x rfl ?_ | refine g_lb ?_))
      refine g_cl rfl rfl (b_CheckL (d := m) rfl (by omega) hml (hg.in hS) (Ow.rd (hS.ok 0 _ rfl)) fun w1 h' => ?_)
      replace hS := hS.call0.2 _ _ h'
      rw [List.append_nil] at hS
      have e4 : eE m = 0 := by unfold eE; rw [if_pos hm4]
      rw [e4]
      (repeat (first | refine g_sq ?_ | refine g_rg ?_ | refine g_r0 ?_ | refine g_ok rfl rfl ?_ | refine g_no rfl ?_ | refine g_no0 rfl ?_ | refine g_bk ?_ | refine g_b ?_ | refine g_sk ?_ | refine g_cT rfl ?_ | refine g_cF rfl ?_ | refine g_x rfl ?_ | refine g_lb ?_))
      exact g_ret (q_1 rfl (h _ (hS.sel [] rfl rfl)))
theorem b_BackL (hg : Gl w) {v : Value} {n : Nat} {d : List Li} (hd : d.length = n) (hn : n ≤ 9223372036854775807) (hr : Rd v E0 33 n (fl lc d) w) (h : ∀ w', St w (fun _ => False) w' [] → K (.bool true) w') : CK Tryz.prog 3 [v, sv s] w K := b_Back hd hn hg hr h
end
end Go.Proofs.YtibofabkpgigoaaGreatDoor
