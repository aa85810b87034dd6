/- ListingSets: the walk. -/
import Derived.Test.YtibofabkpgigoaaGreatDoorNd5
set_option linter.unusedSimpArgs false
set_option linter.unusedVariables false
namespace Go.Proofs.YtibofabkpgigoaaGreatDoor
open Go.En

/-- what is listed of a name that may be none -/
def nmR (s : Bs) (ids : List Id) : List Li := if brk s = 0 then nmL s ids else []
theorem nmR_ext {s : Bs} {l m : List Id} (h : ∀ x, x ∈ l ↔ x ∈ m) : nmR s l = nmR s m := by
  have e : iset l = iset m := kset_ext _ id_inj h
  unfold nmR nmL
  rw [e]
def twice (l : List Id) : List Id := (l.map fun x => [x, x]).flatten
theorem mem_twice (l : List Id) (x : Id) : x ∈ twice l ↔ x ∈ l := by
  unfold twice
  rw [List.mem_flatten]
  constructor
  · rintro ⟨y, hy, hx⟩
    obtain ⟨z, hz, rfl⟩ := List.mem_map.1 hy
    simp only [List.mem_cons, List.not_mem_nil, or_false, or_self] at hx
    rw [hx]; exact hz
  · intro h
    exact ⟨[x, x], List.mem_map.2 ⟨x, h, rfl⟩, List.mem_cons_self⟩
theorem twice_len : ∀ l : List Id, (twice l).length = 2 * l.length
  | [] => rfl
  | x :: l => by
    have := twice_len l
    have e : twice (x :: l) = x :: x :: twice l := rfl
    rw [e, List.length_cons, List.length_cons, this, List.length_cons]
    omega
theorem twice_app (l m : List Id) : twice (l ++ m) = twice l ++ twice m := by simp [twice]
theorem nmL_sp {s : Bs} (h : brk s = 0) (ids : List Id) {x : Li} (hx : x ∈ nmL s ids) : ∃ t : Bs, t.length = 32 ∧ spN x.1 = (s, t, decide (1 < (iset ids).length), 0) ∧ (1 < (iset ids).length → t = x.2.1) := by
  unfold nmL at hx
  obtain ⟨id, _, rfl⟩ := List.mem_map.1 hx
  by_cases hm : 1 < (iset ids).length
  · refine ⟨id.1, id.2, ?_, fun _ => rfl⟩
    rw [decide_eq_true hm]
    exact spN_cfl h id
  · refine ⟨zid, zid_len, ?_, fun k => absurd k hm⟩
    rw [decide_eq_false hm]
    exact spN_ref h
theorem nmL_hlen {s : Bs} (h : brk s = 0) (ids : List Id) : ∀ x ∈ nmL s ids, x.1.length < 4294967281 := by
  intro x hx
  have hl := brk_le h
  unfold nmL at hx
  obtain ⟨id, _, rfl⟩ := List.mem_map.1 hx
  cases hm : decide (1 < (iset ids).length)
  · show s.length < _
    omega
  · show (cfl s id).length < _
    unfold cfl
    rw [List.length_append, List.length_cons, hex_len, id.2]
    omega
section
variable {w w0 : World} {S0 : Nat → Prop} {L B : List Res} {K : Value → World → Prop} {s : Bs} {E0 E1 : Nat}
theorem b_NamesU {v : Value} {n : Nat} {ids : List Id} (hd : ids.length = n) (hn : n < 2000000) (hg : Gl w) (hr : Rd v E0 32 n (fl ic ids) w)
    (h : ∀ v' w', St w (fun _ => False) w' [row v' 41 33 (nmR s ids).length (fl lc (nmR s ids))] → K (.tuple ⟨[v', .int .i64 (nmE s)]⟩) w') : CK Tryz.prog 13 [sv s, v] w K := by
  refine b_Names hd hn hg hr (fun e w' hS => ?_) (fun e v' w' hS => ?_)
  · have e1 : nmE s = 40 := by unfold nmE; rw [if_neg e]
    have e2 : nmR s ids = [] := by unfold nmR; rw [if_neg e]
    rw [e1, e2] at h
    exact h _ _ (hS.nilrow 41 33)
  · have e2 : nmR s ids = nmL s ids := by unfold nmR; rw [if_pos e]
    rw [nmE_0 e, e2] at h
    exact h _ _ hS
set_option maxHeartbeats 4000000 in
theorem b_Sets {v : Value} {n : Nat} {ids : List Id} (hd : ids.length = n) (hg : Gl w) (hr : Rd v E0 32 n (fl ic ids) w) (h : ∀ w', St w (fun _ => False) w' [] → K (.bool true) w') : CK Tryz.prog 4 [sv s, v] w K := by
  have hS := St.nil w (fun _ => False)
  have hrr : ∀ {L : List Res} (w' : World), St w (fun _ => False) w' L → Rd v E0 32 n (fl ic ids) w' := fun w' hS => hr.same fun b hb => hS.fr.kept b (hr.lt b hb) (fun h => h)
  obtain ⟨a, c, rfl⟩ := hr.form
  refine call_k Tryz.func4 k4 Tryz.ntmps4 (Nat.le_of_ble_eq_true rfl) ?_
  (repeat (first | refine g_sq ?_ | refine g_rg ?_ | refine g_r0 ?_ | refine g_ok rfl rfl ?_ | refine g_no rfl ?_ | refine g_no0 rfl ?_ | refine g_bk ?_ | refine g_b ?_ | refine g_sk ?_ | refine g_cT rfl ?_ | refine g_cF rfl ?_ | refine g_x rfl ?_ | refine g_lb ?_))
  refine g_cl rfl rfl (b_alive hg fun w1 hS => ?_)
  (repeat (first | refine g_sq ?_ | refine g_rg ?_ | refine g_r0 ?_ | refine g_ok rfl rfl ?_ | refine g_no rfl ?_ | refine g_no0 rfl ?_ | refine g_bk ?_ | refine g_b ?_ | refine g_sk ?_ | refine g_cT rfl ?_ | refine g_cF rfl ?_ | refine g_x rfl ?_ | refine g_lb ?_))
  generalize hq1 : cmv BinOp.gtr _ 200 = q1
  cases q1
  rotate_left
  · (repeat (first | refine g_sq ?_ | refine g_rg ?_ | refine g_r0 ?_ | refine g_ok rfl rfl ?_ | refine g_no rfl ?_ | refine g_no0 rfl ?_ | refine g_bk ?_ | refine g_b ?_ | refine g_sk ?_ | refine g_cT rfl ?_ | refine g_cF rfl ?_ | refine g_x rfl ?_ | refine g_lb ?_))
    exact g_ret (q_1 rfl (h _ hS))
  (repeat (first | refine g_sq ?_ | refine g_rg ?_ | refine g_r0 ?_ | refine g_ok rfl rfl ?_ | refine g_no rfl ?_ | refine g_no0 rfl ?_ | refine g_bk ?_ | refine g_b ?_ | refine g_sk ?_ | refine g_cT rfl ?_ | refine g_cF rfl ?_ | refine g_x rfl ?_ | refine g_lb ?_))
  generalize hq2 : cmv BinOp.gtr _ 20 = q2
  cases q2
  rotate_left
  · (repeat (first | refine g_sq ?_ | refine g_rg ?_ | refine g_r0 ?_ | refine g_ok rfl rfl ?_ | refine g_no rfl ?_ | refine g_no0 rfl ?_ | refine g_bk ?_ | refine g_b ?_ | refine g_sk ?_ | refine g_cT rfl ?_ | refine g_cF rfl ?_ | refine g_x rfl ?_ | refine g_lb ?_))
    exact g_ret (q_1 rfl (h _ hS))
  (simp only [cmv, arv, Bool.not_eq_true', Bool.not_eq_false', decide_eq_true_eq, decide_eq_false_iff_not] at hq2)
  have hn : n ≤ 20 := by omega
  (repeat (first | refine g_sq ?_ | refine g_rg ?_ | refine g_r0 ?_ | refine g_ok rfl rfl ?_ | refine g_no rfl ?_ | refine g_no0 rfl ?_ | refine g_bk ?_ | refine g_b ?_ | refine g_sk ?_ | refine g_cT rfl ?_ | refine g_cF rfl ?_ | refine g_x rfl ?_ | refine g_lb ?_))
  refine g_cl rfl rfl (b_NamesU hd (by omega) (hg.in hS) (hrr _ hS) fun vl w1 h' => ?_)
  replace hS := hS.call0.2 _ _ h'
  replace hS : St w (fun _ => False) w1 [row vl 41 33 (nmR s ids).length (fl lc (nmR s ids))] := hS
  clear h'
  generalize hM : nmR s ids = M at hS
  obtain ⟨al, cl, rfl⟩ := hS.rlen 0 rfl
  (repeat (first | refine g_sq ?_ | refine g_rg ?_ | refine g_r0 ?_ | refine g_ok rfl rfl ?_ | refine g_no rfl ?_ | refine g_no0 rfl ?_ | refine g_bk ?_ | refine g_b ?_ | refine g_sk ?_ | refine g_cT rfl ?_ | refine g_cF rfl ?_ | refine g_x rfl ?_ | refine g_lb ?_))
  refine g_rq rfl rfl (in64 (by simp only [arv]; omega)) ?_
  (repeat (first | refine g_sq ?_ | refine g_rg ?_ | refine g_r0 ?_ | refine g_ok rfl rfl ?_ | refine g_no rfl ?_ | refine g_no0 rfl ?_ | refine g_bk ?_ | refine g_b ?_ | refine g_sk ?_ | refine g_cT rfl ?_ | refine g_cF rfl ?_ | refine g_x rfl ?_ | refine g_lb ?_))
  refine g_lp (ι := Nat × Value) (fun x => [(0, sv s), (1, .slice a n c), (5, .bool true), (6, .slice al M.length cl), (7, .int .i64 (nmE s)), (8, x.2), (9, .int .i64 ((n : Int) - 1 - (x.1 : Int)))])
    (fun x w' => x.1 ≤ n ∧ St w (fun _ => False) w' [row (.slice al M.length cl) 41 33 M.length (fl lc M), row x.2 35 32 (2 * x.1) (fl ic (twice (ids.reverse.take x.1)))]) (fun x => n - x.1) (0, .slice none 0 0)
    ⟨rfl, rfl, rfl, rfl, rfl, rfl, by show some (Value.int .i64 _) = some (Value.int .i64 _); congr 2; simp only [arv]; omega, trivial⟩ ⟨Nat.zero_le _, hS.nilrow 35 32⟩ ?_
  clear hS
  rintro ⟨k, vb⟩ w1 ⟨hk, hS⟩
  dsimp only at hk hS ⊢
  (repeat (first | refine g_sq ?_ | refine g_rg ?_ | refine g_r0 ?_ | refine g_ok rfl rfl ?_ | refine g_no rfl ?_ | refine g_no0 rfl ?_ | refine g_bk ?_ | refine g_b ?_ | refine g_sk ?_ | refine g_cT rfl ?_ | refine g_cF rfl ?_ | refine g_x rfl ?_ | refine g_lb ?_))
  (refine g_cd rfl (fun hlt => ?_) (fun hlt => ?_) <;> simp only [cmv, arv, Bool.not_eq_true', Bool.not_eq_false', decide_eq_true_eq, decide_eq_false_iff_not] at hlt)
  · have hlt : k < n := by omega
    (repeat (first | refine g_sq ?_ | refine g_rg ?_ | refine g_r0 ?_ | refine g_ok rfl rfl ?_ | refine g_no rfl ?_ | refine g_no0 rfl ?_ | refine g_bk ?_ | refine g_b ?_ | refine g_sk ?_ | refine g_cT rfl ?_ | refine g_cF rfl ?_ | refine g_x rfl ?_ | refine g_lb ?_))
    refine g_dr mixed ?_
    replace hS := hS.drew
    obtain ⟨b, off, cap, l, e1, hcap, hl, hx, hb⟩ := Rd.block (hrr _ hS) (by omega)
    cases e1
    have hix : ((n : Int) - 1 - (k : Int)).toNat = n - 1 - k := by omega
    have hbd : off + (n - 1 - k) * 32 + 32 ≤ l.length := by have : (n - 1 - k + 1) * 32 ≤ c * 32 := Nat.mul_le_mul_right 32 (by omega); omega
    (repeat (first | refine d_ok rfl rfl rfl ?_ | refine d_no rfl rfl ?_))
    refine d_rq rfl rfl rfl ⟨by omega, by omega⟩ ?_
    refine d_qt rfl rfl rfl (qt_ldmr rfl hb (by rw [hix]; exact hbd)) ?_
    (repeat (first | refine d_ok rfl rfl rfl ?_ | refine d_no rfl rfl ?_))
    refine d_rq rfl rfl rfl ⟨by omega, by omega⟩ ?_
    refine d_qt rfl rfl rfl (qt_ldmr rfl hb (by rw [hix]; exact hbd)) ?_
    rw [hix, rd_at ic_len hx hd (show n - 1 - k < ids.length by omega)]
    have hst : twice (ids.reverse.take (k + 1)) = twice (ids.reverse.take k) ++ [ids[n - 1 - k]'(by omega), ids[n - 1 - k]'(by omega)] := by
      have e0 : ids.reverse[k]'(by rw [List.length_reverse]; omega) = ids[n - 1 - k]'(by omega) := by
        rw [List.getElem_reverse]
        congr 1
        omega
      rw [List.take_succ_eq_append_getElem (by rw [List.length_reverse]; omega), twice_app, e0]
      rfl
    generalize hX : ids[n - 1 - k]'(by omega) = X at hst
    refine d_e rfl rfl ?_
    refine ef_bl (rs := fl ic [X, X]) hS (evcs_c rfl (ic_len _) (evcs_1 rfl (ic_len _))) fun g w1 hS => ⟨rc_0, ?_⟩
    refine d_e rfl rfl ?_
    refine ef_ap (n := 2 * k) (m := 2) (ys := fl ic [X, X]) hS 1 rfl rfl rfl (.inl ⟨35, .inr ⟨g, 0, 2, _, rfl, Nat.le_refl _, Nat.le_of_eq (by rw [fl_len ic_len]; rfl), by rw [List.drop_zero, List.take_of_length_le (Nat.le_of_eq (by rw [fl_len ic_len]; rfl))], (hS.b 2 rfl).r⟩⟩) (fl_one ic_one _) (by omega) (by omega) fun v1 w1 hS => ⟨rc_0, ?_⟩
    rw [← fl_app, ← hst] at hS
    refine d_e rfl rfl ?_
    refine ef_qt ((pev_ok rfl).2 _) ⟨rc_0, ?_⟩
    refine d_fin ?_
    (repeat (first | refine g_sq ?_ | refine g_rg ?_ | refine g_r0 ?_ | refine g_ok rfl rfl ?_ | refine g_no rfl ?_ | refine g_no0 rfl ?_ | refine g_bk ?_ | refine g_b ?_ | refine g_sk ?_ | refine g_cT rfl ?_ | refine g_cF rfl ?_ | refine g_x rfl ?_ | refine g_lb ?_))
    refine g_rq rfl rfl (in64 (by simp only [arv]; omega)) ?_
    (repeat (first | refine g_sq ?_ | refine g_rg ?_ | refine g_r0 ?_ | refine g_ok rfl rfl ?_ | refine g_no rfl ?_ | refine g_no0 rfl ?_ | refine g_bk ?_ | refine g_b ?_ | refine g_sk ?_ | refine g_cT rfl ?_ | refine g_cF rfl ?_ | refine g_x rfl ?_ | refine g_lb ?_))
    exact g_l (k + 1, v1) ⟨rfl, rfl, rfl, rfl, rfl, rfl, by show some (Value.int .i64 _) = some (Value.int .i64 _); congr 2; simp only [arv]; omega, trivial⟩ ⟨by simp only; omega, hS.sel [0, 1] rfl rfl⟩ (by simp only; omega)
  have ek : k = n := by omega
  subst ek
  rw [List.take_of_length_le (by rw [List.length_reverse]; omega)] at hS
  (repeat (first | refine g_sq ?_ | refine g_rg ?_ | refine g_r0 ?_ | refine g_ok rfl rfl ?_ | refine g_no rfl ?_ | refine g_no0 rfl ?_ | refine g_bk ?_ | refine g_b ?_ | refine g_sk ?_ | refine g_cT rfl ?_ | refine g_cF rfl ?_ | refine g_x rfl ?_ | refine g_lb ?_))
  obtain ⟨a2, c2, rfl⟩ := hS.rlen 1 rfl
  refine g_cl rfl rfl (b_NamesU (ids := twice ids.reverse) (by rw [twice_len, List.length_reverse, hd]) (by omega) (hg.in hS) (Ow.rd (hS.ok 1 _ rfl)) fun vm w1 h' => ?_)
  replace hS := hS.call0.2 _ _ h'
  clear h'
  have e2 : nmR s (twice ids.reverse) = M := by rw [← hM]; exact nmR_ext fun x => by rw [mem_twice, List.mem_reverse]
  rw [e2] at hS
  obtain ⟨am, cm, rfl⟩ := hS.rlen 2 rfl
  have hml : M.length < 2000000 := by
    rw [← hM]
    unfold nmR
    split
    · rw [nmL_len]
      have := kset_len (fun x : Id => x.1) ids
      unfold iset
      omega
    · decide
  (repeat (first | refine g_sq ?_ | refine g_rg ?_ | refine g_r0 ?_ | refine g_ok rfl rfl ?_ | refine g_no rfl ?_ | refine g_no0 rfl ?_ | refine g_bk ?_ | refine g_b ?_ | refine g_sk ?_ | refine g_cT rfl ?_ | refine g_cF rfl ?_ | refine g_x rfl ?_ | refine g_lb ?_))
  rw [cmv_neq _]
  (repeat (first | refine g_sq ?_ | refine g_rg ?_ | refine g_r0 ?_ | refine g_ok rfl rfl ?_ | refine g_no rfl ?_ | refine g_no0 rfl ?_ | refine g_bk ?_ | refine g_b ?_ | refine g_sk ?_ | refine g_cT rfl ?_ | refine g_cF rfl ?_ | refine g_x rfl ?_ | refine g_lb ?_))
  refine g_cl rfl rfl (r_Same (d := M) (e := M) rfl rfl hml hml (Ow.rd (hS.ok 0 _ rfl)) (Ow.rd (hS.ok 2 _ rfl)) fun w1 h' => ?_)
  replace hS := hS.call0.2 _ _ h'
  rw [List.append_nil] at hS
  rw [decide_eq_true rfl]
  (repeat (first | refine g_sq ?_ | refine g_rg ?_ | refine g_r0 ?_ | refine g_ok rfl rfl ?_ | refine g_no rfl ?_ | refine g_no0 rfl ?_ | refine g_bk ?_ | refine g_b ?_ | refine g_sk ?_ | refine g_cT rfl ?_ | refine g_cF rfl ?_ | refine g_x rfl ?_ | refine g_lb ?_))
  by_cases e : brk s = 0
  rotate_left
  · have e1 : nmE s = 40 := by unfold nmE; rw [if_neg e]
    rw [e1]
    (repeat (first | refine g_sq ?_ | refine g_rg ?_ | refine g_r0 ?_ | refine g_ok rfl rfl ?_ | refine g_no rfl ?_ | refine g_no0 rfl ?_ | refine g_bk ?_ | refine g_b ?_ | refine g_sk ?_ | refine g_cT rfl ?_ | refine g_cF rfl ?_ | refine g_x rfl ?_ | refine g_lb ?_))
    refine g_cl rfl rfl (c_Check (hg.in hS) hS fun w' hS => ?_)
    rw [e1]
    (repeat (first | refine g_sq ?_ | refine g_rg ?_ | refine g_r0 ?_ | refine g_ok rfl rfl ?_ | refine g_no rfl ?_ | refine g_no0 rfl ?_ | refine g_bk ?_ | refine g_b ?_ | refine g_sk ?_ | refine g_cT rfl ?_ | refine g_cF rfl ?_ | refine g_x rfl ?_ | refine g_lb ?_))
    exact g_ret (q_1 rfl (h _ (hS.sel [] rfl rfl)))
  rw [nmE_0 e]
  have e3 : nmR s ids = nmL s ids := by unfold nmR; rw [if_pos e]
  rw [e3] at hM
  subst hM
  clear e2 e3
  have hlen := nmL_hlen e ids
  (repeat (first | refine g_sq ?_ | refine g_rg ?_ | refine g_r0 ?_ | refine g_ok rfl rfl ?_ | refine g_no rfl ?_ | refine g_no0 rfl ?_ | refine g_bk ?_ | refine g_b ?_ | refine g_sk ?_ | refine g_cT rfl ?_ | refine g_cF rfl ?_ | refine g_x rfl ?_ | refine g_lb ?_))
  refine g_cl rfl rfl (b_Set hd (by omega) (hrr _ hS) fun vs w1 h' => ?_)
  replace hS := hS.call0.2 _ _ h'
  replace hS : St w (fun _ => False) w1 [row (.slice al (nmL s ids).length cl) 41 33 (nmL s ids).length (fl lc (nmL s ids)), row vs 35 32 (iset ids).length (fl ic (iset ids))] := hS.sel [0, 3] rfl rfl
  clear h'
  obtain ⟨a9, c9, rfl⟩ := hS.rlen 1 rfl
  (repeat (first | refine g_sq ?_ | refine g_rg ?_ | refine g_r0 ?_ | refine g_ok rfl rfl ?_ | refine g_no rfl ?_ | refine g_no0 rfl ?_ | refine g_bk ?_ | refine g_b ?_ | refine g_sk ?_ | refine g_cT rfl ?_ | refine g_cF rfl ?_ | refine g_x rfl ?_ | refine g_lb ?_))
  refine g_cl rfl rfl (b_CheckL rfl hml hlen (hg.in hS) (Ow.rd (hS.ok 0 _ rfl)) fun w1 h' => ?_)
  replace hS := hS.call0.2 _ _ h'
  rw [List.append_nil] at hS
  have e4 : eE (nmL s ids) = 0 := by unfold eE; rw [if_pos (nmL_chk e ids)]
  rw [e4]
  (repeat (first | refine g_sq ?_ | refine g_rg ?_ | refine g_r0 ?_ | refine g_ok rfl rfl ?_ | refine g_no rfl ?_ | refine g_no0 rfl ?_ | refine g_bk ?_ | refine g_b ?_ | refine g_sk ?_ | refine g_cT rfl ?_ | refine g_cF rfl ?_ | refine g_x rfl ?_ | refine g_lb ?_))
  rw [show cmv BinOp.neq ((nmL s ids).length : Int) ((iset ids).length : Int) = false by rw [nmL_len]; exact cmv_neq _]
  (repeat (first | refine g_sq ?_ | refine g_rg ?_ | refine g_r0 ?_ | refine g_ok rfl rfl ?_ | refine g_no rfl ?_ | refine g_no0 rfl ?_ | refine g_bk ?_ | refine g_b ?_ | refine g_sk ?_ | refine g_cT rfl ?_ | refine g_cF rfl ?_ | refine g_x rfl ?_ | refine g_lb ?_))
  refine g_cl rfl rfl (b_Tips rfl hml hlen (hg.in hS) (Ow.rd (hS.ok 0 _ rfl)) fun vt w1 h' => ?_)
  replace hS := hS.call0.2 _ _ h'
  rw [nmL_tips e] at hS
  obtain ⟨at_, ct, rfl⟩ := hS.rlen 2 rfl
  have hil : (iset ids).length < 2000000 := by have := kset_len (fun x : Id => x.1) ids; unfold iset; omega
  (repeat (first | refine g_sq ?_ | refine g_rg ?_ | refine g_r0 ?_ | refine g_ok rfl rfl ?_ | refine g_no rfl ?_ | refine g_no0 rfl ?_ | refine g_bk ?_ | refine g_b ?_ | refine g_sk ?_ | refine g_cT rfl ?_ | refine g_cF rfl ?_ | refine g_x rfl ?_ | refine g_lb ?_))
  refine g_cl rfl rfl (r_SameI (d := iset ids) (e := iset ids) rfl rfl hil hil (Ow.rd (hS.ok 2 _ rfl)) (Ow.rd (hS.ok 1 _ rfl)) fun w1 h' => ?_)
  replace hS := hS.call0.2 _ _ h'
  rw [List.append_nil] at hS
  rw [decide_eq_true rfl]
  (repeat (first | refine g_sq ?_ | refine g_rg ?_ | refine g_r0 ?_ | refine g_ok rfl rfl ?_ | refine g_no rfl ?_ | refine g_no0 rfl ?_ | refine g_bk ?_ | refine g_b ?_ | refine g_sk ?_ | refine g_cT rfl ?_ | refine g_cF rfl ?_ | refine g_x rfl ?_ | refine g_lb ?_))
  have e5 : cmv BinOp.gtr ((iset ids).length : Int) 1 = decide (1 < (iset ids).length) := by
    simp only [cmv]
    rw [decide_eq_decide]
    omega
  refine g_lp (ι := Nat) (fun k => [(0, sv s), (5, .bool true), (6, .slice al (nmL s ids).length cl), (12, .slice a9 (iset ids).length c9), (106, .slice al (nmL s ids).length cl), (107, .int .i64 (nmL s ids).length), (108, .int .i64 k)])
    (fun k w' => k ≤ (nmL s ids).length ∧ St w (fun _ => False) w' [row (.slice al (nmL s ids).length cl) 41 33 (nmL s ids).length (fl lc (nmL s ids)), row (.slice a9 (iset ids).length c9) 35 32 (iset ids).length (fl ic (iset ids))]) (fun k => (nmL s ids).length - k) 0
    ⟨rfl, rfl, rfl, rfl, rfl, rfl, rfl, trivial⟩ ⟨Nat.zero_le _, hS.sel [0, 1] rfl rfl⟩ ?_
  clear hS
  rintro k w1 ⟨hk, hS⟩
  (repeat (first | refine g_sq ?_ | refine g_rg ?_ | refine g_r0 ?_ | refine g_ok rfl rfl ?_ | refine g_no rfl ?_ | refine g_no0 rfl ?_ | refine g_bk ?_ | refine g_b ?_ | refine g_sk ?_ | refine g_cT rfl ?_ | refine g_cF rfl ?_ | refine g_x rfl ?_ | refine g_lb ?_))
  (refine g_cd rfl (fun hlt => ?_) (fun hlt => ?_) <;> simp only [cmv, arv, Bool.not_eq_true', Bool.not_eq_false', decide_eq_true_eq, decide_eq_false_iff_not] at hlt)
  · have hlt : k < (nmL s ids).length := by omega
    obtain ⟨b, off, cap, l, e1, hcap, hl, hx, hb⟩ := Rd.block (Ow.rd (hS.ok 0 _ rfl)) (by omega)
    cases e1
    (repeat (first | refine g_sq ?_ | refine g_rg ?_ | refine g_r0 ?_ | refine g_ok rfl rfl ?_ | refine g_no rfl ?_ | refine g_no0 rfl ?_ | refine g_bk ?_ | refine g_b ?_ | refine g_sk ?_ | refine g_cT rfl ?_ | refine g_cF rfl ?_ | refine g_x rfl ?_ | refine g_lb ?_))
    refine g_rq rfl rfl ⟨by omega, by omega⟩ ?_
    have hbd : off + k * 33 + 33 ≤ l.length := by have : (k + 1) * 33 ≤ cl * 33 := Nat.mul_le_mul_right 33 (by omega); omega
    refine g_lmr rfl rfl hb hbd ?_
    rw [Int.toNat_natCast, rd_at lc_len hx rfl hlt]
    have hXm : (nmL s ids)[k] ∈ nmL s ids := List.getElem_mem _
    generalize (nmL s ids)[k] = X at hXm
    have hXl := hlen X hXm
    obtain ⟨t, ht, hsp, htX⟩ := nmL_sp e ids hXm
    refine g_ef rfl (ef_al hS fun b14 w1 hS => ?_)
    have lz : (zx [(1, .string ⟨#[]⟩), (32, .int .u8 0)]).length = 33 := by decide
    refine g_ef0 rfl (ef_st hS 2 rfl rfl rfl (lc_len _) (by rw [lz]; decide) (List.all_eq_true.2 (lc_one _)) fun w1 hS => ?_)
    replace hS := hS.ceq (l' := lc X) 2 rfl (spl_full _ _ (by show (lc X).length = _; rw [lc_len, lz]))
    replace hS : St w (fun _ => False) w1 [_, _, cel b14 (lc X) 41] := hS
    (repeat (first | refine g_sq ?_ | refine g_rg ?_ | refine g_r0 ?_ | refine g_ok rfl rfl ?_ | refine g_no rfl ?_ | refine g_no0 rfl ?_ | refine g_bk ?_ | refine g_b ?_ | refine g_sk ?_ | refine g_cT rfl ?_ | refine g_cF rfl ?_ | refine g_x rfl ?_ | refine g_lb ?_))
    refine g_l1 rfl rfl (hS.b  2 rfl) rfl ?_
    refine g_cl rfl rfl (b_Split (hg.in hS) hXl fun w1 h' => ?_)
    replace hS := hS.call0.2 _ _ h'
    rw [List.append_nil] at hS
    rw [hsp]
    (repeat (first | refine g_sq ?_ | refine g_rg ?_ | refine g_r0 ?_ | refine g_ok rfl rfl ?_ | refine g_no rfl ?_ | refine g_no0 rfl ?_ | refine g_bk ?_ | refine g_b ?_ | refine g_sk ?_ | refine g_cT rfl ?_ | refine g_cF rfl ?_ | refine g_x rfl ?_ | refine g_lb ?_))
    have l0 : (bys zid).length = 32 := by rw [bys_length, zid_len]
    have l1 : (bys t).length = 32 := by rw [bys_length, ht]
    have l2 : (bys X.2.1).length = 32 := ic_len X.2
    have d2 : ((lc X).drop 1).take 32 = bys X.2.1 := by
      show (bys X.2.1).take 32 = _
      rw [List.take_of_length_le (Nat.le_of_eq l2)]
    refine g_ef rfl (ef_al hS fun b16 w1 hS => ?_)
    replace hS : St w (fun _ => False) w1 [_, _, cel b14 (lc X) 41, cel b16 (bys zid) 35] := hS
    (repeat (first | refine g_sq ?_ | refine g_rg ?_ | refine g_r0 ?_ | refine g_ok rfl rfl ?_ | refine g_no rfl ?_ | refine g_no0 rfl ?_ | refine g_bk ?_ | refine g_b ?_ | refine g_sk ?_ | refine g_cT rfl ?_ | refine g_cF rfl ?_ | refine g_x rfl ?_ | refine g_lb ?_))
    refine g_ef0 rfl (ef_st hS 3 rfl rfl rfl l1 (Nat.le_of_eq l0.symm) (bys_one _) fun w1 hS => ?_)
    replace hS := hS.ceq (l' := bys t) 3 rfl (spl_full _ _ (l1.trans l0.symm))
    (repeat (first | refine g_sq ?_ | refine g_rg ?_ | refine g_r0 ?_ | refine g_ok rfl rfl ?_ | refine g_no rfl ?_ | refine g_no0 rfl ?_ | refine g_bk ?_ | refine g_b ?_ | refine g_sk ?_ | refine g_cT rfl ?_ | refine g_cF rfl ?_ | refine g_x rfl ?_ | refine g_lb ?_))
    refine g_at 2 [(0, sv s), (5, .bool true), (6, .slice (some ⟨b, off, none⟩) (nmL s ids).length cl), (12, .slice a9 (iset ids).length c9), (14, dp b14), (106, .slice (some ⟨b, off, none⟩) (nmL s ids).length cl), (107, .int .i64 (nmL s ids).length), (108, .int .i64 k)]
      (fun w' => St w (fun _ => False) w' [row (.slice (some ⟨b, off, none⟩) (nmL s ids).length cl) 41 33 (nmL s ids).length (fl lc (nmL s ids)), row (.slice a9 (iset ids).length c9) 35 32 (iset ids).length (fl ic (iset ids)), cel b14 (lc X) 41]) rfl ?_ ?_
    · rw [show (!decide ((⟨s.toArray⟩ : ByteArray).data.toList = (⟨s.toArray⟩ : ByteArray).data.toList)) = false by simp]
      (repeat (first | refine g_sq ?_ | refine g_rg ?_ | refine g_r0 ?_ | refine g_ok rfl rfl ?_ | refine g_no rfl ?_ | refine g_no0 rfl ?_ | refine g_bk ?_ | refine g_b ?_ | refine g_sk ?_ | refine g_cT rfl ?_ | refine g_cF rfl ?_ | refine g_x rfl ?_ | refine g_lb ?_))
      rw [e5]
      cases hm : decide (1 < (iset ids).length)
      · (repeat (first | refine g_sq ?_ | refine g_rg ?_ | refine g_r0 ?_ | refine g_ok rfl rfl ?_ | refine g_no rfl ?_ | refine g_no0 rfl ?_ | refine g_bk ?_ | refine g_b ?_ | refine g_sk ?_ | refine g_cT rfl ?_ | refine g_cF rfl ?_ | refine g_x rfl ?_ | refine g_lb ?_))
        exact g_j ⟨rfl, rfl, rfl, rfl, rfl, rfl, rfl, rfl, trivial⟩ (hS.sel [0, 1, 2] rfl rfl)
      · have hm := of_decide_eq_true hm
        obtain rfl := htX hm
        (repeat (first | refine g_sq ?_ | refine g_rg ?_ | refine g_r0 ?_ | refine g_ok rfl rfl ?_ | refine g_no rfl ?_ | refine g_no0 rfl ?_ | refine g_bk ?_ | refine g_b ?_ | refine g_sk ?_ | refine g_cT rfl ?_ | refine g_cF rfl ?_ | refine g_x rfl ?_ | refine g_lb ?_))
        refine g_lm rfl rfl (hS.b 3 rfl) (Nat.le_of_eq l1.symm) ?_
        (repeat (first | refine g_sq ?_ | refine g_rg ?_ | refine g_r0 ?_ | refine g_ok rfl rfl ?_ | refine g_no rfl ?_ | refine g_no0 rfl ?_ | refine g_bk ?_ | refine g_b ?_ | refine g_sk ?_ | refine g_cT rfl ?_ | refine g_cF rfl ?_ | refine g_x rfl ?_ | refine g_lb ?_))
        refine g_lm rfl rfl (hS.b 2 rfl) (by rw [lc_len]; decide) ?_
        rw [List.drop_zero, List.take_of_length_le (Nat.le_of_eq l1), d2]
        refine g_aq X.2.1 X.2.1 rfl rfl rfl X.2.2 X.2.2 ?_
        rw [show aqv .neq X.2.1 X.2.1 = false by simp [aqv]]
        (repeat (first | refine g_sq ?_ | refine g_rg ?_ | refine g_r0 ?_ | refine g_ok rfl rfl ?_ | refine g_no rfl ?_ | refine g_no0 rfl ?_ | refine g_bk ?_ | refine g_b ?_ | refine g_sk ?_ | refine g_cT rfl ?_ | refine g_cF rfl ?_ | refine g_x rfl ?_ | refine g_lb ?_))
        exact g_j ⟨rfl, rfl, rfl, rfl, rfl, rfl, rfl, rfl, trivial⟩ (hS.sel [0, 1, 2] rfl rfl)
    · clear hS
      intro T w1 hT hS
      refine g_wkc hT ?_
      (repeat (first | refine g_sq ?_ | refine g_rg ?_ | refine g_r0 ?_ | refine g_ok rfl rfl ?_ | refine g_no rfl ?_ | refine g_no0 rfl ?_ | refine g_bk ?_ | refine g_b ?_ | refine g_sk ?_ | refine g_cT rfl ?_ | refine g_cF rfl ?_ | refine g_x rfl ?_ | refine g_lb ?_))
      refine g_l1 rfl rfl (hS.b  2 rfl) rfl ?_
      refine g_cl rfl rfl (b_Find rfl hml hlen (hg.in hS) (Ow.rd (hS.ok 0 _ rfl)) fun w1 h' => ?_)
      replace hS := hS.call0.2 _ _ h'
      rw [List.append_nil] at hS
      rw [nmL_find e ids hXm]
      (repeat (first | refine g_sq ?_ | refine g_rg ?_ | refine g_r0 ?_ | refine g_ok rfl rfl ?_ | refine g_no rfl ?_ | refine g_no0 rfl ?_ | refine g_bk ?_ | refine g_b ?_ | refine g_sk ?_ | refine g_cT rfl ?_ | refine g_cF rfl ?_ | refine g_x rfl ?_ | refine g_lb ?_))
      refine g_ef rfl (ef_al hS fun b19 w1 hS => ?_)
      replace hS : St w (fun _ => False) w1 [_, _, cel b14 (lc X) 41, cel b19 (bys zid) 35] := hS
      (repeat (first | refine g_sq ?_ | refine g_rg ?_ | refine g_r0 ?_ | refine g_ok rfl rfl ?_ | refine g_no rfl ?_ | refine g_no0 rfl ?_ | refine g_bk ?_ | refine g_b ?_ | refine g_sk ?_ | refine g_cT rfl ?_ | refine g_cF rfl ?_ | refine g_x rfl ?_ | refine g_lb ?_))
      refine g_ef0 rfl (ef_st (u := .agg ⟨bys X.2.1⟩) hS 3 rfl rfl rfl l2 (Nat.le_of_eq l0.symm) (bys_one _) fun w1 hS => ?_)
      replace hS := hS.ceq (l' := bys X.2.1) 3 rfl (spl_full _ _ (l2.trans l0.symm))
      (repeat (first | refine g_sq ?_ | refine g_rg ?_ | refine g_r0 ?_ | refine g_ok rfl rfl ?_ | refine g_no rfl ?_ | refine g_no0 rfl ?_ | refine g_bk ?_ | refine g_b ?_ | refine g_sk ?_ | refine g_cT rfl ?_ | refine g_cF rfl ?_ | refine g_x rfl ?_ | refine g_lb ?_))
      refine g_lm rfl rfl (hS.b 3 rfl) (Nat.le_of_eq l2.symm) ?_
      (repeat (first | refine g_sq ?_ | refine g_rg ?_ | refine g_r0 ?_ | refine g_ok rfl rfl ?_ | refine g_no rfl ?_ | refine g_no0 rfl ?_ | refine g_bk ?_ | refine g_b ?_ | refine g_sk ?_ | refine g_cT rfl ?_ | refine g_cF rfl ?_ | refine g_x rfl ?_ | refine g_lb ?_))
      refine g_lm rfl rfl (hS.b 2 rfl) (by rw [lc_len]; decide) ?_
      rw [List.drop_zero, List.take_of_length_le (Nat.le_of_eq l2), d2]
      refine g_aq X.2.1 X.2.1 rfl rfl rfl X.2.2 X.2.2 ?_
      rw [show aqv .neq X.2.1 X.2.1 = false by simp [aqv]]
      (repeat (first | refine g_sq ?_ | refine g_rg ?_ | refine g_r0 ?_ | refine g_ok rfl rfl ?_ | refine g_no rfl ?_ | refine g_no0 rfl ?_ | refine g_bk ?_ | refine g_b ?_ | refine g_sk ?_ | refine g_cT rfl ?_ | refine g_cF rfl ?_ | refine g_x rfl ?_ | refine g_lb ?_))
      refine g_rq rfl rfl (in64 (by simp only [arv]; omega)) ?_
      (repeat (first | refine g_sq ?_ | refine g_rg ?_ | refine g_r0 ?_ | refine g_ok rfl rfl ?_ | refine g_no rfl ?_ | refine g_no0 rfl ?_ | refine g_bk ?_ | refine g_b ?_ | refine g_sk ?_ | refine g_cT rfl ?_ | refine g_cF rfl ?_ | refine g_x rfl ?_ | refine g_lb ?_))
      exact g_l (k + 1) ⟨rfl, rfl, rfl, rfl, rfl, rfl, rfl, trivial⟩ ⟨by omega, hS.sel [0, 1] rfl rfl⟩ (by omega)
  · (repeat (first | refine g_sq ?_ | refine g_rg ?_ | refine g_r0 ?_ | refine g_ok rfl rfl ?_ | refine g_no rfl ?_ | refine g_no0 rfl ?_ | refine g_bk ?_ | refine g_b ?_ | refine g_sk ?_ | refine g_cT rfl ?_ | refine g_cF rfl ?_ | refine g_x rfl ?_ | refine g_lb ?_))
    refine g_cl rfl rfl (b_Refs rfl hml hlen (hg.in hS) (Ow.rd (hS.ok 0 _ rfl)) fun vr w1 h' => ?_)
    replace hS := hS.call0.2 _ _ h'
    obtain ⟨ar, cr, rfl⟩ := hS.rlen 2 rfl
    rw [nmL_refs e ids]
    (repeat (first | refine g_sq ?_ | refine g_rg ?_ | refine g_r0 ?_ | refine g_ok rfl rfl ?_ | refine g_no rfl ?_ | refine g_no0 rfl ?_ | refine g_bk ?_ | refine g_b ?_ | refine g_sk ?_ | refine g_cT rfl ?_ | refine g_cF rfl ?_ | refine g_x rfl ?_ | refine g_lb ?_))
    refine g_ret (q_1 rfl ?_)
    have e6 : cmv BinOp.eql ((min 1 (iset ids).length : Nat) : Int) (min 1 ((iset ids).length : Int)) = true := by
      simp only [cmv, decide_eq_true_eq]
      omega
    show K (.bool (cmv BinOp.eql ((min 1 (iset ids).length : Nat) : Int) (min 1 ((iset ids).length : Int)))) _
    rw [e6]
    exact h _ (hS.sel [] rfl rfl)
theorem b_SetsL (hg : Gl w) {v : Value} {n : Nat} {ids : List Id} (hd : ids.length = n) (_ : n ≤ 9223372036854775807) (hr : Rd v E0 32 n (fl ic ids) w) (h : ∀ w', St w (fun _ => False) w' [] → K (.bool true) w') : CK Tryz.prog 4 [sv s, v] w K := b_Sets hd hg hr h
end
end Go.Proofs.YtibofabkpgigoaaGreatDoor
