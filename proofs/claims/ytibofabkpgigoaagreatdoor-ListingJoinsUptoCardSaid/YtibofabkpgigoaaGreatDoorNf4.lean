/- ListingJoins: the walk. -/
import Derived.Test.YtibofabkpgigoaaGreatDoorNf3
import Derived.Test.YtibofabkpgigoaaGreatDoorNf0
import Derived.Test.YtibofabkpgigoaaGreatDoorEnO
set_option linter.unusedSimpArgs false
set_option linter.unusedVariables false
namespace Go.Proofs.YtibofabkpgigoaaGreatDoor
open Go.En

/-- ids in a slice of their own -/
abbrev Ivl := Value × List Id
def IvlR (w : World) (p : Ivl) : Prop := ∃ E, Rd p.1 E 32 p.2.length (fl ic p.2) w
theorem IvlR.in {w w0 : World} {L : List Res} {p : Ivl} (h : IvlR w0 p) (hS : St w0 (fun _ => False) w L) : IvlR w p := by
  obtain ⟨E, h⟩ := h
  exact ⟨E, h.same fun b hb => hS.fr.kept b (h.lt b hb) (fun h => h)⟩
def rts (refs : List Bs) (ts : List Ivl) : List RT := List.zipWith (fun s t => (s, t.2)) refs ts
theorem pts_app (a b : List RT) : pts (a ++ b) = pts a ++ pts b := by simp [pts]
theorem rts_fst : ∀ {refs : List Bs} {ts : List Ivl}, refs.length ≤ ts.length → (rts refs ts).map (·.1) = refs
  | [], _, _ => rfl
  | s :: refs, t :: ts, h => by
    have := rts_fst (refs := refs) (ts := ts) (by simpa using h)
    show s :: (rts refs ts).map (·.1) = _
    rw [this]
theorem rts_get {refs : List Bs} {ts : List Ivl} {j : Nat} (h : j < (rts refs ts).length) (h1 : j < refs.length) (h2 : j < ts.length) : (rts refs ts)[j] = (refs[j], ts[j].2) := by simp [rts]
theorem rd_x {l xs : List Value} {off n k : Nat} (hx : (l.drop off).take (n * 1) = xs) (hn : xs.length = n) (hk : k < xs.length) : l[off + k * 1]? = some xs[k] := by
  have h1 := congrArg (fun l : List Value => l[k]?) hx
  simp only [List.getElem?_take, List.getElem?_drop] at h1
  rw [if_pos (by omega), List.getElem?_eq_getElem hk] at h1
  rw [Nat.mul_one]
  exact h1
/-- the slices that are owned -/
def Fl (p : Lv1) : Res := row p.1 41 33 p.2.length (fl lc p.2)
theorem own_rd {w : World} {ps : List Lv1} (h : (ows Fl ps).ok w) : ∀ p ∈ ps, LvR w p := fun p hp => ⟨_, Ow.rd (ows_mem h hp)⟩
/-- refs gone through: the map of them -/
def mpR (refs : List Bs) (k : Nat) (es : List MapEntry) : Prop := (∀ e ∈ es, strK e.key ∧ e.val = .int .i64 1) ∧ ∀ r : Bs, (∃ e ∈ es, e.key = sv r) ↔ r ∈ refs.take k
section
variable {w w0 : World} {S0 : Nat → Prop} {L B : List Res} {K : Value → World → Prop} {s : Bs} {E0 E1 : Nat}
theorem mpR_add {refs : List Bs} {k c : Nat} {es : List MapEntry} (h : mpR refs k es) (hk : k < refs.length) : mpR refs (k + 1) (es ++ [⟨sv refs[k], .int .i64 1, c⟩]) := by
  constructor
  · intro e he
    rcases List.mem_append.1 he with he | he
    · exact h.1 e he
    · rw [List.mem_singleton.1 he]
      exact ⟨⟨_, rfl⟩, rfl⟩
  · intro r
    rw [keys_app es _ (t := refs[k]) rfl, h.2 r, List.take_succ_eq_append_getElem hk, List.mem_append, List.mem_singleton]
theorem nmL_le6 (s : Bs) {l : List Id} (h : l.length ≤ 6) : (nmL s l).length ≤ 6 := by
  rw [nmL_len]
  have := kset_len (fun x : Id => x.1) l
  unfold iset
  omega
theorem pts_len {m : Nat} : ∀ rt : List RT, (∀ p ∈ rt, p.2.length ≤ 6) → rt.length ≤ m → (pts rt).flatten.length ≤ m * 6
  | [], _, _ => Nat.zero_le _
  | p :: rt, h, hm => by
    have h1 := pts_len (m := m - 1) rt (fun q hq => h q (List.mem_cons_of_mem _ hq)) (by simp only [List.length_cons] at hm; omega)
    have h2 := nmL_le6 p.1 (h p List.mem_cons_self)
    have e : (pts (p :: rt)).flatten = nmL p.1 p.2 ++ (pts rt).flatten := rfl
    simp only [List.length_cons] at hm
    rw [e, List.length_append]
    omega
theorem nmR_ok {s : Bs} (h : brk s = 0) (l : List Id) : nmR s l = nmL s l := by unfold nmR; rw [if_pos h]
set_option maxHeartbeats 8000000 in
theorem b_Joins {v u : Value} {n m : Nat} {refs : List Bs} {ts : List Ivl} (hd : refs.length = n) (ht : ts.length = m) (hr : Rd v E0 1 n (refs.map sv) w) (hu : Rd u E1 1 m (ts.map (·.1)) w) (hI : ∀ t ∈ ts, IvlR w t) (hb : ∀ t ∈ ts, t.2.length < 2000000) (hg : Gl w)
    (h : ∀ w', St w (fun _ => False) w' [] → K (.bool true) w') : CK Tryz.prog 5 [v, u] w K := by
  have hS := St.nil w (fun _ => False)
  have hrr : ∀ {L : List Res} (w' : World), St w (fun _ => False) w' L → Rd v E0 1 n (refs.map sv) w' := fun w' hS => hr.same fun b hb => hS.fr.kept b (hr.lt b hb) (fun h => h)
  have huu : ∀ {L : List Res} (w' : World), St w (fun _ => False) w' L → Rd u E1 1 m (ts.map (·.1)) w' := fun w' hS => hu.same fun b hb => hS.fr.kept b (hu.lt b hb) (fun h => h)
  obtain ⟨a, c, rfl⟩ := hr.form
  obtain ⟨a2, c2, rfl⟩ := hu.form
  refine call_k Tryz.func5 k5 Tryz.ntmps5 (Nat.le_of_ble_eq_true rfl) ?_
  (repeat (first | refine g_sq ?_ | refine g_rg ?_ | refine g_r0 ?_ | refine g_ok rfl rfl ?_ | refine g_no rfl ?_ | refine g_no0 rfl ?_ | refine g_bk ?_ | refine g_b ?_ | refine g_sk ?_ | refine g_cT rfl ?_ | refine g_cF rfl ?_ | refine g_x rfl ?_ | refine g_lb ?_))
  refine g_cl rfl rfl (b_alive hg fun w1 hS => ?_)
  (repeat (first | refine g_sq ?_ | refine g_rg ?_ | refine g_r0 ?_ | refine g_ok rfl rfl ?_ | refine g_no rfl ?_ | refine g_no0 rfl ?_ | refine g_bk ?_ | refine g_b ?_ | refine g_sk ?_ | refine g_cT rfl ?_ | refine g_cF rfl ?_ | refine g_x rfl ?_ | refine g_lb ?_))
  generalize hq1 : cmv BinOp.gtr _ 8 = q1
  cases q1
  rotate_left
  · (repeat (first | refine g_sq ?_ | refine g_rg ?_ | refine g_r0 ?_ | refine g_ok rfl rfl ?_ | refine g_no rfl ?_ | refine g_no0 rfl ?_ | refine g_bk ?_ | refine g_b ?_ | refine g_sk ?_ | refine g_cT rfl ?_ | refine g_cF rfl ?_ | refine g_x rfl ?_ | refine g_lb ?_))
    exact g_ret (q_1 rfl (h _ hS))
  (simp only [cmv, arv, Bool.not_eq_true', Bool.not_eq_false', decide_eq_true_eq, decide_eq_false_iff_not] at hq1)
  (repeat (first | refine g_sq ?_ | refine g_rg ?_ | refine g_r0 ?_ | refine g_ok rfl rfl ?_ | refine g_no rfl ?_ | refine g_no0 rfl ?_ | refine g_bk ?_ | refine g_b ?_ | refine g_sk ?_ | refine g_cT rfl ?_ | refine g_cF rfl ?_ | refine g_x rfl ?_ | refine g_lb ?_))
  generalize hq2 : cmv BinOp.lss _ _ = q2
  cases q2
  rotate_left
  · (repeat (first | refine g_sq ?_ | refine g_rg ?_ | refine g_r0 ?_ | refine g_ok rfl rfl ?_ | refine g_no rfl ?_ | refine g_no0 rfl ?_ | refine g_bk ?_ | refine g_b ?_ | refine g_sk ?_ | refine g_cT rfl ?_ | refine g_cF rfl ?_ | refine g_x rfl ?_ | refine g_lb ?_))
    exact g_ret (q_1 rfl (h _ hS))
  (simp only [cmv, arv, Bool.not_eq_true', Bool.not_eq_false', decide_eq_true_eq, decide_eq_false_iff_not] at hq2)
  have hn8 : n ≤ 8 := by omega
  have hnm : n ≤ m := by omega
  (repeat (first | refine g_sq ?_ | refine g_rg ?_ | refine g_r0 ?_ | refine g_ok rfl rfl ?_ | refine g_no rfl ?_ | refine g_no0 rfl ?_ | refine g_bk ?_ | refine g_b ?_ | refine g_sk ?_ | refine g_cT rfl ?_ | refine g_cF rfl ?_ | refine g_x rfl ?_ | refine g_lb ?_))
  refine g_ef rfl (ef_mkm hS fun bm w1 hS => ?_)
  replace hS := ((St.ows_nil Fl hS).nilrow 22 1).nilrow 22 1
  replace hS : St w (fun _ => False) w1 [ows Fl [], row (.slice none 0 0) 22 1 0 [], row (.slice none 0 0) 22 1 0 [], obj bm (.map ⟨[]⟩ 0)] := hS.sel [0, 2, 3, 1] rfl rfl
  (repeat (first | refine g_sq ?_ | refine g_rg ?_ | refine g_r0 ?_ | refine g_ok rfl rfl ?_ | refine g_no rfl ?_ | refine g_no0 rfl ?_ | refine g_bk ?_ | refine g_b ?_ | refine g_sk ?_ | refine g_cT rfl ?_ | refine g_cF rfl ?_ | refine g_x rfl ?_ | refine g_lb ?_))
  refine g_lp (ι := Nat × Value × Value × List Lv1 × List MapEntry × Nat) (fun x => [(0, .slice a n c), (1, .slice a2 m c2), (5, .bool true), (6, x.2.1), (7, x.2.2.1), (8, .map (some bm)), (43, .slice a n c), (44, .int .i64 n), (45, .int .i64 x.1)])
    (fun x w' => x.1 ≤ n ∧ (∀ j (hj : j < refs.length), j < x.1 → brk refs[j] = 0) ∧ (∀ j (hj : j < ts.length), j < x.1 → ts[j].2.length ≤ 6) ∧ (refs.take x.1).Nodup ∧ mpR refs x.1 x.2.2.2.2.1 ∧ x.2.2.2.1.map (·.2) = pts ((rts refs ts).take x.1) ∧ x.2.2.2.1.length = x.1 ∧
      St w (fun _ => False) w' [ows Fl x.2.2.2.1, row x.2.1 22 1 x.1 (x.2.2.2.1.map (·.1)), row x.2.2.1 22 1 x.1 (x.2.2.2.1.reverse.map (·.1)), obj bm (.map ⟨x.2.2.2.2.1⟩ x.2.2.2.2.2)])
    (fun x => n - x.1) (0, .slice none 0 0, .slice none 0 0, [], [], 0) ⟨rfl, rfl, rfl, rfl, rfl, rfl, rfl, rfl, rfl, trivial⟩
    ⟨Nat.zero_le _, fun j _ h => absurd h (Nat.not_lt_zero j), fun j _ h => absurd h (Nat.not_lt_zero j), List.nodup_nil, ⟨(fun e he => nomatch he), (fun r => ⟨(fun ⟨e, he, _⟩ => nomatch he), (fun h => nomatch h)⟩)⟩, rfl, rfl, hS⟩ ?_
  clear hS
  rintro ⟨k, vp, vb, ps, es, mc⟩ w1 ⟨hk, hB, h6, hN, hm, hP, hpl, hS⟩
  dsimp only at hk hB h6 hN hm hP hpl hS ⊢
  have hlr : (rts refs ts).length = n := by unfold rts; rw [List.length_zipWith]; omega
  (repeat (first | refine g_sq ?_ | refine g_rg ?_ | refine g_r0 ?_ | refine g_ok rfl rfl ?_ | refine g_no rfl ?_ | refine g_no0 rfl ?_ | refine g_bk ?_ | refine g_b ?_ | refine g_sk ?_ | refine g_cT rfl ?_ | refine g_cF rfl ?_ | refine g_x rfl ?_ | refine g_lb ?_))
  (refine g_cd rfl (fun hlt => ?_) (fun hlt => ?_) <;> simp only [cmv, arv, Bool.not_eq_true', Bool.not_eq_false', decide_eq_true_eq, decide_eq_false_iff_not] at hlt)
  · have hlt : k < refs.length := by omega
    have hlt2 : k < ts.length := by omega
    obtain ⟨b, off, cap, l, e1, hcap, hl, hx, hbl⟩ := Rd.block (hrr _ hS) (by omega)
    cases e1
    obtain ⟨b2, off2, cap2, l2, e2, hcap2, hl2, hx2, hbl2⟩ := Rd.block (huu _ hS) (by omega)
    cases e2
    (repeat (first | refine g_sq ?_ | refine g_rg ?_ | refine g_r0 ?_ | refine g_ok rfl rfl ?_ | refine g_no rfl ?_ | refine g_no0 rfl ?_ | refine g_bk ?_ | refine g_b ?_ | refine g_sk ?_ | refine g_cT rfl ?_ | refine g_cF rfl ?_ | refine g_x rfl ?_ | refine g_lb ?_))
    refine g_rq rfl rfl ⟨by omega, by omega⟩ ?_
    refine g_l1r rfl rfl hbl (by rw [Int.toNat_natCast]; exact rd_x hx (by rw [List.length_map, hd]) (by rw [List.length_map]; exact hlt)) ?_
    rw [List.getElem_map]
    (repeat (first | refine g_sq ?_ | refine g_rg ?_ | refine g_r0 ?_ | refine g_ok rfl rfl ?_ | refine g_no rfl ?_ | refine g_no0 rfl ?_ | refine g_bk ?_ | refine g_b ?_ | refine g_sk ?_ | refine g_cT rfl ?_ | refine g_cF rfl ?_ | refine g_x rfl ?_ | refine g_lb ?_))
    refine g_rq rfl rfl ⟨by omega, by omega⟩ ?_
    refine g_l1r rfl rfl hbl2 (by rw [Int.toNat_natCast]; exact rd_x hx2 (by rw [List.length_map, ht]) (by rw [List.length_map]; exact hlt2)) ?_
    rw [List.getElem_map]
    have hT := hI _ (List.getElem_mem hlt2)
    have hTb := hb _ (List.getElem_mem hlt2)
    have hrk : (rts refs ts)[k]'(by omega) = (refs[k], ts[k].2) := rts_get _ _ _
    have hst : (rts refs ts).take (k + 1) = (rts refs ts).take k ++ [(refs[k], ts[k].2)] := by rw [List.take_succ_eq_append_getElem (by omega), hrk]
    have hinM : refs[k] ∈ refs.take k ↔ ∃ j, ∃ hj : j < refs.length, j < k ∧ refs[j] = refs[k] := by
      rw [List.mem_take_iff_getElem]
      constructor
      · rintro ⟨j, hj, e⟩
        exact ⟨j, by omega, by omega, e⟩
      · rintro ⟨j, hj, hjk, e⟩
        exact ⟨j, by omega, e⟩
    have hB' : brk refs[k] = 0 → ∀ j (hj : j < refs.length), j < k + 1 → brk refs[j] = 0 := fun h0 j hj hjk => by
      by_cases e : j = k
      · subst e; exact h0
      · exact hB j hj (by omega)
    have h6' : ts[k].2.length ≤ 6 → ∀ j (hj : j < ts.length), j < k + 1 → ts[j].2.length ≤ 6 := fun h0 j hj hjk => by
      by_cases e : j = k
      · subst e; exact h0
      · exact h6 j hj (by omega)
    have hN' : refs[k] ∉ refs.take k → (refs.take (k + 1)).Nodup := fun h0 => by
      rw [List.take_succ_eq_append_getElem hlt, List.nodup_append]
      refine ⟨hN, List.pairwise_singleton _ _, fun x hx y hy e => h0 ?_⟩
      rw [List.mem_singleton.1 hy] at e
      rw [← e]; exact hx
    have hM' := fun c => mpR_add (c := c) hm hlt
    obtain ⟨ET, hTr⟩ := hT.in hS
    obtain ⟨a3, c3, e3⟩ := hTr.form
    rw [e3]
    (repeat (first | refine g_sq ?_ | refine g_rg ?_ | refine g_r0 ?_ | refine g_ok rfl rfl ?_ | refine g_no rfl ?_ | refine g_no0 rfl ?_ | refine g_bk ?_ | refine g_b ?_ | refine g_sk ?_ | refine g_cT rfl ?_ | refine g_cF rfl ?_ | refine g_x rfl ?_ | refine g_lb ?_))
    rw [e3] at hTr
    refine g_cl rfl rfl (b_NamesU (s := refs[k]) rfl hTb (hg.in hS) hTr fun vl w1 h' => ?_)
    replace hS := hS.call0.2 _ _ h'
    (repeat (first | refine g_sq ?_ | refine g_rg ?_ | refine g_r0 ?_ | refine g_ok rfl rfl ?_ | refine g_no rfl ?_ | refine g_no0 rfl ?_ | refine g_bk ?_ | refine g_b ?_ | refine g_sk ?_ | refine g_cT rfl ?_ | refine g_cF rfl ?_ | refine g_x rfl ?_ | refine g_lb ?_))
    generalize hq3 : cmv BinOp.gtr _ 200 = q3
    cases q3
    rotate_left
    · (repeat (first | refine g_sq ?_ | refine g_rg ?_ | refine g_r0 ?_ | refine g_ok rfl rfl ?_ | refine g_no rfl ?_ | refine g_no0 rfl ?_ | refine g_bk ?_ | refine g_b ?_ | refine g_sk ?_ | refine g_cT rfl ?_ | refine g_cF rfl ?_ | refine g_x rfl ?_ | refine g_lb ?_))
      exact g_ret (q_1 rfl (h _ (hS.sel [] rfl rfl)))
    (repeat (first | refine g_sq ?_ | refine g_rg ?_ | refine g_r0 ?_ | refine g_ok rfl rfl ?_ | refine g_no rfl ?_ | refine g_no0 rfl ?_ | refine g_bk ?_ | refine g_b ?_ | refine g_sk ?_ | refine g_cT rfl ?_ | refine g_cF rfl ?_ | refine g_x rfl ?_ | refine g_lb ?_))
    refine g_rq rfl rfl ⟨by omega, by omega⟩ ?_
    obtain ⟨b4, off4, cap4, l4, e4, hcap4, hl4, hx4, hbl4⟩ := Rd.block (huu _ hS) (by omega)
    cases e4
    refine g_l1r rfl rfl hbl4 (by rw [Int.toNat_natCast]; exact rd_x hx4 (by rw [List.length_map, ht]) (by rw [List.length_map]; exact hlt2)) ?_
    rw [List.getElem_map, e3]
    (repeat (first | refine g_sq ?_ | refine g_rg ?_ | refine g_r0 ?_ | refine g_ok rfl rfl ?_ | refine g_no rfl ?_ | refine g_no0 rfl ?_ | refine g_bk ?_ | refine g_b ?_ | refine g_sk ?_ | refine g_cT rfl ?_ | refine g_cF rfl ?_ | refine g_x rfl ?_ | refine g_lb ?_))
    generalize hq4 : cmv BinOp.gtr _ 6 = q4
    cases q4
    rotate_left
    · (repeat (first | refine g_sq ?_ | refine g_rg ?_ | refine g_r0 ?_ | refine g_ok rfl rfl ?_ | refine g_no rfl ?_ | refine g_no0 rfl ?_ | refine g_bk ?_ | refine g_b ?_ | refine g_sk ?_ | refine g_cT rfl ?_ | refine g_cF rfl ?_ | refine g_x rfl ?_ | refine g_lb ?_))
      exact g_ret (q_1 rfl (h _ (hS.sel [] rfl rfl)))
    (simp only [cmv, arv, Bool.not_eq_true', Bool.not_eq_false', decide_eq_true_eq, decide_eq_false_iff_not] at hq4)
    (repeat (first | refine g_sq ?_ | refine g_rg ?_ | refine g_r0 ?_ | refine g_ok rfl rfl ?_ | refine g_no rfl ?_ | refine g_no0 rfl ?_ | refine g_bk ?_ | refine g_b ?_ | refine g_sk ?_ | refine g_cT rfl ?_ | refine g_cF rfl ?_ | refine g_x rfl ?_ | refine g_lb ?_))
    by_cases e0 : brk refs[k] = 0
    rotate_left
    · have e1 : nmE refs[k] = 40 := by unfold nmE; rw [if_neg e0]
      rw [e1]
      (repeat (first | refine g_sq ?_ | refine g_rg ?_ | refine g_r0 ?_ | refine g_ok rfl rfl ?_ | refine g_no rfl ?_ | refine g_no0 rfl ?_ | refine g_bk ?_ | refine g_b ?_ | refine g_sk ?_ | refine g_cT rfl ?_ | refine g_cF rfl ?_ | refine g_x rfl ?_ | refine g_lb ?_))
      exact g_ret (q_1 rfl (h _ (hS.sel [] rfl rfl)))
    rw [nmE_0 e0]
    rw [nmR_ok e0] at hS
    replace hS : St w (fun _ => False) w1 [ows Fl ps, row vp 22 1 k (ps.map (·.1)), row vb 22 1 k (ps.reverse.map (·.1)), obj bm (.map ⟨es⟩ mc), row vl 41 33 (nmL refs[k] ts[k].2).length (fl lc (nmL refs[k] ts[k].2))] := hS
    (repeat (first | refine g_sq ?_ | refine g_rg ?_ | refine g_r0 ?_ | refine g_ok rfl rfl ?_ | refine g_no rfl ?_ | refine g_no0 rfl ?_ | refine g_bk ?_ | refine g_b ?_ | refine g_sk ?_ | refine g_cT rfl ?_ | refine g_cF rfl ?_ | refine g_x rfl ?_ | refine g_lb ?_))
    refine g_ef rfl (ef_mlk (kl_str Tryz.underlying9) (hS.ok 3 _ rfl) rfl rfl ⟨_, rfl⟩ (fun e he => (hm.1 e he).1) (fun hne => ?_) fun j e hj he => ?_)
    rotate_left
    · have hv1 : lkv false e.val true = .int .i64 1 := (hm.1 e (List.mem_of_getElem? hj)).2
      rw [hv1]
      (repeat (first | refine g_sq ?_ | refine g_rg ?_ | refine g_r0 ?_ | refine g_ok rfl rfl ?_ | refine g_no rfl ?_ | refine g_no0 rfl ?_ | refine g_bk ?_ | refine g_b ?_ | refine g_sk ?_ | refine g_cT rfl ?_ | refine g_cF rfl ?_ | refine g_x rfl ?_ | refine g_lb ?_))
      exact g_ret (q_1 rfl (h _ (hS.sel [] rfl rfl)))
    have hnot : refs[k] ∉ refs.take k := fun hin => by
      obtain ⟨e, he, hk⟩ := (hm.2 refs[k]).2 hin
      exact hne e he hk
    (repeat (first | refine g_sq ?_ | refine g_rg ?_ | refine g_r0 ?_ | refine g_ok rfl rfl ?_ | refine g_no rfl ?_ | refine g_no0 rfl ?_ | refine g_bk ?_ | refine g_b ?_ | refine g_sk ?_ | refine g_cT rfl ?_ | refine g_cF rfl ?_ | refine g_x rfl ?_ | refine g_lb ?_))
    refine g_ef rfl (ef_mlk (kl_str Tryz.underlying9) (hS.ok 3 _ rfl) rfl rfl ⟨_, rfl⟩ (fun e he => (hm.1 e he).1) (fun _ => ?_) fun j e hj he => absurd he (hne e (List.mem_of_getElem? hj)))
    refine g_rq rfl rfl (in64 (by simp only [arv]; omega)) ?_
    refine g_ef0 rfl (ef_mup (kl_str Tryz.underlying9) hS 3 rfl rfl rfl rfl ⟨_, rfl⟩ (fun e he => (hm.1 e he).1) (fun _ w1 hS => ?_) fun j e hj he => absurd he (hne e (List.mem_of_getElem? hj)))
    (repeat (first | refine g_sq ?_ | refine g_rg ?_ | refine g_r0 ?_ | refine g_ok rfl rfl ?_ | refine g_no rfl ?_ | refine g_no0 rfl ?_ | refine g_bk ?_ | refine g_b ?_ | refine g_sk ?_ | refine g_cT rfl ?_ | refine g_cF rfl ?_ | refine g_x rfl ?_ | refine g_lb ?_))
    obtain ⟨al, cl, rfl⟩ := hS.rlen 4 rfl
    refine g_ef rfl (ef_bl (rs := [.slice al (nmL refs[k] ts[k].2).length cl]) hS rfl fun g1 w1 hS => ?_)
    refine g_ef rfl (ef_ap (bytes := 24) (n := k) (m := 1) (ys := [.slice al (nmL refs[k] ts[k].2).length cl]) hS 1 rfl rfl rfl (.inl ⟨22, .inr ⟨g1, 0, 1, _, rfl, Nat.le_refl _, Nat.le_refl _, rfl, (hS.b 5 rfl).r⟩⟩) rfl (by omega) (by omega) fun v1 w1 hS => ?_)
    (repeat (first | refine g_sq ?_ | refine g_rg ?_ | refine g_r0 ?_ | refine g_ok rfl rfl ?_ | refine g_no rfl ?_ | refine g_no0 rfl ?_ | refine g_bk ?_ | refine g_b ?_ | refine g_sk ?_ | refine g_cT rfl ?_ | refine g_cF rfl ?_ | refine g_x rfl ?_ | refine g_lb ?_))
    refine g_ef rfl (ef_bl (rs := [.slice al (nmL refs[k] ts[k].2).length cl]) hS rfl fun g2 w1 hS => ?_)
    replace hS := hS.conv (r' := row (.slice (some ⟨g2, 0, none⟩) 1 1) 22 1 1 [.slice al (nmL refs[k] ts[k].2).length cl]) 6 rfl (fun b' h => h) (.inr ⟨g2, 1, [], rfl, Nat.le_refl _, rfl, rfl, hS.b 6 rfl⟩)
    (repeat (first | refine g_sq ?_ | refine g_rg ?_ | refine g_r0 ?_ | refine g_ok rfl rfl ?_ | refine g_no rfl ?_ | refine g_no0 rfl ?_ | refine g_bk ?_ | refine g_b ?_ | refine g_sk ?_ | refine g_cT rfl ?_ | refine g_cF rfl ?_ | refine g_x rfl ?_ | refine g_lb ?_))
    have hone : ((ps.reverse.map (·.1) : List Value)).all (·.oneCell') = true := by
      rw [List.all_eq_true]
      intro x hx
      obtain ⟨p, hp, rfl⟩ := List.mem_map.1 hx
      obtain ⟨E, hr⟩ := own_rd (hS.ok 0 _ rfl) p (List.mem_reverse.1 hp)
      obtain ⟨a5, c5, e5⟩ := hr.form
      rw [e5]
      rfl
    refine g_ef rfl (ef_ap (bytes := 24) (n := 1) (m := k) (ys := ps.reverse.map (fun p : Lv1 => p.1)) hS 6 rfl rfl rfl (.inl ⟨22, Ow.rd (hS.ok 2 _ rfl)⟩) hone (by omega) (by omega) fun v2 w1 hS => ?_)
    (repeat (first | refine g_sq ?_ | refine g_rg ?_ | refine g_r0 ?_ | refine g_ok rfl rfl ?_ | refine g_no rfl ?_ | refine g_no0 rfl ?_ | refine g_bk ?_ | refine g_b ?_ | refine g_sk ?_ | refine g_cT rfl ?_ | refine g_cF rfl ?_ | refine g_x rfl ?_ | refine g_lb ?_))
    refine g_rq rfl rfl (in64 (by simp only [arv]; omega)) ?_
    (repeat (first | refine g_sq ?_ | refine g_rg ?_ | refine g_r0 ?_ | refine g_ok rfl rfl ?_ | refine g_no rfl ?_ | refine g_no0 rfl ?_ | refine g_bk ?_ | refine g_b ?_ | refine g_sk ?_ | refine g_cT rfl ?_ | refine g_cF rfl ?_ | refine g_x rfl ?_ | refine g_lb ?_))
    have hS2 := hS.sel [0, 4, 1, 6, 3] rfl rfl
    have hS3 := St.ows_app (F := Fl) (l := ps) (x := (.slice al (nmL refs[k] ts[k].2).length cl, nmL refs[k] ts[k].2)) hS2
    refine g_l (k + 1, v1, v2, ps ++ [(.slice al (nmL refs[k] ts[k].2).length cl, nmL refs[k] ts[k].2)], es ++ [⟨sv refs[k], .int .i64 1, mc⟩], mc + 1) ⟨rfl, rfl, rfl, rfl, rfl, rfl, rfl, rfl, rfl, trivial⟩ ⟨by simp only; omega, hB' e0, h6' (by omega), hN' hnot, hM' mc, ?_, ?_, ?_⟩ (by simp only; omega)
    · dsimp only
      rw [List.map_append, hP, hst, pts_app]
      rfl
    · dsimp only
      rw [List.length_append, hpl]
      rfl
    · dsimp only
      rw [List.map_append, List.reverse_append, List.map_append, show k + 1 = 1 + k by omega]
      rw [show k + 1 = 1 + k by omega] at hS3
      exact hS3
  · have ek : k = n := by omega
    subst ek
    rw [List.take_of_length_le (by omega)] at hP hN
    have hok : okR (rts refs ts) := by
      refine ⟨by rw [rts_fst (by omega)]; exact hN, fun p hp => ?_⟩
      have : p.1 ∈ (rts refs ts).map (·.1) := List.mem_map.2 ⟨p, hp, rfl⟩
      rw [rts_fst (by omega)] at this
      obtain ⟨j, hj, e⟩ := List.getElem_of_mem this
      rw [← e]
      exact hB j hj (by omega)
    have h6p : ∀ p ∈ rts refs ts, p.2.length ≤ 6 := fun p hp => by
      obtain ⟨j, hj, rfl⟩ := List.getElem_of_mem hp
      rw [rts_get hj (by omega) (by omega)]
      exact h6 j (by omega) (by omega)
    have hrl : (rts refs ts).length ≤ 8 := by omega
    have hfl : flat ps = (pts (rts refs ts)).flatten := by unfold flat; rw [hP]
    have hPl := pts_len (m := 8) _ h6p hrl
    have hPn : ∀ x ∈ (pts (rts refs ts)).flatten, x.1.length < 4294967281 := fun x hx => by
      obtain ⟨p, hp, hx⟩ := mem_pts.1 hx
      exact nmL_hlen (hok.2 p hp) p.2 x hx
    obtain ⟨ap, cp, rfl⟩ := hS.rlen 1 rfl
    obtain ⟨ab, cb, rfl⟩ := hS.rlen 2 rfl
    (repeat (first | refine g_sq ?_ | refine g_rg ?_ | refine g_r0 ?_ | refine g_ok rfl rfl ?_ | refine g_no rfl ?_ | refine g_no0 rfl ?_ | refine g_bk ?_ | refine g_b ?_ | refine g_sk ?_ | refine g_cT rfl ?_ | refine g_cF rfl ?_ | refine g_x rfl ?_ | refine g_lb ?_))
    refine g_cl rfl rfl (b_Join hpl (by omega) (by rw [hfl]; omega) (by rw [hfl]; exact hPn) (hg.in hS) (Ow.rd (hS.ok 1 _ rfl)) (own_rd (hS.ok 0 _ rfl)) fun vo w1 h' => ?_)
    replace hS := hS.call0.2 _ _ h'
    generalize hO : srtN (pts (rts refs ts)).flatten = O
    have j1 : jnE (ps.map (·.2)) = 0 := by unfold jnE; rw [hP, join_some hok]; rfl
    have j2 : jnL (ps.map (·.2)) = O := by unfold jnL; rw [hP, join_some hok, ← hO]; rfl
    rw [j1]
    rw [j2] at hS
    have hrev : (ps.reverse.map (·.2)) = pts (rts refs ts).reverse := by
      rw [List.map_reverse, hP]
      unfold pts
      rw [List.map_reverse]
    have hOr : srtN (pts (rts refs ts).reverse).flatten = O := by
      rw [← hO]
      exact join_same (okR_rev hok) hok fun x => by simp only [List.mem_reverse]
    have hflr : flat ps.reverse = (pts (rts refs ts).reverse).flatten := by unfold flat; rw [hrev]
    have hPl2 := pts_len (m := 8) (rts refs ts).reverse (fun p hp => h6p p (List.mem_reverse.1 hp)) (by rw [List.length_reverse]; exact hrl)
    have hPn2 : ∀ x ∈ (pts (rts refs ts).reverse).flatten, x.1.length < 4294967281 := fun x hx => by
      obtain ⟨p, hp, hx⟩ := mem_pts.1 hx
      exact nmL_hlen (hok.2 p (List.mem_reverse.1 hp)) p.2 x hx
    (repeat (first | refine g_sq ?_ | refine g_rg ?_ | refine g_r0 ?_ | refine g_ok rfl rfl ?_ | refine g_no rfl ?_ | refine g_no0 rfl ?_ | refine g_bk ?_ | refine g_b ?_ | refine g_sk ?_ | refine g_cT rfl ?_ | refine g_cF rfl ?_ | refine g_x rfl ?_ | refine g_lb ?_))
    refine g_cl rfl rfl (b_Join (ps := ps.reverse) (by rw [List.length_reverse]; exact hpl) (by omega) (by rw [hflr]; omega) (by rw [hflr]; exact hPn2) (hg.in hS) (Ow.rd (hS.ok 2 _ rfl)) (fun p hp => own_rd (hS.ok 0 _ rfl) p (List.mem_reverse.1 hp)) fun vq w1 h' => ?_)
    replace hS := hS.call0.2 _ _ h'
    have j3 : jnE (ps.reverse.map (·.2)) = 0 := by unfold jnE; rw [hrev, join_some (okR_rev hok)]; rfl
    have j4 : jnL (ps.reverse.map (·.2)) = O := by unfold jnL; rw [hrev, join_some (okR_rev hok), ← hOr]; rfl
    rw [j3]
    rw [j4] at hS
    replace hS : St w (fun _ => False) w1 [row vo 41 33 O.length (fl lc O), row vq 41 33 O.length (fl lc O)] := hS.sel [4, 5] rfl rfl
    have hOl : O.length < 2000000 := by rw [← hO, srtN_len]; omega
    have hOn : ∀ x ∈ O, x.1.length < 4294967281 := fun x hx => by
      rw [← hO] at hx
      exact hPn x ((srtN_perm _).mem_iff.1 hx)
    obtain ⟨ao, co, rfl⟩ := hS.rlen 0 rfl
    obtain ⟨aq, cq, rfl⟩ := hS.rlen 1 rfl
    (repeat (first | refine g_sq ?_ | refine g_rg ?_ | refine g_r0 ?_ | refine g_ok rfl rfl ?_ | refine g_no rfl ?_ | refine g_no0 rfl ?_ | refine g_bk ?_ | refine g_b ?_ | refine g_sk ?_ | refine g_cT rfl ?_ | refine g_cF rfl ?_ | refine g_x rfl ?_ | refine g_lb ?_))
    refine g_cl rfl rfl (b_SameL (d := O) (e := O) rfl rfl hOl hOl (Ow.rd (hS.ok 0 _ rfl)) (Ow.rd (hS.ok 1 _ rfl)) fun w1 h' => ?_)
    replace hS := hS.call0.2 _ _ h'
    rw [decide_eq_true rfl]
    (repeat (first | refine g_sq ?_ | refine g_rg ?_ | refine g_r0 ?_ | refine g_ok rfl rfl ?_ | refine g_no rfl ?_ | refine g_no0 rfl ?_ | refine g_bk ?_ | refine g_b ?_ | refine g_sk ?_ | refine g_cT rfl ?_ | refine g_cF rfl ?_ | refine g_x rfl ?_ | refine g_lb ?_))
    refine g_lp (ι := Nat) (fun i => [(0, .slice a k c), (1, .slice a2 m c2), (5, .bool true), (13, .slice ao O.length co), (116, .slice a k c), (117, .int .i64 k), (118, .int .i64 i)])
      (fun i w' => i ≤ k ∧ St w (fun _ => False) w' [row (.slice ao O.length co) 41 33 O.length (fl lc O)]) (fun i => k - i) 0 ⟨rfl, rfl, rfl, rfl, rfl, rfl, rfl, trivial⟩ ⟨Nat.zero_le _, hS.sel [0] rfl rfl⟩ ?_
    clear hS
    rintro i w1 ⟨hi, hS⟩
    (repeat (first | refine g_sq ?_ | refine g_rg ?_ | refine g_r0 ?_ | refine g_ok rfl rfl ?_ | refine g_no rfl ?_ | refine g_no0 rfl ?_ | refine g_bk ?_ | refine g_b ?_ | refine g_sk ?_ | refine g_cT rfl ?_ | refine g_cF rfl ?_ | refine g_x rfl ?_ | refine g_lb ?_))
    (refine g_cd rfl (fun hlt => ?_) (fun hlt => ?_) <;> simp only [cmv, arv, Bool.not_eq_true', Bool.not_eq_false', decide_eq_true_eq, decide_eq_false_iff_not] at hlt)
    · have hlt : i < refs.length := by omega
      have hlt2 : i < ts.length := by omega
      obtain ⟨b, off, cap, l, e1, hcap, hl, hx, hbl⟩ := Rd.block (hrr _ hS) (by omega)
      cases e1
      (repeat (first | refine g_sq ?_ | refine g_rg ?_ | refine g_r0 ?_ | refine g_ok rfl rfl ?_ | refine g_no rfl ?_ | refine g_no0 rfl ?_ | refine g_bk ?_ | refine g_b ?_ | refine g_sk ?_ | refine g_cT rfl ?_ | refine g_cF rfl ?_ | refine g_x rfl ?_ | refine g_lb ?_))
      refine g_rq rfl rfl ⟨by omega, by omega⟩ ?_
      refine g_l1r rfl rfl hbl (by rw [Int.toNat_natCast]; exact rd_x hx (by rw [List.length_map, hd]) (by rw [List.length_map]; exact hlt)) ?_
      rw [List.getElem_map]
      (repeat (first | refine g_sq ?_ | refine g_rg ?_ | refine g_r0 ?_ | refine g_ok rfl rfl ?_ | refine g_no rfl ?_ | refine g_no0 rfl ?_ | refine g_bk ?_ | refine g_b ?_ | refine g_sk ?_ | refine g_cT rfl ?_ | refine g_cF rfl ?_ | refine g_x rfl ?_ | refine g_lb ?_))
      refine g_dr mixed ?_
      replace hS := hS.drew
      obtain ⟨b2, off2, cap2, l2, e2, hcap2, hl2, hx2, hbl2⟩ := Rd.block (huu _ hS) (by omega)
      cases e2
      obtain ⟨ET, hTr⟩ := (hI _ (List.getElem_mem hlt2)).in hS
      obtain ⟨a3, c3, e3⟩ := hTr.form
      rw [e3] at hTr
      have hget : l2[off2 + i * 1]? = some (Value.slice a3 ts[i].2.length c3) := by
        have := rd_x hx2 (by rw [List.length_map, ht]) (k := i) (by rw [List.length_map]; exact hlt2)
        rw [List.getElem_map, e3] at this
        exact this
      have hpm : (refs[i], ts[i].2) ∈ rts refs ts := by
        have : (rts refs ts)[i]'(by omega) = (refs[i], ts[i].2) := rts_get _ _ _
        rw [← this]
        exact List.getElem_mem _
      have htp : tipsOf O refs[i] = iset ts[i].2 := by rw [← hO]; exact join_tips hok hpm
      (repeat (first | refine d_ok rfl rfl rfl ?_ | refine d_no rfl rfl ?_))
      refine d_rq rfl rfl rfl ⟨by omega, by omega⟩ ?_
      refine d_l1r rfl rfl rfl hbl2 (by rw [Int.toNat_natCast]; exact hget) ?_
      refine d_cl rfl rfl rfl (b_Tips (d := O) (s := refs[i]) rfl hOl hOn (hg.in hS) (Ow.rd (hS.ok 0 _ rfl)) fun vt w2 h' => ?_)
      have hbl3 : Blr w2 b2 l2 E1 := hbl2.same (h'.fr.kept b2 hbl2.lt (fun h => h))
      replace hTr := hTr.same (fun b hb => h'.fr.kept b (hTr.lt b hb) (fun h => h))
      replace hS := hS.call0.2 _ _ h'
      rw [htp] at hS
      obtain ⟨a6, c6, rfl⟩ := hS.rlen 1 rfl
      refine ⟨rc_1r rfl rfl rfl rfl hbl3 (by rw [Int.toNat_natCast]; exact hget) rc_0, ?_⟩
      refine d_cl rfl rfl rfl (b_Set rfl (hb _ (List.getElem_mem hlt2)) hTr fun vs w3 h' => ?_)
      replace hS := hS.call0.2 _ _ h'
      replace hS : St w (fun _ => False) w3 [_, row (.slice a6 (iset ts[i].2).length c6) 35 32 (iset ts[i].2).length (fl ic (iset ts[i].2)), row vs 35 32 (iset ts[i].2).length (fl ic (iset ts[i].2))] := hS
      refine ⟨rc_0, ?_⟩
      have hil : (iset ts[i].2).length < 2000000 := by
        have := kset_len (fun x : Id => x.1) ts[i].2
        have := hb _ (List.getElem_mem hlt2)
        unfold iset
        omega
      obtain ⟨a7, c7, rfl⟩ := hS.rlen 2 rfl
      refine d_cl rfl rfl rfl (r_SameI (d := iset ts[i].2) (e := iset ts[i].2) rfl rfl hil hil (Ow.rd (hS.ok 1 _ rfl)) (Ow.rd (hS.ok 2 _ rfl)) fun w4 h' => ?_)
      replace hS := hS.call0.2 _ _ h'
      rw [decide_eq_true rfl]
      refine ⟨rc_0, ?_⟩
      (repeat (first | refine d_ok rfl rfl rfl ?_ | refine d_no rfl rfl ?_))
      refine d_fin ?_
      (repeat (first | refine g_sq ?_ | refine g_rg ?_ | refine g_r0 ?_ | refine g_ok rfl rfl ?_ | refine g_no rfl ?_ | refine g_no0 rfl ?_ | refine g_bk ?_ | refine g_b ?_ | refine g_sk ?_ | refine g_cT rfl ?_ | refine g_cF rfl ?_ | refine g_x rfl ?_ | refine g_lb ?_))
      refine g_rq rfl rfl (in64 (by simp only [arv]; omega)) ?_
      (repeat (first | refine g_sq ?_ | refine g_rg ?_ | refine g_r0 ?_ | refine g_ok rfl rfl ?_ | refine g_no rfl ?_ | refine g_no0 rfl ?_ | refine g_bk ?_ | refine g_b ?_ | refine g_sk ?_ | refine g_cT rfl ?_ | refine g_cF rfl ?_ | refine g_x rfl ?_ | refine g_lb ?_))
      exact g_l (i + 1) ⟨rfl, rfl, rfl, rfl, rfl, rfl, rfl, trivial⟩ ⟨by omega, hS.sel [0] rfl rfl⟩ (by omega)
    · (repeat (first | refine g_sq ?_ | refine g_rg ?_ | refine g_r0 ?_ | refine g_ok rfl rfl ?_ | refine g_no rfl ?_ | refine g_no0 rfl ?_ | refine g_bk ?_ | refine g_b ?_ | refine g_sk ?_ | refine g_cT rfl ?_ | refine g_cF rfl ?_ | refine g_x rfl ?_ | refine g_lb ?_))
      refine g_cl rfl rfl (b_Refs (d := O) rfl hOl hOn (hg.in hS) (Ow.rd (hS.ok 0 _ rfl)) fun vr w1 h' => ?_)
      replace hS := hS.call0.2 _ _ h'
      have hap : ∀ p ∈ rts refs ts, tipsOf O p.1 = iset p.2 := fun p hp => by rw [← hO]; exact join_tips hok hp
      have hre : ∀ r, r ∈ refsOf O ↔ ∃ p ∈ rts refs ts, p.1 = r ∧ p.2 ≠ [] := fun r => by rw [← hO]; exact join_refs hok r
      have haj : srtN (pts (apart O)).flatten = O := by
        have := apart_join hok
        rw [hO] at this
        exact this
      have hao : okR (apart O) := by
        have := apart_ok hok
        rw [hO] at this
        exact this
      have hal : (apart O).length = (refsOf O).length := by unfold apart; rw [List.length_map]
      have hRl : (refsOf O).length < 2000000 := by
        unfold refsOf
        split
        · have := kset_len (fun s : Bs => s) (O.map fun x => (ent x).1)
          rw [List.length_map] at this
          unfold sset
          omega
        · decide
      generalize hR : refsOf O = R at hS hre hal hRl
      obtain ⟨ar, cr, rfl⟩ := hS.rlen 1 rfl
      replace hS := (St.ows_nil Fl hS).nilrow 22 1
      (repeat (first | refine g_sq ?_ | refine g_rg ?_ | refine g_r0 ?_ | refine g_ok rfl rfl ?_ | refine g_no rfl ?_ | refine g_no0 rfl ?_ | refine g_bk ?_ | refine g_b ?_ | refine g_sk ?_ | refine g_cT rfl ?_ | refine g_cF rfl ?_ | refine g_x rfl ?_ | refine g_lb ?_))
      refine g_lp (ι := Nat × Value × List Lv1) (fun x => [(5, .bool true), (13, .slice ao O.length co), (19, x.2.1), (135, .slice ar R.length cr), (136, .int .i64 R.length), (137, .int .i64 x.1)])
        (fun x w' => x.1 ≤ R.length ∧ x.2.2.map (·.2) = pts ((apart O).take x.1) ∧ x.2.2.length = x.1 ∧ St w (fun _ => False) w' [ows Fl x.2.2, row x.2.1 22 1 x.1 (x.2.2.map (·.1)), row (.slice ao O.length co) 41 33 O.length (fl lc O), row (.slice ar R.length cr) 9 1 R.length (R.map sv)])
        (fun x => R.length - x.1) (0, .slice none 0 0, []) ⟨rfl, rfl, rfl, rfl, rfl, rfl, trivial⟩ ⟨Nat.zero_le _, rfl, rfl, hS.sel [0, 3, 1, 2] rfl rfl⟩ ?_
      clear hS
      rintro ⟨j, vp, qs⟩ w1 ⟨hj, hQ, hql, hS⟩
      dsimp only at hj hQ hql hS ⊢
      (repeat (first | refine g_sq ?_ | refine g_rg ?_ | refine g_r0 ?_ | refine g_ok rfl rfl ?_ | refine g_no rfl ?_ | refine g_no0 rfl ?_ | refine g_bk ?_ | refine g_b ?_ | refine g_sk ?_ | refine g_cT rfl ?_ | refine g_cF rfl ?_ | refine g_x rfl ?_ | refine g_lb ?_))
      (refine g_cd rfl (fun hlt => ?_) (fun hlt => ?_) <;> simp only [cmv, arv, Bool.not_eq_true', Bool.not_eq_false', decide_eq_true_eq, decide_eq_false_iff_not] at hlt)
      · have hlt : j < R.length := by omega
        obtain ⟨b, off, cap, l, e1, hcap, hl, hx, hbl⟩ := Rd.block (Ow.rd (hS.ok 3 _ rfl)) (by omega)
        cases e1
        (repeat (first | refine g_sq ?_ | refine g_rg ?_ | refine g_r0 ?_ | refine g_ok rfl rfl ?_ | refine g_no rfl ?_ | refine g_no0 rfl ?_ | refine g_bk ?_ | refine g_b ?_ | refine g_sk ?_ | refine g_cT rfl ?_ | refine g_cF rfl ?_ | refine g_x rfl ?_ | refine g_lb ?_))
        refine g_rq rfl rfl ⟨by omega, by omega⟩ ?_
        refine g_l1r rfl rfl hbl (by rw [Int.toNat_natCast]; exact rd_x hx (by rw [List.length_map]) (by rw [List.length_map]; exact hlt)) ?_
        rw [List.getElem_map]
        have haj : (apart O)[j]'(by omega) = (R[j], tipsOf O R[j]) := by
          unfold apart
          rw [List.getElem_map]
          simp only [hR]
        have hst : (apart O).take (j + 1) = (apart O).take j ++ [(R[j], tipsOf O R[j])] := by rw [List.take_succ_eq_append_getElem (by omega), haj]
        obtain ⟨p, hp, hp1, _⟩ := (hre R[j]).1 (List.getElem_mem hlt)
        have hbr : brk R[j] = 0 := by rw [← hp1]; exact hok.2 p hp
        have htl : (tipsOf O R[j]).length < 2000000 := by
          rw [← hp1, hap p hp]
          have := kset_len (fun x : Id => x.1) p.2
          have := h6p p hp
          unfold iset
          omega
        (repeat (first | refine g_sq ?_ | refine g_rg ?_ | refine g_r0 ?_ | refine g_ok rfl rfl ?_ | refine g_no rfl ?_ | refine g_no0 rfl ?_ | refine g_bk ?_ | refine g_b ?_ | refine g_sk ?_ | refine g_cT rfl ?_ | refine g_cF rfl ?_ | refine g_x rfl ?_ | refine g_lb ?_))
        refine g_cl rfl rfl (b_Tips (d := O) (s := R[j]) rfl hOl hOn (hg.in hS) (Ow.rd (hS.ok 2 _ rfl)) fun vt w2 h' => ?_)
        replace hS := hS.call0.2 _ _ h'
        replace hS : St w (fun _ => False) w2 [_, _, _, _, row vt 35 32 (tipsOf O R[j]).length (fl ic (tipsOf O R[j]))] := hS
        refine g_cl rfl rfl (b_NamesU (s := R[j]) rfl htl (hg.in hS) (Ow.rd (hS.ok 4 _ rfl)) fun vl w3 h' => ?_)
        replace hS := hS.call0.2 _ _ h'
        rw [nmE_0 hbr]
        rw [nmR_ok hbr] at hS
        replace hS : St w (fun _ => False) w3 [_, _, _, _, _, row vl 41 33 (nmL R[j] (tipsOf O R[j])).length (fl lc (nmL R[j] (tipsOf O R[j])))] := hS
        obtain ⟨al, cl, rfl⟩ := hS.rlen 5 rfl
        (repeat (first | refine g_sq ?_ | refine g_rg ?_ | refine g_r0 ?_ | refine g_ok rfl rfl ?_ | refine g_no rfl ?_ | refine g_no0 rfl ?_ | refine g_bk ?_ | refine g_b ?_ | refine g_sk ?_ | refine g_cT rfl ?_ | refine g_cF rfl ?_ | refine g_x rfl ?_ | refine g_lb ?_))
        refine g_ef rfl (ef_bl (rs := [.slice al (nmL R[j] (tipsOf O R[j])).length cl]) hS rfl fun g1 w1 hS => ?_)
        refine g_ef rfl (ef_ap (bytes := 24) (n := j) (m := 1) (ys := [.slice al (nmL R[j] (tipsOf O R[j])).length cl]) hS 1 rfl rfl rfl (.inl ⟨22, .inr ⟨g1, 0, 1, _, rfl, Nat.le_refl _, Nat.le_refl _, rfl, (hS.b 6 rfl).r⟩⟩) rfl (by omega) (by omega) fun v1 w1 hS => ?_)
        (repeat (first | refine g_sq ?_ | refine g_rg ?_ | refine g_r0 ?_ | refine g_ok rfl rfl ?_ | refine g_no rfl ?_ | refine g_no0 rfl ?_ | refine g_bk ?_ | refine g_b ?_ | refine g_sk ?_ | refine g_cT rfl ?_ | refine g_cF rfl ?_ | refine g_x rfl ?_ | refine g_lb ?_))
        refine g_rq rfl rfl (in64 (by simp only [arv]; omega)) ?_
        (repeat (first | refine g_sq ?_ | refine g_rg ?_ | refine g_r0 ?_ | refine g_ok rfl rfl ?_ | refine g_no rfl ?_ | refine g_no0 rfl ?_ | refine g_bk ?_ | refine g_b ?_ | refine g_sk ?_ | refine g_cT rfl ?_ | refine g_cF rfl ?_ | refine g_x rfl ?_ | refine g_lb ?_))
        have hS3 := St.ows_app (F := Fl) (l := qs) (x := (.slice al (nmL R[j] (tipsOf O R[j])).length cl, nmL R[j] (tipsOf O R[j]))) (hS.sel [0, 5, 1, 2, 3] rfl rfl)
        refine g_l (j + 1, v1, qs ++ [(.slice al (nmL R[j] (tipsOf O R[j])).length cl, nmL R[j] (tipsOf O R[j]))]) ⟨rfl, rfl, rfl, rfl, rfl, rfl, trivial⟩ ⟨by simp only; omega, ?_, ?_, ?_⟩ (by simp only; omega)
        · dsimp only
          rw [List.map_append, hQ, hst, pts_app]
          rfl
        · dsimp only
          rw [List.length_append, hql]
          rfl
        · dsimp only
          rw [List.map_append]
          exact hS3
      · have ej : j = R.length := by omega
        subst ej
        rw [List.take_of_length_le (by omega)] at hQ
        have hfq : flat qs = (pts (apart O)).flatten := by unfold flat; rw [hQ]
        have hfl2 : (flat qs).length = O.length := by
          rw [hfq, ← srtN_len, haj]
        have hqn : ∀ x ∈ flat qs, x.1.length < 4294967281 := fun x hx => by
          rw [hfq] at hx
          obtain ⟨p, hp, hx⟩ := mem_pts.1 hx
          exact nmL_hlen (hao.2 p hp) p.2 x hx
        obtain ⟨ap, cp, rfl⟩ := hS.rlen 1 rfl
        (repeat (first | refine g_sq ?_ | refine g_rg ?_ | refine g_r0 ?_ | refine g_ok rfl rfl ?_ | refine g_no rfl ?_ | refine g_no0 rfl ?_ | refine g_bk ?_ | refine g_b ?_ | refine g_sk ?_ | refine g_cT rfl ?_ | refine g_cF rfl ?_ | refine g_x rfl ?_ | refine g_lb ?_))
        refine g_cl rfl rfl (b_Join hql hRl (by omega) hqn (hg.in hS) (Ow.rd (hS.ok 1 _ rfl)) (own_rd (hS.ok 0 _ rfl)) fun vc w2 h' => ?_)
        replace hS := hS.call0.2 _ _ h'
        have j5 : jnE (qs.map (·.2)) = 0 := by unfold jnE; rw [hQ, join_some hao]; rfl
        have j6 : jnL (qs.map (·.2)) = O := by unfold jnL; rw [hQ, join_some hao]; exact haj
        rw [j5]
        rw [j6] at hS
        replace hS : St w (fun _ => False) w2 [_, _, row (.slice ao O.length co) 41 33 O.length (fl lc O), _, row vc 41 33 O.length (fl lc O)] := hS
        obtain ⟨ac, cc, rfl⟩ := hS.rlen 4 rfl
        (repeat (first | refine g_sq ?_ | refine g_rg ?_ | refine g_r0 ?_ | refine g_ok rfl rfl ?_ | refine g_no rfl ?_ | refine g_no0 rfl ?_ | refine g_bk ?_ | refine g_b ?_ | refine g_sk ?_ | refine g_cT rfl ?_ | refine g_cF rfl ?_ | refine g_x rfl ?_ | refine g_lb ?_))
        refine g_cl rfl rfl (b_SameL (d := O) (e := O) rfl rfl hOl hOl (Ow.rd (hS.ok 2 _ rfl)) (Ow.rd (hS.ok 4 _ rfl)) fun w3 h' => ?_)
        replace hS := hS.call0.2 _ _ h'
        rw [decide_eq_true rfl]
        (repeat (first | refine g_sq ?_ | refine g_rg ?_ | refine g_r0 ?_ | refine g_ok rfl rfl ?_ | refine g_no rfl ?_ | refine g_no0 rfl ?_ | refine g_bk ?_ | refine g_b ?_ | refine g_sk ?_ | refine g_cT rfl ?_ | refine g_cF rfl ?_ | refine g_x rfl ?_ | refine g_lb ?_))
        exact g_ret (q_1 rfl (h _ (hS.sel [] rfl rfl)))
theorem b_JoinsL (hg : Gl w) {v u : Value} {n m : Nat} {refs : List Bs} {ts : List Ivl} (hd : refs.length = n) (hr : Rd v E0 1 n (refs.map sv) w) (ht : ts.length = m) (hu : Rd u E1 1 m (ts.map (·.1)) w) (hI : ∀ t ∈ ts, IvlR w t) (hb : ∀ t ∈ ts, t.2.length ≤ 1048576)
    (h : ∀ w', St w (fun _ => False) w' [] → K (.bool true) w') : CK Tryz.prog 5 [v, u] w K := b_Joins hd ht hr hu hI (fun t ht => Nat.lt_of_le_of_lt (hb t ht) (by decide)) hg h
end
end Go.Proofs.YtibofabkpgigoaaGreatDoor
