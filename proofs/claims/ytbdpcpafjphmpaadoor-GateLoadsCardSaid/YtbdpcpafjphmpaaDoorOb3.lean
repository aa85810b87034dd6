/- A gate's records, collected and sorted: All. -/
import Derived.Test.YtbdpcpafjphmpaaDoorOb2
set_option linter.unusedSimpArgs false
set_option linter.unusedVariables false
namespace Go.Proofs.YtbdpcpafjphmpaaDoor
open Go.En
instance : Inhabited Rec := ⟨⟨0, 0, List.replicate 16 0, [], false, zip, rfl, rfl, fun x hx => by rw [List.eq_of_mem_replicate hx]; decide, by decide, by decide⟩⟩
section
variable {w w0 : World} {S0 : Nat → Prop} {L B : List Res} {K : Value → World → Prop} {s : Bs} {E0 E1 : Nat}
set_option maxHeartbeats 4000000 in
theorem b_AppSeq {o : List Rec} {mv : Option Nat} {b : Nat} (hlen : o.length < 2000000) (hS : St w0 S0 w [cel b [.map mv] 45, gm mv o])
    (h : ∀ d v' w', d.Perm o → St w0 S0 w' [gm mv o, row v' 31 52 d.length (fl rc d)] → K v' w') : CK Tryd.prog 27 [.slice none 0 0, .func (.func 21) ⟨[]⟩ ⟨[dp b]⟩] w K := by
  refine call_k Tryd.func27 k27 Tryd.ntmps27 (Nat.le_of_ble_eq_true rfl) ?_
  (repeat (first | refine g_sq ?_ | refine g_rg ?_ | refine g_r0 ?_ | refine g_ok rfl rfl ?_ | refine g_no rfl ?_ | refine g_no0 rfl ?_ | refine g_bk ?_ | refine g_b ?_ | refine g_sk ?_ | refine g_cT rfl ?_ | refine g_cF rfl ?_ | refine g_x rfl ?_ | refine g_lb ?_))
  refine g_ef rfl (ef_bx hS rfl fun b2 w1 hS => ?_)
  replace hS := hS.nilrow 31 52
  replace hS : St w0 S0 w1 [cel b [.map mv] 45, gm mv o, cel b2 [.slice none 0 0] 22, row (.slice none 0 0) 31 52 0 []] := hS
  (repeat (first | refine g_sq ?_ | refine g_rg ?_ | refine g_r0 ?_ | refine g_ok rfl rfl ?_ | refine g_no rfl ?_ | refine g_no0 rfl ?_ | refine g_bk ?_ | refine g_b ?_ | refine g_sk ?_ | refine g_cT rfl ?_ | refine g_cF rfl ?_ | refine g_x rfl ?_ | refine g_lb ?_))
  refine g_atd 2 [(2, dp b2)] (fun D1 w' => ∃ dB, D1 = [⟨.collected dB, #[]⟩] ∧ ∃ a1 c1, ∃ d : List Rec, d.Perm o ∧
      St w0 S0 w' [gm mv o, cel b2 [.slice a1 d.length c1] 22, row (.slice a1 d.length c1) 31 52 d.length (fl rc d), obj dB (.deferred (some []))]) rfl ?_ ?_
  · refine g_wkc (T' := [(6, .func (.func 21) ⟨[]⟩ ⟨[dp b]⟩), (2, dp b2)]) ⟨rfl, rfl, trivial⟩ ?_
    refine g_rf (cap := [dp b]) (first := []) hS rfl (callFunc_of Tryd.func21 rfl rfl) fun l dB w2 hS => ?_
    refine d_values (ι := Option Addr × Nat × List Rec) (Ls := fun σ => [cel b [.map mv] 45, gm mv o, cel b2 [.slice σ.1 σ.2.2.length σ.2.1] 22, row (.slice σ.1 σ.2.2.length σ.2.1) 31 52 σ.2.2.length (fl rc σ.2.2), obj dB (.deferred (some [])), _])
      (Inv := fun ys σ => σ.2.2 = ys) (i := 0) (j := 1) (fun σ => rfl) (fun σ => rfl) (σ0 := (none, 0, [])) rfl hS ?_ ?_
    · clear hS
      rintro X ys r ⟨a1, c1, ts⟩ w2 hlt hI hS
      dsimp only at hI hS
      subst hI
      refine yd_of hS 5 rfl rfl ?_
      (repeat (first | refine g_sq ?_ | refine g_rg ?_ | refine g_r0 ?_ | refine g_ok rfl rfl ?_ | refine g_no rfl ?_ | refine g_no0 rfl ?_ | refine g_bk ?_ | refine g_b ?_ | refine g_sk ?_ | refine g_cT rfl ?_ | refine g_cF rfl ?_ | refine g_x rfl ?_ | refine g_lb ?_))
      refine g_ef rfl (ef_al hS fun b6 w2 hS => ?_)
      have lz : (zx [(2, .int .i64 0), (16, .int .u32 0), (1, .string ⟨#[]⟩), (1, .bool false), (32, .int .u8 0)]).length = 52 := by decide
      refine g_ef0 rfl (ef_st hS 7 rfl rfl rfl (rc_len _) (by rw [lz]; decide) (List.all_eq_true.2 (rc_one _)) fun w2 hS => ?_)
      replace hS := hS.ceq (l' := rc r) 7 rfl (spl_full _ _ (by show (rc r).length = _; rw [rc_len, lz]))
      (repeat (first | refine g_sq ?_ | refine g_rg ?_ | refine g_r0 ?_ | refine g_ok rfl rfl ?_ | refine g_no rfl ?_ | refine g_no0 rfl ?_ | refine g_bk ?_ | refine g_b ?_ | refine g_sk ?_ | refine g_cT rfl ?_ | refine g_cF rfl ?_ | refine g_x rfl ?_ | refine g_lb ?_))
      refine ⟨rfl, _, _, hS, rfl, fun w2 hS => ?_⟩
      (repeat (first | refine g_sq ?_ | refine g_rg ?_ | refine g_r0 ?_ | refine g_ok rfl rfl ?_ | refine g_no rfl ?_ | refine g_no0 rfl ?_ | refine g_bk ?_ | refine g_b ?_ | refine g_sk ?_ | refine g_cT rfl ?_ | refine g_cF rfl ?_ | refine g_x rfl ?_ | refine g_lb ?_))
      refine g_l1 rfl rfl (hS.b  2 rfl) rfl ?_
      refine g_lm rfl rfl (hS.b 7 rfl) (Nat.le_of_eq (by rw [rc_len])) ?_
      rw [List.drop_zero, List.take_of_length_le (Nat.le_of_eq (rc_len _))]
      refine g_ef rfl (ef_bl (rs := rc r) hS (evcs_1 rfl (rc_len _)) fun g w2 hS => ?_)
      refine g_ef rfl (ef_ap (n := ts.length) (m := 1) hS 3 rfl rfl rfl (.inl ⟨31, .inr ⟨g, 0, 1, _, rfl, Nat.le_refl _, Nat.le_of_eq (by rw [rc_len]), by rw [List.drop_zero, List.take_of_length_le (Nat.le_of_eq (rc_len _))], (hS.b 8 rfl).r⟩⟩) (List.all_eq_true.2 (rc_one r)) (by omega) (by omega) fun v1 w2 hS => ?_)
      obtain ⟨a2, c2, rfl⟩ := hS.rlen 3 rfl
      refine g_ef0 rfl (ef_st hS 2 rfl rfl rfl rfl (Nat.le_of_ble_eq_true rfl) rfl fun w2 hS => ?_)
      (repeat (first | refine g_sq ?_ | refine g_rg ?_ | refine g_r0 ?_ | refine g_ok rfl rfl ?_ | refine g_no rfl ?_ | refine g_no0 rfl ?_ | refine g_bk ?_ | refine g_b ?_ | refine g_sk ?_ | refine g_cT rfl ?_ | refine g_cF rfl ?_ | refine g_x rfl ?_ | refine g_lb ?_))
      have ets : fl rc ts ++ rc r = fl rc (ts ++ [r]) := by rw [fl_app]; simp [fl]
      have etl : ts.length + 1 = (ts ++ [r]).length := by simp
      rw [ets, etl] at hS
      exact ⟨_, _, hS.sel [0, 1, 2, 3, 4, 5, 6] rfl rfl, rfl, fun w2 hS => .inl ⟨rfl, (a2, c2, ts ++ [r]), rfl, hS⟩⟩
    · clear hS
      rintro ys ⟨a1, c1, ts⟩ w2 hp hI hS
      dsimp only at hI hS
      subst hI
      refine ⟨_, 5, _, _, hS, rfl, (fun h => nomatch h), fun w2 hS => ?_⟩
      exact g_b (g_jd ⟨rfl, trivial⟩ ⟨dB, rfl, a1, c1, ts, hp, hS.sel [1, 2, 3, 4] rfl rfl⟩)
  · clear hS
    rintro T D1 w1 hT ⟨dB, rfl, a1, c1, d, hp, hS⟩
    refine g_wkc hT ?_
    (repeat (first | refine g_sq ?_ | refine g_rg ?_ | refine g_r0 ?_ | refine g_ok rfl rfl ?_ | refine g_no rfl ?_ | refine g_no0 rfl ?_ | refine g_bk ?_ | refine g_b ?_ | refine g_sk ?_ | refine g_cT rfl ?_ | refine g_cF rfl ?_ | refine g_x rfl ?_ | refine g_lb ?_))
    refine g_l1 rfl rfl (hS.b  1 rfl) rfl ?_
    (repeat (first | refine g_sq ?_ | refine g_rg ?_ | refine g_r0 ?_ | refine g_ok rfl rfl ?_ | refine g_no rfl ?_ | refine g_no0 rfl ?_ | refine g_bk ?_ | refine g_b ?_ | refine g_sk ?_ | refine g_cT rfl ?_ | refine g_cF rfl ?_ | refine g_x rfl ?_ | refine g_lb ?_))
    exact g_ret (q_dr hS 3 rfl fun w hS => q_1 rfl (h _ _ _ hp (hS.sel [0, 2] rfl rfl)))
theorem b_Collect {o : List Rec} {mv : Option Nat} {b : Nat} (hlen : o.length < 2000000) (hS : St w0 S0 w [cel b [.map mv] 45, gm mv o])
    (h : ∀ d v' w', d.Perm o → St w0 S0 w' [gm mv o, row v' 31 52 d.length (fl rc d)] → K v' w') : CK Tryd.prog 19 [.func (.func 21) ⟨[]⟩ ⟨[dp b]⟩] w K := by
  refine call_k Tryd.func19 k19 Tryd.ntmps19 (Nat.le_of_ble_eq_true rfl) ?_
  (repeat (first | refine g_sq ?_ | refine g_rg ?_ | refine g_r0 ?_ | refine g_ok rfl rfl ?_ | refine g_no rfl ?_ | refine g_no0 rfl ?_ | refine g_bk ?_ | refine g_b ?_ | refine g_sk ?_ | refine g_cT rfl ?_ | refine g_cF rfl ?_ | refine g_x rfl ?_ | refine g_lb ?_))
  refine g_cl rfl rfl (b_AppSeq hlen hS fun d v' w' hp hS => ?_)
  (repeat (first | refine g_sq ?_ | refine g_rg ?_ | refine g_r0 ?_ | refine g_ok rfl rfl ?_ | refine g_no rfl ?_ | refine g_no0 rfl ?_ | refine g_bk ?_ | refine g_b ?_ | refine g_sk ?_ | refine g_cT rfl ?_ | refine g_cF rfl ?_ | refine g_x rfl ?_ | refine g_lb ?_))
  exact g_ret (q_1 rfl (h _ _ _ hp hS))
theorem b_SortR {v : Value} {n : Nat} {d : List Rec} (hd : d.length = n) (hn : n < 2000000) (hS : St w0 S0 w [row v 31 52 n (fl rc d)])
    (h : ∀ d' w', d'.Perm d → d'.Pairwise (fun x y => ¬ dlt' y x) → St w0 S0 w' [row v 31 52 n (fl rc d')] → K (.tuple ⟨[]⟩) w') : CK Tryd.prog 20 [v, .func (.func 9) ⟨[]⟩ ⟨[]⟩] w K := by
  rcases hS.ok 0 _ rfl with ⟨rfl, rfl, h3⟩ | ⟨b, cap, rest, rfl, _⟩
  · have e : d = [] := List.eq_nil_of_length_eq_zero hd
    subst e
    refine (AnyF.slices_SortFunc_none Tryd.sortRec none 0 (.func (.func 9) ⟨[]⟩ ⟨[]⟩) w).mono ?_
    rintro e w' ⟨rfl, rfl⟩
    exact ⟨_, rfl, h _ _ List.Perm.nil List.Pairwise.nil hS⟩
  · refine ck_sortF (i := 0) Tryd.sortRec Tryd.isAgg31 Tryd.sizeOf31 rc_len rc_one (fun x y : Rec => dotC x.site x.cnt y.site y.cnt) swo_dot (enters_of Tryd.func9 (by kernel_rfl) rfl) (fun W x y K h => b_byDot h) hS rfl hd (by omega) fun d' w' hp hs hS => ?_
    exact h _ _ hp (hs.imp fun {x y} h => by
      have h : decide (dotC y.site y.cnt x.site x.cnt < 0) = false := h
      rw [dlt_C]
      exact of_decide_eq_false h) hS
theorem b_SortedR {o : List Rec} {mv : Option Nat} {b : Nat} (hlen : o.length < 2000000) (hS : St w0 S0 w [cel b [.map mv] 45, gm mv o])
    (h : ∀ d v' w', d.Perm o → d.Pairwise (fun x y => ¬ dlt' y x) → St w0 S0 w' [gm mv o, row v' 31 52 d.length (fl rc d)] → K v' w') : CK Tryd.prog 13 [.func (.func 21) ⟨[]⟩ ⟨[dp b]⟩, .func (.func 9) ⟨[]⟩ ⟨[]⟩] w K := by
  refine call_k Tryd.func13 k13 Tryd.ntmps13 (Nat.le_of_ble_eq_true rfl) ?_
  (repeat (first | refine g_sq ?_ | refine g_rg ?_ | refine g_r0 ?_ | refine g_ok rfl rfl ?_ | refine g_no rfl ?_ | refine g_no0 rfl ?_ | refine g_bk ?_ | refine g_b ?_ | refine g_sk ?_ | refine g_cT rfl ?_ | refine g_cF rfl ?_ | refine g_x rfl ?_ | refine g_lb ?_))
  refine g_cl rfl rfl (b_Collect hlen hS fun d v' w1 hp hS => ?_)
  replace hS : St w0 S0 w1 ([row v' 31 52 d.length (fl rc d)] ++ [gm mv o]) := hS.sel [1, 0] rfl rfl
  have hF := hS.frame
  (repeat (first | refine g_sq ?_ | refine g_rg ?_ | refine g_r0 ?_ | refine g_ok rfl rfl ?_ | refine g_no rfl ?_ | refine g_no0 rfl ?_ | refine g_bk ?_ | refine g_b ?_ | refine g_sk ?_ | refine g_cT rfl ?_ | refine g_cF rfl ?_ | refine g_x rfl ?_ | refine g_lb ?_))
  refine g_cl rfl rfl (b_SortR rfl (by rw [hp.length_eq]; exact hlen) hF.1 fun d' w2 hp' hs h' => ?_)
  replace hS := hF.2 _ _ h'
  replace hS : St w0 S0 w2 [gm mv o, row v' 31 52 d'.length (fl rc d')] := by rw [hp'.length_eq]; exact hS.sel [1, 0] rfl rfl
  (repeat (first | refine g_sq ?_ | refine g_rg ?_ | refine g_r0 ?_ | refine g_ok rfl rfl ?_ | refine g_no rfl ?_ | refine g_no0 rfl ?_ | refine g_bk ?_ | refine g_b ?_ | refine g_sk ?_ | refine g_cT rfl ?_ | refine g_cF rfl ?_ | refine g_x rfl ?_ | refine g_lb ?_))
  exact g_ret (q_1 rfl (h _ _ _ (hp'.trans hp) hs hS))
theorem b_Values {mv : Option Nat} (h : ∀ b w', St w (fun _ => False) w' [cel b [.map mv] 45] → K (.func (.func 21) ⟨[]⟩ ⟨[dp b]⟩) w') : CK Tryd.prog 14 [.map mv] w K := by
  have hS := St.nil w (fun _ => False)
  refine call_k Tryd.func14 k14 Tryd.ntmps14 (Nat.le_of_ble_eq_true rfl) ?_
  (repeat (first | refine g_sq ?_ | refine g_rg ?_ | refine g_r0 ?_ | refine g_ok rfl rfl ?_ | refine g_no rfl ?_ | refine g_no0 rfl ?_ | refine g_bk ?_ | refine g_b ?_ | refine g_sk ?_ | refine g_cT rfl ?_ | refine g_cF rfl ?_ | refine g_x rfl ?_ | refine g_lb ?_))
  refine g_ef rfl (ef_bx hS rfl fun b1 w1 hS => ?_)
  (repeat (first | refine g_sq ?_ | refine g_rg ?_ | refine g_r0 ?_ | refine g_ok rfl rfl ?_ | refine g_no rfl ?_ | refine g_no0 rfl ?_ | refine g_bk ?_ | refine g_b ?_ | refine g_sk ?_ | refine g_cT rfl ?_ | refine g_cF rfl ?_ | refine g_x rfl ?_ | refine g_lb ?_))
  exact g_ret (q_1 rfl (h _ _ hS))
/-- the records that wait, in order -/
theorem b_All {o : List Rec} {mv : Option Nat} {bG : Nat} (hlen : o.length < 2000000) (hS : St w0 S0 w [cel bG [.map mv] 47, gm mv o])
    (h : ∀ d v' w', d.Perm o → d.Pairwise (fun x y => ¬ dlt' y x) → St w0 S0 w' [cel bG [.map mv] 47, gm mv o, row v' 31 52 d.length (fl rc d)] → K v' w') : CK Tryd.prog 7 [dp bG] w K := by
  refine call_k Tryd.func7 k7 Tryd.ntmps7 (Nat.le_of_ble_eq_true rfl) ?_
  (repeat (first | refine g_sq ?_ | refine g_rg ?_ | refine g_r0 ?_ | refine g_ok rfl rfl ?_ | refine g_no rfl ?_ | refine g_no0 rfl ?_ | refine g_bk ?_ | refine g_b ?_ | refine g_sk ?_ | refine g_cT rfl ?_ | refine g_cF rfl ?_ | refine g_x rfl ?_ | refine g_lb ?_))
  refine g_l1 rfl rfl (hS.b  0 rfl) rfl ?_
  refine g_cl rfl rfl (b_Values fun b w1 h' => ?_)
  replace hS := hS.call0.2 _ _ h'
  clear h'
  replace hS : St w0 S0 w1 ([cel b [.map mv] 45, gm mv o] ++ [cel bG [.map mv] 47]) := hS.sel [2, 1, 0] rfl rfl
  have hF := hS.frame
  (repeat (first | refine g_sq ?_ | refine g_rg ?_ | refine g_r0 ?_ | refine g_ok rfl rfl ?_ | refine g_no rfl ?_ | refine g_no0 rfl ?_ | refine g_bk ?_ | refine g_b ?_ | refine g_sk ?_ | refine g_cT rfl ?_ | refine g_cF rfl ?_ | refine g_x rfl ?_ | refine g_lb ?_))
  refine g_cl rfl rfl (b_SortedR hlen hF.1 fun d v' w2 hp hs h' => ?_)
  replace hS := hF.2 _ _ h'
  (repeat (first | refine g_sq ?_ | refine g_rg ?_ | refine g_r0 ?_ | refine g_ok rfl rfl ?_ | refine g_no rfl ?_ | refine g_no0 rfl ?_ | refine g_bk ?_ | refine g_b ?_ | refine g_sk ?_ | refine g_cT rfl ?_ | refine g_cF rfl ?_ | refine g_x rfl ?_ | refine g_lb ?_))
  exact g_ret (q_1 rfl (h _ _ _ hp hs (hS.sel [2, 0, 1] rfl rfl)))
end
theorem all_eq {d o : List Rec} (ho : o.Pairwise dlt') (hp : d.Perm o) (hs : d.Pairwise (fun x y => ¬ dlt' y x)) : d = o :=
  List.Perm.eq_of_pairwise (le := fun x y => ¬ dlt' y x) (fun a b ha hb h k => by
    rw [dlt_iff] at h k
    have ha := hp.mem_iff.1 ha
    obtain ⟨i, hi, rfl⟩ := List.mem_iff_getElem.1 ha
    obtain ⟨j, hj, rfl⟩ := List.mem_iff_getElem.1 hb
    rcases Nat.lt_trichotomy i j with hij | hij | hij
    · have := (dlt_iff _ _).1 (List.pairwise_iff_getElem.1 ho i j hi hj hij); omega
    · subst hij; rfl
    · have := (dlt_iff _ _).1 (List.pairwise_iff_getElem.1 ho j i hj hi hij); omega) hs (ho.imp fun {x y} h => by rw [dlt_iff] at *; omega) hp
end Go.Proofs.YtbdpcpafjphmpaaDoor
