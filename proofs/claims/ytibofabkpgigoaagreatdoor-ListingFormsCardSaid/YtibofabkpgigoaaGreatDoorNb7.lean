/- A ref's tips, as a listing tells them. -/
import Derived.Test.YtibofabkpgigoaaGreatDoorNb6
set_option linter.unusedSimpArgs false
set_option linter.unusedVariables false
namespace Go.Proofs.YtibofabkpgigoaaGreatDoor
open Go.En

def ofRef (s : Bs) (x : Li) : Bool := decide ((ent x).1 = s)
def tipsF (d : List Li) (s : Bs) : List Id := (d.filter (ofRef s)).map (·.2)
/-- a ref's tips -/
def tipsOf (d : List Li) (s : Bs) : List Id := if chk d = true then iset (tipsF d s) else []
section
variable {w w0 : World} {S0 : Nat → Prop} {L B : List Res} {K : Value → World → Prop} {s : Bs} {E0 E1 : Nat}
set_option maxHeartbeats 4000000 in
theorem b_Tips {d : List Li} {v : Value} {n : Nat} (hd : d.length = n) (hn : n < 2000000) (hlen : ∀ x ∈ d, x.1.length < 4294967281) (hg : Gl w) (hr : Rd v E0 33 n (fl lc d) w)
    (h : ∀ v' w', St w (fun _ => False) w' [row v' 35 32 (tipsOf d s).length (fl ic (tipsOf d s))] → K v' w') : CK Tryz.prog 18 [v, sv s] w K := by
  have hS := St.nil w (fun _ => False)
  have hrr : ∀ {L : List Res} (w' : World), St w (fun _ => False) w' L → Rd v E0 33 n (fl lc d) w' := fun w' hS => hr.same fun b hb => hS.fr.kept b (hr.lt b hb) (fun h => h)
  obtain ⟨a, c, rfl⟩ := hr.form
  refine call_k Tryz.func18 k18 Tryz.ntmps18 (Nat.le_of_ble_eq_true rfl) ?_
  (repeat (first | refine g_sq ?_ | refine g_rg ?_ | refine g_r0 ?_ | refine g_ok rfl rfl ?_ | refine g_no rfl ?_ | refine g_no0 rfl ?_ | refine g_bk ?_ | refine g_b ?_ | refine g_sk ?_ | refine g_cT rfl ?_ | refine g_cF rfl ?_ | refine g_x rfl ?_ | refine g_lb ?_))
  refine g_ef rfl (ef_bx hS rfl fun b3 w1 hS => ?_)
  replace hS : St w (fun _ => False) w1 [cel b3 [sv s] 9] := hS
  (repeat (first | refine g_sq ?_ | refine g_rg ?_ | refine g_r0 ?_ | refine g_ok rfl rfl ?_ | refine g_no rfl ?_ | refine g_no0 rfl ?_ | refine g_bk ?_ | refine g_b ?_ | refine g_sk ?_ | refine g_cT rfl ?_ | refine g_cF rfl ?_ | refine g_x rfl ?_ | refine g_lb ?_))
  refine g_cl rfl rfl (b_CheckL hd hn hlen (hg.in hS) (hrr _ hS) fun w1 h' => ?_)
  replace hS := hS.call0.2 _ _ h'
  rw [List.append_nil] at hS
  clear h'
  cases hck : chk d
  · have e1 : eE d = 200 := by unfold eE; rw [if_neg (by rw [hck]; decide)]
    have e2 : tipsOf d s = [] := by unfold tipsOf; rw [if_neg (by rw [hck]; decide)]
    rw [e1]
    rw [e2] at h
    (repeat (first | refine g_sq ?_ | refine g_rg ?_ | refine g_r0 ?_ | refine g_ok rfl rfl ?_ | refine g_no rfl ?_ | refine g_no0 rfl ?_ | refine g_bk ?_ | refine g_b ?_ | refine g_sk ?_ | refine g_cT rfl ?_ | refine g_cF rfl ?_ | refine g_x rfl ?_ | refine g_lb ?_))
    exact g_ret (q_1 rfl (h _ _ ((hS.sel [] rfl rfl).nilrow 35 32)))
  · have e1 : eE d = 0 := by unfold eE; rw [if_pos hck]
    have e2 : tipsOf d s = iset (tipsF d s) := by unfold tipsOf; rw [if_pos hck]
    rw [e1]
    rw [e2] at h
    (repeat (first | refine g_sq ?_ | refine g_rg ?_ | refine g_r0 ?_ | refine g_ok rfl rfl ?_ | refine g_no rfl ?_ | refine g_no0 rfl ?_ | refine g_bk ?_ | refine g_b ?_ | refine g_sk ?_ | refine g_cT rfl ?_ | refine g_cF rfl ?_ | refine g_x rfl ?_ | refine g_lb ?_))
    refine g_ef rfl (ef_al hS fun b5 w1 hS => ?_)
    replace hS := hS.nilrow 35 32
    (repeat (first | refine g_sq ?_ | refine g_rg ?_ | refine g_r0 ?_ | refine g_ok rfl rfl ?_ | refine g_no rfl ?_ | refine g_no0 rfl ?_ | refine g_bk ?_ | refine g_b ?_ | refine g_sk ?_ | refine g_cT rfl ?_ | refine g_cF rfl ?_ | refine g_x rfl ?_ | refine g_lb ?_))
    refine g_cl rfl rfl (b_entries rfl rfl fun b1 w1 h' => ?_)
    replace hS := hS.call0.2 _ _ h'
    replace hS : St w (fun _ => False) w1 [cel b3 [sv s] 9, cel b5 [.slice none 0 0] 32, row (.slice none 0 0) 35 32 0 [], cel b1 [.slice a n c] 22] := hS
    clear h'
    refine g_r0 ?_
    refine g_atd 1 [(5, dp b5)] (fun D1 w' => ∃ dB, D1 = [⟨.collected dB, #[]⟩] ∧ ∃ a1 c1 m, m = (tipsF d s).length ∧
      St w (fun _ => False) w' [cel b5 [.slice a1 m c1] 32, row (.slice a1 m c1) 35 32 m (fl ic (tipsF d s)), obj dB (.deferred (some []))]) rfl ?_ ?_
    · (repeat (first | refine g_sq ?_ | refine g_rg ?_ | refine g_r0 ?_ | refine g_ok rfl rfl ?_ | refine g_no rfl ?_ | refine g_no0 rfl ?_ | refine g_bk ?_ | refine g_b ?_ | refine g_sk ?_ | refine g_cT rfl ?_ | refine g_cF rfl ?_ | refine g_x rfl ?_ | refine g_lb ?_))
      refine g_wkc (T' := [(12, .func (.func 61) ⟨[]⟩ ⟨[dp b1]⟩), (3, dp b3), (5, dp b5)]) ⟨rfl, rfl, rfl, trivial⟩ ?_
      refine g_rf (cap := [dp b1]) (first := []) hS rfl (callFunc_of Tryz.func61 rfl rfl) fun l dB w2 hS => ?_
      refine d_entries (ι := Option Addr × Nat × List Id) (Ls := fun σ => [cel b3 [sv s] 9, cel b5 [.slice σ.1 σ.2.2.length σ.2.1] 32, row (.slice σ.1 σ.2.2.length σ.2.1) 35 32 σ.2.2.length (fl ic σ.2.2), cel b1 [.slice a n c] 22, obj dB (.deferred (some [])), _])
        (Inv := fun k σ => σ.2.2 = tipsF (d.take k) s) (i := 3) hd hn hlen (fun σ => rfl) (fun σ w' hS => hrr w' hS) (fun σ w' hS => hg.in hS) (σ0 := (none, 0, [])) rfl hS ?_ ?_
      · clear hS
        rintro k hk ⟨a1, c1, ts⟩ w2 hI hS
        dsimp only at hI hS
        refine yd_of hS 5 rfl rfl ?_
        have hst : tipsF (d.take (k + 1)) s = tipsF (d.take k) s ++ if ofRef s d[k] then [d[k].2] else [] := by
          unfold tipsF
          rw [List.take_succ_eq_append_getElem hk, List.filter_append, List.map_append]
          congr 1
          cases ho : ofRef s d[k] <;> simp [ho]
        generalize hX : d[k] = X at hst
        have htl : ts.length ≤ k := by
          rw [hI, tipsF, List.length_map]
          exact Nat.le_trans (List.length_filter_le _ _) (by rw [List.length_take]; omega)
        (repeat (first | refine g_sq ?_ | refine g_rg ?_ | refine g_r0 ?_ | refine g_ok rfl rfl ?_ | refine g_no rfl ?_ | refine g_no0 rfl ?_ | refine g_bk ?_ | refine g_b ?_ | refine g_sk ?_ | refine g_cT rfl ?_ | refine g_cF rfl ?_ | refine g_x rfl ?_ | refine g_lb ?_))
        refine g_ef rfl (ef_al hS fun b6 w2 hS => ?_)
        have lz : (zx [(1, .string ⟨#[]⟩), (32, .int .u8 0)]).length = 33 := by decide
        refine g_ef0 rfl (ef_st hS 6 rfl rfl rfl (lc_len _) (by rw [lz]; decide) (List.all_eq_true.2 (lc_one _)) fun w2 hS => ?_)
        replace hS := hS.ceq (l' := lc X) 6 rfl (spl_full _ _ (by show (lc X).length = _; rw [lc_len, lz]))
        (repeat (first | refine g_sq ?_ | refine g_rg ?_ | refine g_r0 ?_ | refine g_ok rfl rfl ?_ | refine g_no rfl ?_ | refine g_no0 rfl ?_ | refine g_bk ?_ | refine g_b ?_ | refine g_sk ?_ | refine g_cT rfl ?_ | refine g_cF rfl ?_ | refine g_x rfl ?_ | refine g_lb ?_))
        refine g_ef rfl (ef_al hS fun b7 w2 hS => ?_)
        refine g_ef0 rfl (ef_st hS 7 rfl rfl rfl rfl (Nat.le_of_ble_eq_true rfl) rfl fun w2 hS => ?_)
        replace hS := hS.ceq (l' := ec (ent X)) 7 rfl rfl
        (repeat (first | refine g_sq ?_ | refine g_rg ?_ | refine g_r0 ?_ | refine g_ok rfl rfl ?_ | refine g_no rfl ?_ | refine g_no0 rfl ?_ | refine g_bk ?_ | refine g_b ?_ | refine g_sk ?_ | refine g_cT rfl ?_ | refine g_cF rfl ?_ | refine g_x rfl ?_ | refine g_lb ?_))
        refine ⟨rfl, _, _, hS, rfl, fun w2 hS => ?_⟩
        (repeat (first | refine g_sq ?_ | refine g_rg ?_ | refine g_r0 ?_ | refine g_ok rfl rfl ?_ | refine g_no rfl ?_ | refine g_no0 rfl ?_ | refine g_bk ?_ | refine g_b ?_ | refine g_sk ?_ | refine g_cT rfl ?_ | refine g_cF rfl ?_ | refine g_x rfl ?_ | refine g_lb ?_))
        refine g_l1 rfl rfl (hS.b  7 rfl) rfl ?_
        refine g_l1 rfl rfl (hS.b  0 rfl) rfl ?_
        (repeat (first | refine g_sq ?_ | refine g_rg ?_ | refine g_r0 ?_ | refine g_ok rfl rfl ?_ | refine g_no rfl ?_ | refine g_no0 rfl ?_ | refine g_bk ?_ | refine g_b ?_ | refine g_sk ?_ | refine g_cT rfl ?_ | refine g_cF rfl ?_ | refine g_x rfl ?_ | refine g_lb ?_))
        refine g_cd rfl (fun hq => ?_) (fun hq => ?_)
        · have hof : ofRef s X = true := hq
          (repeat (first | refine g_sq ?_ | refine g_rg ?_ | refine g_r0 ?_ | refine g_ok rfl rfl ?_ | refine g_no rfl ?_ | refine g_no0 rfl ?_ | refine g_bk ?_ | refine g_b ?_ | refine g_sk ?_ | refine g_cT rfl ?_ | refine g_cF rfl ?_ | refine g_x rfl ?_ | refine g_lb ?_))
          refine g_l1 rfl rfl (hS.b  1 rfl) rfl ?_
          (repeat (first | refine g_sq ?_ | refine g_rg ?_ | refine g_r0 ?_ | refine g_ok rfl rfl ?_ | refine g_no rfl ?_ | refine g_no0 rfl ?_ | refine g_bk ?_ | refine g_b ?_ | refine g_sk ?_ | refine g_cT rfl ?_ | refine g_cF rfl ?_ | refine g_x rfl ?_ | refine g_lb ?_))
          refine g_lm rfl rfl (hS.b 6 rfl) (Nat.le_of_eq (lc_len X).symm) ?_
          rw [show ((lc X).drop (0 + 1)).take 32 = ic X.2 by rw [Nat.zero_add]; exact List.take_of_length_le (Nat.le_of_eq (ic_len X.2))]
          refine g_ef rfl (ef_bl (rs := ic X.2) hS (evcs_1 rfl (ic_len _)) fun g w2 hS => ?_)
          refine g_ef rfl (ef_ap (n := ts.length) (m := 1) hS 2 rfl rfl rfl (.inl ⟨35, .inr ⟨g, 0, 1, _, rfl, Nat.le_refl _, Nat.le_of_eq (by rw [ic_len]), by rw [List.drop_zero, List.take_of_length_le (Nat.le_of_eq (ic_len _))], (hS.b 8 rfl).r⟩⟩) (List.all_eq_true.2 (ic_one X.2)) (by omega) (by omega) fun v1 w2 hS => ?_)
          obtain ⟨a2, c2, rfl⟩ := hS.rlen 2 rfl
          refine g_ef0 rfl (ef_st hS 1 rfl rfl rfl rfl (Nat.le_of_ble_eq_true rfl) rfl fun w2 hS => ?_)
          (repeat (first | refine g_sq ?_ | refine g_rg ?_ | refine g_r0 ?_ | refine g_ok rfl rfl ?_ | refine g_no rfl ?_ | refine g_no0 rfl ?_ | refine g_bk ?_ | refine g_b ?_ | refine g_sk ?_ | refine g_cT rfl ?_ | refine g_cF rfl ?_ | refine g_x rfl ?_ | refine g_lb ?_))
          have ets : fl ic ts ++ ic X.2 = fl ic (ts ++ [X.2]) := by rw [fl_app]; simp [fl]
          have etl : ts.length + 1 = (ts ++ [X.2]).length := by simp
          rw [ets, etl] at hS
          refine ⟨_, _, hS.sel [0, 1, 2, 3, 4, 5] rfl rfl, rfl, fun w2 hS => .inl ⟨rfl, (a2, c2, ts ++ [X.2]), ?_, hS⟩⟩
          show ts ++ [X.2] = _
          rw [hst, if_pos hof, hI]
        · have hof : ofRef s X = false := hq
          (repeat (first | refine g_sq ?_ | refine g_rg ?_ | refine g_r0 ?_ | refine g_ok rfl rfl ?_ | refine g_no rfl ?_ | refine g_no0 rfl ?_ | refine g_bk ?_ | refine g_b ?_ | refine g_sk ?_ | refine g_cT rfl ?_ | refine g_cF rfl ?_ | refine g_x rfl ?_ | refine g_lb ?_))
          refine ⟨_, _, hS.sel [0, 1, 2, 3, 4, 5] rfl rfl, rfl, fun w2 hS => .inl ⟨rfl, (a1, c1, ts), ?_, hS⟩⟩
          show ts = _
          rw [hst, hof, hI]
          simp
      · clear hS
        rintro ⟨a1, c1, ts⟩ w2 hI hS
        dsimp only at hI hS
        refine ⟨_, 5, _, _, hS, rfl, (fun h => nomatch h), fun w2 hS => ?_⟩
        have ets : ts = tipsF d s := by rw [hI, List.take_of_length_le (by omega)]
        subst ets
        exact g_b (g_jd ⟨rfl, trivial⟩ ⟨dB, rfl, a1, c1, _, rfl, hS.sel [1, 2, 4] rfl rfl⟩)
    · clear hS
      rintro T D1 w1 hT ⟨dB, rfl, a1, c1, m, hm, hS⟩
      refine g_wkc hT ?_
      (repeat (first | refine g_sq ?_ | refine g_rg ?_ | refine g_r0 ?_ | refine g_ok rfl rfl ?_ | refine g_no rfl ?_ | refine g_no0 rfl ?_ | refine g_bk ?_ | refine g_b ?_ | refine g_sk ?_ | refine g_cT rfl ?_ | refine g_cF rfl ?_ | refine g_x rfl ?_ | refine g_lb ?_))
      refine g_l1 rfl rfl (hS.b  0 rfl) rfl ?_
      have hml : (tipsF d s).length < 2000000 := by
        rw [tipsF, List.length_map]
        have := List.length_filter_le (ofRef s) d
        omega
      refine g_cl rfl rfl (b_Set hm.symm (by omega) (Ow.rd (hS.ok 1 _ rfl)) fun v2 w2 h' => ?_)
      replace hS := hS.call0.2 _ _ h'
      (repeat (first | refine g_sq ?_ | refine g_rg ?_ | refine g_r0 ?_ | refine g_ok rfl rfl ?_ | refine g_no rfl ?_ | refine g_no0 rfl ?_ | refine g_bk ?_ | refine g_b ?_ | refine g_sk ?_ | refine g_cT rfl ?_ | refine g_cF rfl ?_ | refine g_x rfl ?_ | refine g_lb ?_))
      exact g_ret (q_dr hS 2 rfl fun w hS => q_1 rfl (h _ _ (hS.sel [3] rfl rfl)))
end
end Go.Proofs.YtibofabkpgigoaaGreatDoor
