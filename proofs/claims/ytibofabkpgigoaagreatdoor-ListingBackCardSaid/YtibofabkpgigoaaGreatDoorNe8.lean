/- A text's listing: listing.Parse, the walk. -/
import Derived.Test.YtibofabkpgigoaaGreatDoorNe7
set_option linter.unusedSimpArgs false
set_option linter.unusedVariables false
namespace Go.Proofs.YtibofabkpgigoaaGreatDoor
open Go.En

theorem q_cc {P : Program} {a b ta tb ba bb : Nat} {la lb : List Value} {Ea Eb : TypeId} {T : TT} {w : World} {K : Value → World → Prop} {u v : Value} (ht : lk T a = some (dp ba)) (h1 : rdAs P ta none = true) (hb : Blk w ba la Ea) (hv : la[0]? = some v) (ht2 : lk T b = some (dp bb)) (h2 : rdAs P tb none = true) (hb2 : Blk w bb lb Eb) (hu : lb[0]? = some u) (h : K (.tuple ⟨[v, u]⟩) w) : QF P [.cell a ta, .cell b tb] K .ret T [] w :=
  ⟨[_, _], ⟨_, _, [u], ht, run_load1 h1 hb.r hv, ⟨_, _, [], ht2, run_load1 h2 hb2.r hu, rfl, rfl⟩, rfl⟩, h⟩
/-- the error of a text that is to be a listing's -/
def psE (s : Bs) : Int := if (prs s).isSome then 0 else 200
def psL (s : Bs) : List Li := (prs s).getD []
section
variable {w w0 : World} {S0 : Nat → Prop} {L B : List Res} {K : Value → World → Prop} {s : Bs}
set_option maxHeartbeats 4000000 in
theorem b_ParseL (hs : s.length ≤ 60000) (hg : Gl w) (h : ∀ v' w', St w (fun _ => False) w' [row v' 41 33 (psL s).length (fl lc (psL s))] → K (.tuple ⟨[v', .int .i64 (psE s)]⟩) w') : CK Tryz.prog 10 [sv s] w K := by
  have hS := St.nil w (fun _ => False)
  have bad : prs s = none → ∀ w', St w (fun _ => False) w' [] → K (.tuple ⟨[.slice none 0 0, .int .i64 200]⟩) w' := fun e w' hS => by
    have e1 : psE s = 200 := by unfold psE; rw [e]; rfl
    have e2 : psL s = [] := by unfold psL; rw [e]; rfl
    rw [e1, e2] at h
    exact h _ _ (hS.nilrow 41 33)
  refine call_k Tryz.func10 k10 Tryz.ntmps10 (Nat.le_of_ble_eq_true rfl) ?_
  (repeat (first | refine g_sq ?_ | refine g_rg ?_ | refine g_r0 ?_ | refine g_ok rfl rfl ?_ | refine g_no rfl ?_ | refine g_no0 rfl ?_ | refine g_bk ?_ | refine g_b ?_ | refine g_sk ?_ | refine g_cT rfl ?_ | refine g_cF rfl ?_ | refine g_x rfl ?_ | refine g_lb ?_))
  refine g_ef rfl (ef_al hS fun b2 w1 hS => ?_)
  refine g_ef rfl (ef_al hS fun b3 w1 hS => ?_)
  (repeat (first | refine g_sq ?_ | refine g_rg ?_ | refine g_r0 ?_ | refine g_ok rfl rfl ?_ | refine g_no rfl ?_ | refine g_no0 rfl ?_ | refine g_bk ?_ | refine g_b ?_ | refine g_sk ?_ | refine g_cT rfl ?_ | refine g_cF rfl ?_ | refine g_x rfl ?_ | refine g_lb ?_))
  refine g_ef rfl (ef_al hS fun b4 w1 hS => ?_)
  replace hS := hS.nilrow 41 33
  (repeat (first | refine g_sq ?_ | refine g_rg ?_ | refine g_r0 ?_ | refine g_ok rfl rfl ?_ | refine g_no rfl ?_ | refine g_no0 rfl ?_ | refine g_bk ?_ | refine g_b ?_ | refine g_sk ?_ | refine g_cT rfl ?_ | refine g_cF rfl ?_ | refine g_x rfl ?_ | refine g_lb ?_))
  refine g_cl rfl rfl (b_Lines fun bL w1 h' => ?_)
  replace hS := hS.call0.2 _ _ h'
  replace hS : St w (fun _ => False) w1 [cel b2 [.slice none 0 0] 22, cel b3 [.int .i64 0] 25, cel b4 [.slice none 0 0] 22, row (.slice none 0 0) 41 33 0 [], cel bL [sv s] 9] := hS
  clear h'
  refine g_r0 ?_
  refine g_atd 1 [(0, sv s), (2, dp b2), (3, dp b3), (4, dp b4)] (fun D1 w' => ∃ dB, D1 = [⟨.collected dB, #[]⟩] ∧ ∃ a1 c1 acc, psI s [] acc ∧
    St w (fun _ => False) w' [cel b2 [.slice none 0 0] 22, cel b3 [.int .i64 0] 25, cel b4 [.slice a1 acc.length c1] 22, row (.slice a1 acc.length c1) 41 33 acc.length (fl lc acc), obj dB (.deferred (some []))]) rfl ?_ ?_
  · (repeat (first | refine g_sq ?_ | refine g_rg ?_ | refine g_r0 ?_ | refine g_ok rfl rfl ?_ | refine g_no rfl ?_ | refine g_no0 rfl ?_ | refine g_bk ?_ | refine g_b ?_ | refine g_sk ?_ | refine g_cT rfl ?_ | refine g_cF rfl ?_ | refine g_x rfl ?_ | refine g_lb ?_))
    refine g_wkc (T' := [(12, .func (.func 62) ⟨[]⟩ ⟨[dp bL]⟩), (0, sv s), (2, dp b2), (3, dp b3), (4, dp b4)]) ⟨rfl, rfl, rfl, rfl, rfl, trivial⟩ ?_
    refine g_rf (cap := [dp bL]) (first := []) hS rfl (callFunc_of Tryz.func62 rfl rfl) fun l dB w2 hS => ?_
    refine d_Lines (ι := Option Addr × Nat × List Li) (Ls := fun r σ => [cel b2 [.slice none 0 0] 22, cel b3 [.int .i64 0] 25, cel b4 [.slice σ.1 σ.2.2.length σ.2.1] 22, row (.slice σ.1 σ.2.2.length σ.2.1) 41 33 σ.2.2.length (fl lc σ.2.2), cel bL [sv r] 9, obj dB (.deferred (some [])), _])
      (Inv := fun r σ => psI s r σ.2.2) (i := 4) (by omega) (fun r σ => rfl) (fun r r' σ => rfl) (σ0 := (none, 0, [])) (psI_0 s) hS ?_ ?_
    · clear hS
      rintro r hr ⟨a1, c1, acc⟩ w2 hrl hI hS
      dsimp only at hI hS
      refine yd_of hS 6 rfl rfl ?_
      have hle := hd1_le r
      have hil := hI.2.2.1
      have hrp : 0 < r.length := List.length_pos_iff.2 hr
      (repeat (first | refine g_sq ?_ | refine g_rg ?_ | refine g_r0 ?_ | refine g_ok rfl rfl ?_ | refine g_no rfl ?_ | refine g_no0 rfl ?_ | refine g_bk ?_ | refine g_b ?_ | refine g_sk ?_ | refine g_cT rfl ?_ | refine g_cF rfl ?_ | refine g_x rfl ?_ | refine g_lb ?_))
      refine ⟨rfl, _, _, hS, rfl, fun w2 hS => ?_⟩
      (repeat (first | refine g_sq ?_ | refine g_rg ?_ | refine g_r0 ?_ | refine g_ok rfl rfl ?_ | refine g_no rfl ?_ | refine g_no0 rfl ?_ | refine g_bk ?_ | refine g_b ?_ | refine g_sk ?_ | refine g_cT rfl ?_ | refine g_cF rfl ?_ | refine g_x rfl ?_ | refine g_lb ?_))
      refine g_cl rfl rfl (c_TrimSuffix (p := [10]) (by omega) ?_)
      have htl := trim_len (hd1 r).1 [10]
      refine g_cl rfl rfl (c_Cut (p := [32]) (hg.in hS) (by omega) hS fun w2 hS => ?_)
      generalize hct : Lib.cut (Lib.trimSuffix (hd1 r).1 [10]) [32] = ct
      (repeat (first | refine g_sq ?_ | refine g_rg ?_ | refine g_r0 ?_ | refine g_ok rfl rfl ?_ | refine g_no rfl ?_ | refine g_no0 rfl ?_ | refine g_bk ?_ | refine g_b ?_ | refine g_sk ?_ | refine g_cT rfl ?_ | refine g_cF rfl ?_ | refine g_x rfl ?_ | refine g_lb ?_))
      refine g_cl rfl rfl (b_Parse fun w2 h' => ?_)
      replace hS := hS.call0.2 _ _ h'
      rw [List.append_nil] at hS
      (repeat (first | refine g_sq ?_ | refine g_rg ?_ | refine g_r0 ?_ | refine g_ok rfl rfl ?_ | refine g_no rfl ?_ | refine g_no0 rfl ?_ | refine g_bk ?_ | refine g_b ?_ | refine g_sk ?_ | refine g_cT rfl ?_ | refine g_cF rfl ?_ | refine g_x rfl ?_ | refine g_lb ?_))
      have l0 : (bys zid).length = 32 := by rw [bys_length, zid_len]
      have l1 : (bys (unhV ct.1)).length = 32 := by rw [bys_length, unhV_len]
      refine g_ef rfl (ef_al hS fun b9 w2 hS => ?_)
      refine g_ef0 rfl (ef_st hS 7 rfl rfl rfl l1 (Nat.le_of_eq l0.symm) (bys_one _) fun w2 hS => ?_)
      replace hS := hS.ceq (l' := bys (unhV ct.1)) 7 rfl (spl_full _ _ (l1.trans l0.symm))
      (repeat (first | refine g_sq ?_ | refine g_rg ?_ | refine g_r0 ?_ | refine g_ok rfl rfl ?_ | refine g_no rfl ?_ | refine g_no0 rfl ?_ | refine g_bk ?_ | refine g_b ?_ | refine g_sk ?_ | refine g_cT rfl ?_ | refine g_cF rfl ?_ | refine g_x rfl ?_ | refine g_lb ?_))
      by_cases hE : unhE ct.1 = 0
      · have hp : prs1 (hd1 r).1 = some (ct.2.1, ⟨unhV ct.1, unhV_len _⟩) := prs1_ok hct hE
        have hst := psI_step hI hr hp
        rw [hE]
        (repeat (first | refine g_sq ?_ | refine g_rg ?_ | refine g_r0 ?_ | refine g_ok rfl rfl ?_ | refine g_no rfl ?_ | refine g_no0 rfl ?_ | refine g_bk ?_ | refine g_b ?_ | refine g_sk ?_ | refine g_cT rfl ?_ | refine g_cF rfl ?_ | refine g_x rfl ?_ | refine g_lb ?_))
        refine g_l1 rfl rfl (hS.b  2 rfl) rfl ?_
        (repeat (first | refine g_sq ?_ | refine g_rg ?_ | refine g_r0 ?_ | refine g_ok rfl rfl ?_ | refine g_no rfl ?_ | refine g_no0 rfl ?_ | refine g_bk ?_ | refine g_b ?_ | refine g_sk ?_ | refine g_cT rfl ?_ | refine g_cF rfl ?_ | refine g_x rfl ?_ | refine g_lb ?_))
        refine g_lm rfl rfl (hS.b 7 rfl) (Nat.le_of_eq l1.symm) ?_
        rw [List.drop_zero, List.take_of_length_le (Nat.le_of_eq l1)]
        refine g_ok rfl (pev_bd (fill_li (ct.2.1, ⟨unhV ct.1, unhV_len _⟩) rfl rfl)) ?_
        generalize ((ct.2.1, ⟨unhV ct.1, unhV_len _⟩) : Li) = X at hst
        refine g_ef rfl (ef_bl (rs := lc X) hS (evcs_1 rfl (lc_len _)) fun g w2 hS => ?_)
        refine g_ef rfl (ef_ap (n := acc.length) (m := 1) hS 3 rfl rfl rfl (.inl ⟨41, .inr ⟨g, 0, 1, _, rfl, Nat.le_refl _, Nat.le_of_eq (by rw [lc_len]), by rw [List.drop_zero, List.take_of_length_le (Nat.le_of_eq (lc_len _))], (hS.b 8 rfl).r⟩⟩) (List.all_eq_true.2 (lc_one X)) (by omega) (by omega) fun v1 w2 hS => ?_)
        obtain ⟨a2, c2, rfl⟩ := hS.rlen 3 rfl
        refine g_ef0 rfl (ef_st hS 2 rfl rfl rfl rfl (Nat.le_of_ble_eq_true rfl) rfl fun w2 hS => ?_)
        (repeat (first | refine g_sq ?_ | refine g_rg ?_ | refine g_r0 ?_ | refine g_ok rfl rfl ?_ | refine g_no rfl ?_ | refine g_no0 rfl ?_ | refine g_bk ?_ | refine g_b ?_ | refine g_sk ?_ | refine g_cT rfl ?_ | refine g_cF rfl ?_ | refine g_x rfl ?_ | refine g_lb ?_))
        have ets : fl lc acc ++ lc X = fl lc (acc ++ [X]) := by rw [fl_app]; simp [fl]
        have etl : acc.length + 1 = (acc ++ [X]).length := by simp
        rw [ets, etl] at hS
        exact ⟨_, _, hS.sel [0, 1, 2, 3, 4, 5, 6] rfl rfl, rfl, fun w2 hS => .inl ⟨rfl, (a2, c2, acc ++ [X]), hst, hS⟩⟩
      · have hp : prs1 (hd1 r).1 = none := prs1_no hct hE
        have hbad := bad (psI_bad hI hr hp)
        have hE2 : unhE ct.1 = 30 := by
          unfold unhE at hE ⊢
          split
          · rename_i h; rw [if_pos h] at hE; exact absurd rfl hE
          · rfl
        rw [hE2]
        (repeat (first | refine g_sq ?_ | refine g_rg ?_ | refine g_r0 ?_ | refine g_ok rfl rfl ?_ | refine g_no rfl ?_ | refine g_no0 rfl ?_ | refine g_bk ?_ | refine g_b ?_ | refine g_sk ?_ | refine g_cT rfl ?_ | refine g_cF rfl ?_ | refine g_x rfl ?_ | refine g_lb ?_))
        refine g_ef0 rfl (ef_st hS 0 rfl rfl rfl rfl (Nat.le_of_ble_eq_true rfl) rfl fun w2 hS => ?_)
        (repeat (first | refine g_sq ?_ | refine g_rg ?_ | refine g_r0 ?_ | refine g_ok rfl rfl ?_ | refine g_no rfl ?_ | refine g_no0 rfl ?_ | refine g_bk ?_ | refine g_b ?_ | refine g_sk ?_ | refine g_cT rfl ?_ | refine g_cF rfl ?_ | refine g_x rfl ?_ | refine g_lb ?_))
        refine g_ef0 rfl (ef_st hS 1 rfl rfl rfl rfl (Nat.le_of_ble_eq_true rfl) rfl fun w2 hS => ?_)
        (repeat (first | refine g_sq ?_ | refine g_rg ?_ | refine g_r0 ?_ | refine g_ok rfl rfl ?_ | refine g_no rfl ?_ | refine g_no0 rfl ?_ | refine g_bk ?_ | refine g_b ?_ | refine g_sk ?_ | refine g_cT rfl ?_ | refine g_cF rfl ?_ | refine g_x rfl ?_ | refine g_lb ?_))
        refine g_ret ⟨_, _, hS.sel [0, 1, 2, 3, 4, 5, 6] rfl rfl, rfl, fun w2 hS => .inr ⟨rfl, _, 6, _, _, hS, rfl, (fun h => nomatch h), fun w3 hS => ?_⟩⟩
        refine k_ret (q_dr hS 5 rfl fun w hS => ?_)
        exact q_cc rfl (by kernel_rfl) (hS.b 0 rfl) rfl rfl (by kernel_rfl) (hS.b 1 rfl) rfl (hbad _ (hS.sel [] rfl rfl))
    · clear hS
      rintro ⟨a1, c1, acc⟩ w2 hI hS
      dsimp only at hI hS
      refine ⟨_, 6, _, _, hS, rfl, (fun h => nomatch h), fun w2 hS => ?_⟩
      exact g_b (g_jd ⟨rfl, rfl, rfl, rfl, trivial⟩ ⟨dB, rfl, a1, c1, acc, hI, hS.sel [0, 1, 2, 3, 5] rfl rfl⟩)
  · clear hS
    rintro T D1 w1 hT ⟨dB, rfl, a1, c1, acc, hI, hS⟩
    have hend := psI_end hI
    have hal := hI.2.2.1
    rw [List.length_nil] at hal
    have hnl : ∀ x ∈ acc, x.1.length < 4294967281 := fun x hx => by have := hI.2.1 x hx; omega
    have htot : (acc.map ln1).flatten.length < 4294967281 := by
      have h1 := flen_bd acc (m := 60000) fun x hx => by have := hI.2.1 x hx; omega
      have h2 : acc.length * (66 + 60000) ≤ 60000 * (66 + 60000) := Nat.mul_le_mul_right _ (by omega)
      omega
    refine g_wkc hT ?_
    (repeat (first | refine g_sq ?_ | refine g_rg ?_ | refine g_r0 ?_ | refine g_ok rfl rfl ?_ | refine g_no rfl ?_ | refine g_no0 rfl ?_ | refine g_bk ?_ | refine g_b ?_ | refine g_sk ?_ | refine g_cT rfl ?_ | refine g_cF rfl ?_ | refine g_x rfl ?_ | refine g_lb ?_))
    refine g_l1 rfl rfl (hS.b  2 rfl) rfl ?_
    refine g_cl rfl rfl (b_TextL (d := acc) rfl (by omega) hnl htot (hg.in hS) (Ow.rd (hS.ok 3 _ rfl)) fun w1 h' => ?_)
    replace hS := hS.call0.2 _ _ h'
    rw [List.append_nil] at hS
    (repeat (first | refine g_sq ?_ | refine g_rg ?_ | refine g_r0 ?_ | refine g_ok rfl rfl ?_ | refine g_no rfl ?_ | refine g_no0 rfl ?_ | refine g_bk ?_ | refine g_b ?_ | refine g_sk ?_ | refine g_cT rfl ?_ | refine g_cF rfl ?_ | refine g_x rfl ?_ | refine g_lb ?_))
    generalize hq : decide ((⟨(txt acc).toArray⟩ : ByteArray).data.toList = (⟨s.toArray⟩ : ByteArray).data.toList) = q
    have hq2 : decide (txt acc = s) = q := hq
    cases q
    · have hq3 := of_decide_eq_false hq2
      rw [if_neg (fun h => hq3 h.1)] at hend
      (repeat (first | refine g_sq ?_ | refine g_rg ?_ | refine g_r0 ?_ | refine g_ok rfl rfl ?_ | refine g_no rfl ?_ | refine g_no0 rfl ?_ | refine g_bk ?_ | refine g_b ?_ | refine g_sk ?_ | refine g_cT rfl ?_ | refine g_cF rfl ?_ | refine g_x rfl ?_ | refine g_lb ?_))
      refine g_ef0 rfl (ef_st hS 0 rfl rfl rfl rfl (Nat.le_of_ble_eq_true rfl) rfl fun w2 hS => ?_)
      (repeat (first | refine g_sq ?_ | refine g_rg ?_ | refine g_r0 ?_ | refine g_ok rfl rfl ?_ | refine g_no rfl ?_ | refine g_no0 rfl ?_ | refine g_bk ?_ | refine g_b ?_ | refine g_sk ?_ | refine g_cT rfl ?_ | refine g_cF rfl ?_ | refine g_x rfl ?_ | refine g_lb ?_))
      refine g_ef0 rfl (ef_st hS 1 rfl rfl rfl rfl (Nat.le_of_ble_eq_true rfl) rfl fun w2 hS => ?_)
      (repeat (first | refine g_sq ?_ | refine g_rg ?_ | refine g_r0 ?_ | refine g_ok rfl rfl ?_ | refine g_no rfl ?_ | refine g_no0 rfl ?_ | refine g_bk ?_ | refine g_b ?_ | refine g_sk ?_ | refine g_cT rfl ?_ | refine g_cF rfl ?_ | refine g_x rfl ?_ | refine g_lb ?_))
      refine g_ret (q_dr hS 4 rfl fun w hS => ?_)
      exact q_cc rfl (by kernel_rfl) (hS.b 0 rfl) rfl rfl (by kernel_rfl) (hS.b 1 rfl) rfl (bad hend _ (hS.sel [] rfl rfl))
    · have hq3 := of_decide_eq_true hq2
      (repeat (first | refine g_sq ?_ | refine g_rg ?_ | refine g_r0 ?_ | refine g_ok rfl rfl ?_ | refine g_no rfl ?_ | refine g_no0 rfl ?_ | refine g_bk ?_ | refine g_b ?_ | refine g_sk ?_ | refine g_cT rfl ?_ | refine g_cF rfl ?_ | refine g_x rfl ?_ | refine g_lb ?_))
      refine g_l1 rfl rfl (hS.b  2 rfl) rfl ?_
      refine g_cl rfl rfl (b_CheckL (d := acc) rfl (by omega) hnl (hg.in hS) (Ow.rd (hS.ok 3 _ rfl)) fun w1 h' => ?_)
      replace hS := hS.call0.2 _ _ h'
      rw [List.append_nil] at hS
      cases hck : chk acc
      · have e1 : eE acc = 200 := by unfold eE; rw [if_neg (by rw [hck]; decide)]
        rw [if_neg (fun h => by rw [hck] at h; cases h.2)] at hend
        rw [e1]
        (repeat (first | refine g_sq ?_ | refine g_rg ?_ | refine g_r0 ?_ | refine g_ok rfl rfl ?_ | refine g_no rfl ?_ | refine g_no0 rfl ?_ | refine g_bk ?_ | refine g_b ?_ | refine g_sk ?_ | refine g_cT rfl ?_ | refine g_cF rfl ?_ | refine g_x rfl ?_ | refine g_lb ?_))
        refine g_ef0 rfl (ef_st hS 0 rfl rfl rfl rfl (Nat.le_of_ble_eq_true rfl) rfl fun w2 hS => ?_)
        (repeat (first | refine g_sq ?_ | refine g_rg ?_ | refine g_r0 ?_ | refine g_ok rfl rfl ?_ | refine g_no rfl ?_ | refine g_no0 rfl ?_ | refine g_bk ?_ | refine g_b ?_ | refine g_sk ?_ | refine g_cT rfl ?_ | refine g_cF rfl ?_ | refine g_x rfl ?_ | refine g_lb ?_))
        refine g_ef0 rfl (ef_st hS 1 rfl rfl rfl rfl (Nat.le_of_ble_eq_true rfl) rfl fun w2 hS => ?_)
        (repeat (first | refine g_sq ?_ | refine g_rg ?_ | refine g_r0 ?_ | refine g_ok rfl rfl ?_ | refine g_no rfl ?_ | refine g_no0 rfl ?_ | refine g_bk ?_ | refine g_b ?_ | refine g_sk ?_ | refine g_cT rfl ?_ | refine g_cF rfl ?_ | refine g_x rfl ?_ | refine g_lb ?_))
        refine g_ret (q_dr hS 4 rfl fun w hS => ?_)
        exact q_cc rfl (by kernel_rfl) (hS.b 0 rfl) rfl rfl (by kernel_rfl) (hS.b 1 rfl) rfl (bad hend _ (hS.sel [] rfl rfl))
      · have e1 : eE acc = 0 := by unfold eE; rw [if_pos hck]
        rw [if_pos ⟨hq3, hck⟩] at hend
        have e2 : psE s = 0 := by unfold psE; rw [hend]; rfl
        have e3 : psL s = acc := by unfold psL; rw [hend]; rfl
        rw [e2, e3] at h
        rw [e1]
        (repeat (first | refine g_sq ?_ | refine g_rg ?_ | refine g_r0 ?_ | refine g_ok rfl rfl ?_ | refine g_no rfl ?_ | refine g_no0 rfl ?_ | refine g_bk ?_ | refine g_b ?_ | refine g_sk ?_ | refine g_cT rfl ?_ | refine g_cF rfl ?_ | refine g_x rfl ?_ | refine g_lb ?_))
        refine g_l1 rfl rfl (hS.b  2 rfl) rfl ?_
        refine g_ef0 rfl (ef_st hS 0 rfl rfl rfl rfl (Nat.le_of_ble_eq_true rfl) rfl fun w2 hS => ?_)
        (repeat (first | refine g_sq ?_ | refine g_rg ?_ | refine g_r0 ?_ | refine g_ok rfl rfl ?_ | refine g_no rfl ?_ | refine g_no0 rfl ?_ | refine g_bk ?_ | refine g_b ?_ | refine g_sk ?_ | refine g_cT rfl ?_ | refine g_cF rfl ?_ | refine g_x rfl ?_ | refine g_lb ?_))
        refine g_ef0 rfl (ef_st hS 1 rfl rfl rfl rfl (Nat.le_of_ble_eq_true rfl) rfl fun w2 hS => ?_)
        (repeat (first | refine g_sq ?_ | refine g_rg ?_ | refine g_r0 ?_ | refine g_ok rfl rfl ?_ | refine g_no rfl ?_ | refine g_no0 rfl ?_ | refine g_bk ?_ | refine g_b ?_ | refine g_sk ?_ | refine g_cT rfl ?_ | refine g_cF rfl ?_ | refine g_x rfl ?_ | refine g_lb ?_))
        refine g_ret (q_dr hS 4 rfl fun w hS => ?_)
        exact q_cc rfl (by kernel_rfl) (hS.b 0 rfl) rfl rfl (by kernel_rfl) (hS.b 1 rfl) rfl (h _ _ (hS.sel [3] rfl rfl))
end
end Go.Proofs.YtibofabkpgigoaaGreatDoor
