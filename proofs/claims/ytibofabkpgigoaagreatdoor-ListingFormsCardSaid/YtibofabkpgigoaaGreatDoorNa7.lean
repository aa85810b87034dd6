/- What a listed name is made of. -/
import Derived.Test.YtibofabkpgigoaaGreatDoorNa6
set_option linter.unusedSimpArgs false
set_option linter.unusedVariables false
namespace Go.Proofs.YtibofabkpgigoaaGreatDoor
open Go.En

def zid : Bs := List.replicate 32 0
/-- a listed name, taken apart: the ref, the tip, is it a conflict name, the error -/
def spN (s : Bs) : Bs × Bs × Bool × Int :=
  if ((Lib.cut s [126]).2.2 = true ∧ unhE (Lib.cut s [126]).2.1 ≠ 0) ∨ nmE (Lib.cut s [126]).1 ≠ 0 then ([], zid, false, 40)
  else ((Lib.cut s [126]).1, if (Lib.cut s [126]).2.2 = true then unhV (Lib.cut s [126]).2.1 else zid, (Lib.cut s [126]).2.2, 0)
theorem zid_len : zid.length = 32 := by decide
theorem unhV_len (s : Bs) : (unhV s).length = 32 := by
  unfold unhV unhex
  split
  · rw [Option.getD_some, ← idst_64, idst_len]
  · rfl
theorem spN_len (s : Bs) : (spN s).2.1.length = 32 := by
  unfold spN
  split
  · rfl
  · split
    · exact unhV_len _
    · rfl
theorem q_c4 {P : Program} {a ty n b off t t1 t2 : Nat} {l : List Value} {E : TypeId} {T : TT} {w : World} {K : Value → World → Prop} {u u1 u2 : Value} (hu1 : lk T t1 = some u1) (ht : lk T a = some (.pointer (some ⟨b, off, none⟩))) (h1 : rdAs P ty (some n) = true) (hb : Blk w b l E) (hn : off + n ≤ l.length) (hu2 : lk T t2 = some u2) (hu : lk T t = some u) (h : K (.tuple ⟨[u1, .agg ⟨(l.drop off).take n⟩, u2, u]⟩) w) : QF P [.tmp t1, .cell a ty, .tmp t2, .tmp t] K .ret T [] w :=
  ⟨[_, _, _, _], ⟨_, _, hu1, ⟨_, _, [u2, u], ht, run_loadm h1 hb.r hn, ⟨_, [u], hu2, ⟨_, [], hu, rfl, rfl⟩, rfl⟩, rfl⟩, rfl⟩, h⟩
section
variable {w w0 : World} {S0 : Nat → Prop} {L B : List Res} {K : Value → World → Prop} {s : Bs}
set_option maxRecDepth 100000 in
theorem b_Split (hg : Gl w) (hs : s.length < 4294967281) (h : ∀ w', St w (fun _ => False) w' [] → K (.tuple ⟨[sv (spN s).1, .agg ⟨bys (spN s).2.1⟩, .bool (spN s).2.2.1, .int .i64 (spN s).2.2.2]⟩) w') : CK Tryz.prog 19 [sv s] w K := by
  have hS := St.nil w (fun _ => False)
  have l0 : (bys zid).length = 32 := by rw [bys_length, zid_len]
  refine call_k Tryz.func19 k19 Tryz.ntmps19 (Nat.le_of_ble_eq_true rfl) ?_
  (repeat (first | refine g_sq ?_ | refine g_rg ?_ | refine g_r0 ?_ | refine g_ok rfl rfl ?_ | refine g_no rfl ?_ | refine g_no0 rfl ?_ | refine g_bk ?_ | refine g_b ?_ | refine g_sk ?_ | refine g_cT rfl ?_ | refine g_cF rfl ?_ | refine g_x rfl ?_ | refine g_lb ?_))
  refine g_ef rfl (ef_al hS fun b1 w1 hS => ?_)
  have hS : St w (fun _ => False) w1 [cel b1 (bys zid) 35] := hS
  (repeat (first | refine g_sq ?_ | refine g_rg ?_ | refine g_r0 ?_ | refine g_ok rfl rfl ?_ | refine g_no rfl ?_ | refine g_no0 rfl ?_ | refine g_bk ?_ | refine g_b ?_ | refine g_sk ?_ | refine g_cT rfl ?_ | refine g_cF rfl ?_ | refine g_x rfl ?_ | refine g_lb ?_))
  refine g_cl rfl rfl (c_Cut (hg.in hS) hs hS fun w1 hS => ?_)
  (repeat (first | refine g_sq ?_ | refine g_rg ?_ | refine g_r0 ?_ | refine g_ok rfl rfl ?_ | refine g_no rfl ?_ | refine g_no0 rfl ?_ | refine g_bk ?_ | refine g_b ?_ | refine g_sk ?_ | refine g_cT rfl ?_ | refine g_cF rfl ?_ | refine g_x rfl ?_ | refine g_lb ?_))
  refine g_at 1 [(0, sv s), (2, sv (Lib.cut s [126]).1), (3, dp b1), (4, .bool (Lib.cut s [126]).2.2), (5, .int .i64 (if (Lib.cut s [126]).2.2 = true then unhE (Lib.cut s [126]).2.1 else 0))] (fun w' => St w (fun _ => False) w' [cel b1 (bys (if (Lib.cut s [126]).2.2 = true then unhV (Lib.cut s [126]).2.1 else zid)) 35]) rfl ?_ ?_
  · refine g_cd rfl (fun hc => ?_) (fun hc => ?_)
    · rw [if_pos hc, if_pos hc]
      (repeat (first | refine g_sq ?_ | refine g_rg ?_ | refine g_r0 ?_ | refine g_ok rfl rfl ?_ | refine g_no rfl ?_ | refine g_no0 rfl ?_ | refine g_bk ?_ | refine g_b ?_ | refine g_sk ?_ | refine g_cT rfl ?_ | refine g_cF rfl ?_ | refine g_x rfl ?_ | refine g_lb ?_))
      refine g_cl rfl rfl (b_Parse fun w' h' => ?_)
      have hS := by have := hS.call0.2 _ _ h'; rwa [List.append_nil] at this
      (repeat (first | refine g_sq ?_ | refine g_rg ?_ | refine g_r0 ?_ | refine g_ok rfl rfl ?_ | refine g_no rfl ?_ | refine g_no0 rfl ?_ | refine g_bk ?_ | refine g_b ?_ | refine g_sk ?_ | refine g_cT rfl ?_ | refine g_cF rfl ?_ | refine g_x rfl ?_ | refine g_lb ?_))
      refine g_ef0 rfl (ef_st hS 0 rfl rfl rfl (by show (bys _).length = 32; rw [bys_length, unhV_len]) (by rw [l0]; exact Nat.le_refl 32) (bys_one _) fun w1 hS => ?_)
      have hS := hS.ceq (l' := bys (unhV (Lib.cut s [126]).2.1)) 0 rfl (spl_full _ _ (by rw [l0]; show (bys _).length = 32; rw [bys_length, unhV_len]))
      (repeat (first | refine g_sq ?_ | refine g_rg ?_ | refine g_r0 ?_ | refine g_ok rfl rfl ?_ | refine g_no rfl ?_ | refine g_no0 rfl ?_ | refine g_bk ?_ | refine g_b ?_ | refine g_sk ?_ | refine g_cT rfl ?_ | refine g_cF rfl ?_ | refine g_x rfl ?_ | refine g_lb ?_))
      exact g_j ⟨rfl, rfl, rfl, rfl, rfl, trivial⟩ hS
    · rw [if_neg (by rw [hc]; decide), if_neg (by rw [hc]; decide)]
      (repeat (first | refine g_sq ?_ | refine g_rg ?_ | refine g_r0 ?_ | refine g_ok rfl rfl ?_ | refine g_no rfl ?_ | refine g_no0 rfl ?_ | refine g_bk ?_ | refine g_b ?_ | refine g_sk ?_ | refine g_cT rfl ?_ | refine g_cF rfl ?_ | refine g_x rfl ?_ | refine g_lb ?_))
      exact g_j ⟨rfl, rfl, rfl, rfl, rfl, trivial⟩ hS
  · clear hS
    generalize hidl : (if (Lib.cut s [126]).2.2 = true then unhV (Lib.cut s [126]).2.1 else zid) = idv
    have l1 : (bys idv).length = 32 := by
      rw [bys_length, ← hidl]; split
      · exact unhV_len _
      · rfl
    generalize hee : (if (Lib.cut s [126]).2.2 = true then unhE (Lib.cut s [126]).2.1 else 0) = ee
    intro T w1 hT hS
    refine g_wkc hT ?_
    (repeat (first | refine g_sq ?_ | refine g_rg ?_ | refine g_r0 ?_ | refine g_ok rfl rfl ?_ | refine g_no rfl ?_ | refine g_no0 rfl ?_ | refine g_bk ?_ | refine g_b ?_ | refine g_sk ?_ | refine g_cT rfl ?_ | refine g_cF rfl ?_ | refine g_x rfl ?_ | refine g_lb ?_))
    by_cases he : ee = 0
    · subst he
      (repeat (first | refine g_sq ?_ | refine g_rg ?_ | refine g_r0 ?_ | refine g_ok rfl rfl ?_ | refine g_no rfl ?_ | refine g_no0 rfl ?_ | refine g_bk ?_ | refine g_b ?_ | refine g_sk ?_ | refine g_cT rfl ?_ | refine g_cF rfl ?_ | refine g_x rfl ?_ | refine g_lb ?_))
      refine g_cl rfl rfl (c_Check (hg.in hS) hS fun w' hS => ?_)
      (repeat (first | refine g_sq ?_ | refine g_rg ?_ | refine g_r0 ?_ | refine g_ok rfl rfl ?_ | refine g_no rfl ?_ | refine g_no0 rfl ?_ | refine g_bk ?_ | refine g_b ?_ | refine g_sk ?_ | refine g_cT rfl ?_ | refine g_cF rfl ?_ | refine g_x rfl ?_ | refine g_lb ?_))
      (refine g_cd rfl (fun hc => ?_) (fun hc => ?_) <;> simp only [cmv, arv, Bool.not_eq_true', Bool.not_eq_false', decide_eq_true_eq, decide_eq_false_iff_not] at hc)
      · have e : spN s = ([], zid, false, 40) := by
          unfold spN
          rw [if_pos (.inr hc)]
        rw [e] at h
        (repeat (first | refine g_sq ?_ | refine g_rg ?_ | refine g_r0 ?_ | refine g_ok rfl rfl ?_ | refine g_no rfl ?_ | refine g_no0 rfl ?_ | refine g_bk ?_ | refine g_b ?_ | refine g_sk ?_ | refine g_cT rfl ?_ | refine g_cF rfl ?_ | refine g_x rfl ?_ | refine g_lb ?_))
        refine g_ef0 rfl (ef_st (u := .agg ⟨bys zid⟩) hS 0 rfl rfl rfl l0 (by rw [l1]; exact Nat.le_refl 32) (by decide) fun w1 hS => ?_)
        have hS := hS.ceq (l' := bys zid) 0 rfl (spl_full _ _ (l0.trans l1.symm))
        (repeat (first | refine g_sq ?_ | refine g_rg ?_ | refine g_r0 ?_ | refine g_ok rfl rfl ?_ | refine g_no rfl ?_ | refine g_no0 rfl ?_ | refine g_bk ?_ | refine g_b ?_ | refine g_sk ?_ | refine g_cT rfl ?_ | refine g_cF rfl ?_ | refine g_x rfl ?_ | refine g_lb ?_))
        refine g_ret (q_c4 (n := 32) rfl rfl (by kernel_rfl) (hS.b 0 rfl) (Nat.le_of_eq l0.symm) rfl rfl ?_)
        rw [List.drop_zero, List.take_of_length_le (Nat.le_of_eq l0)]
        exact h _ (hS.sel [] rfl rfl)
      · have e : spN s = ((Lib.cut s [126]).1, idv, (Lib.cut s [126]).2.2, 0) := by
          unfold spN
          rw [if_neg, hidl]
          rintro (⟨h1, h2⟩ | h2)
          · rw [if_pos h1] at hee
            exact h2 hee
          · exact h2 hc
        rw [e] at h
        (repeat (first | refine g_sq ?_ | refine g_rg ?_ | refine g_r0 ?_ | refine g_ok rfl rfl ?_ | refine g_no rfl ?_ | refine g_no0 rfl ?_ | refine g_bk ?_ | refine g_b ?_ | refine g_sk ?_ | refine g_cT rfl ?_ | refine g_cF rfl ?_ | refine g_x rfl ?_ | refine g_lb ?_))
        refine g_dr mixed ?_
        have hS := hS.drew
        (repeat (first | refine d_ok rfl rfl rfl ?_ | refine d_no rfl rfl ?_))
        refine d_lm rfl rfl rfl (hS.b 0 rfl) (Nat.le_of_eq l1.symm) ?_
        rw [List.drop_zero, List.take_of_length_le (Nat.le_of_eq l1)]
        (repeat (first | refine d_ok rfl rfl rfl ?_ | refine d_no rfl rfl ?_))
        refine d_e rfl rfl ?_
        refine ef_qt ((pev_ok rfl).2 _) ⟨rc_m rfl rfl rfl rfl (hS.b 0 rfl) (Nat.le_of_eq l1.symm) (by rw [List.drop_zero, List.take_of_length_le (Nat.le_of_eq l1)]) rc_0, ?_⟩
        refine d_e0 rfl rfl ?_
        refine ef_st hS 0 rfl rfl rfl l1 (Nat.le_of_eq l1.symm) (bys_one _) fun w1 hS => ⟨rc_0, ?_⟩
        have hS := hS.ceq (l' := bys idv) 0 rfl (spl_full _ _ rfl)
        refine d_e rfl rfl ?_
        refine ef_qt ((pev_ok rfl).2 _) ⟨rc_0, ?_⟩
        (repeat (first | refine d_ok rfl rfl rfl ?_ | refine d_no rfl rfl ?_))
        refine d_fin ?_
        (repeat (first | refine g_sq ?_ | refine g_rg ?_ | refine g_r0 ?_ | refine g_ok rfl rfl ?_ | refine g_no rfl ?_ | refine g_no0 rfl ?_ | refine g_bk ?_ | refine g_b ?_ | refine g_sk ?_ | refine g_cT rfl ?_ | refine g_cF rfl ?_ | refine g_x rfl ?_ | refine g_lb ?_))
        refine g_ret (q_c4 (n := 32) rfl rfl (by kernel_rfl) (hS.b 0 rfl) (Nat.le_of_eq l1.symm) rfl rfl ?_)
        rw [List.drop_zero, List.take_of_length_le (Nat.le_of_eq l1)]
        exact h _ (hS.sel [] rfl rfl)
    · have hcm : cmv .neq ee 0 = true := by simp [cmv, he]
      rw [hcm]
      (repeat (first | refine g_sq ?_ | refine g_rg ?_ | refine g_r0 ?_ | refine g_ok rfl rfl ?_ | refine g_no rfl ?_ | refine g_no0 rfl ?_ | refine g_bk ?_ | refine g_b ?_ | refine g_sk ?_ | refine g_cT rfl ?_ | refine g_cF rfl ?_ | refine g_x rfl ?_ | refine g_lb ?_))
      have e : spN s = ([], zid, false, 40) := by
        unfold spN
        rw [if_pos]
        by_cases h1 : (Lib.cut s [126]).2.2 = true
        · rw [if_pos h1] at hee
          exact .inl ⟨h1, fun h2 => he (by rw [← hee]; exact h2)⟩
        · rw [if_neg h1] at hee
          exact absurd hee.symm he
      rw [e] at h
      (repeat (first | refine g_sq ?_ | refine g_rg ?_ | refine g_r0 ?_ | refine g_ok rfl rfl ?_ | refine g_no rfl ?_ | refine g_no0 rfl ?_ | refine g_bk ?_ | refine g_b ?_ | refine g_sk ?_ | refine g_cT rfl ?_ | refine g_cF rfl ?_ | refine g_x rfl ?_ | refine g_lb ?_))
      refine g_ef0 rfl (ef_st (u := .agg ⟨bys zid⟩) hS 0 rfl rfl rfl l0 (by rw [l1]; exact Nat.le_refl 32) (by decide) fun w1 hS => ?_)
      have hS := hS.ceq (l' := bys zid) 0 rfl (spl_full _ _ (l0.trans l1.symm))
      (repeat (first | refine g_sq ?_ | refine g_rg ?_ | refine g_r0 ?_ | refine g_ok rfl rfl ?_ | refine g_no rfl ?_ | refine g_no0 rfl ?_ | refine g_bk ?_ | refine g_b ?_ | refine g_sk ?_ | refine g_cT rfl ?_ | refine g_cF rfl ?_ | refine g_x rfl ?_ | refine g_lb ?_))
      refine g_ret (q_c4 (n := 32) rfl rfl (by kernel_rfl) (hS.b 0 rfl) (Nat.le_of_eq l0.symm) rfl rfl ?_)
      rw [List.drop_zero, List.take_of_length_le (Nat.le_of_eq l0)]
      exact h _ (hS.sel [] rfl rfl)
end
end Go.Proofs.YtibofabkpgigoaaGreatDoor
