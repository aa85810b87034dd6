/- Lines of a text: the iterator. -/
import Derived.Test.YtibofabkpgigoaaGreatDoorNe1
import Derived.Test.YtibofabkpgigoaaGreatDoorNb1
set_option linter.unusedSimpArgs false
set_option linter.unusedVariables false
namespace Go.Proofs.YtibofabkpgigoaaGreatDoor
open Go.En

theorem sv_ext (s : Bs) (a b : Nat) : (.string ((⟨s.toArray⟩ : ByteArray).extract a b) : Value) = sv ((s.drop a).take (b - a)) := by
  rw [← sv_of]
  congr 1
  have := Lib.extract_toList (⟨s.toArray⟩ : ByteArray) a b
  simp only [ByteArray.data_extract] at this ⊢
  simp
section
variable {w w0 : World} {S0 : Nat → Prop} {L B : List Res} {K : Value → World → Prop} {s : Bs}
theorem c_sIndexByte {c : Int} (h : K (.int .i64 (Lib.indexByte s c.toNat.toUInt8)) w) : CK Tryz.prog 63 [sv s, .int .u8 c] w K := ck_of (Tryz.strings_IndexByte ⟨s.toArray⟩ c w) h
theorem b_Lines (h : ∀ b w', St w (fun _ => False) w' [cel b [sv s] 9] → K (.func (.func 62) ⟨[]⟩ ⟨[dp b]⟩) w') : CK Tryz.prog 35 [sv s] w K := by
  have hS := St.nil w (fun _ => False)
  refine call_k Tryz.func35 k35 Tryz.ntmps35 (Nat.le_of_ble_eq_true rfl) ?_
  (repeat (first | refine g_sq ?_ | refine g_rg ?_ | refine g_r0 ?_ | refine g_ok rfl rfl ?_ | refine g_no rfl ?_ | refine g_no0 rfl ?_ | refine g_bk ?_ | refine g_b ?_ | refine g_sk ?_ | refine g_cT rfl ?_ | refine g_cF rfl ?_ | refine g_x rfl ?_ | refine g_lb ?_))
  refine g_ef rfl (ef_bx hS rfl fun b1 w1 hS => ?_)
  (repeat (first | refine g_sq ?_ | refine g_rg ?_ | refine g_r0 ?_ | refine g_ok rfl rfl ?_ | refine g_no rfl ?_ | refine g_no0 rfl ?_ | refine g_bk ?_ | refine g_b ?_ | refine g_sk ?_ | refine g_cT rfl ?_ | refine g_cF rfl ?_ | refine g_x rfl ?_ | refine g_lb ?_))
  exact g_ret (q_1 rfl (h _ _ hS))
theorem d_Lines {ι : Type} {Ls : Bs → ι → List Res} {Inv : Bs → ι → Prop} {b l i : Nat} (hs : s.length < 4294967281)
    (hi : ∀ r σ, (Ls r σ)[i]? = some (cel b [sv r] 9)) (hset : ∀ r r' σ, (Ls r σ).set i (cel b [sv r'] 9) = Ls r' σ)
    {σ0 : ι} (h0 : Inv s σ0) (hS : St w0 S0 w (Ls s σ0))
    (hy : ∀ (r : Bs) (_ : r ≠ []) (σ : ι) (w : World), r.length < 4294967281 → Inv r σ → St w0 S0 w (Ls (hd1 r).2 σ) → Yd Tryz.prog l [sv (hd1 r).1] w fun v w' => (v = .bool true ∧ ∃ σ', Inv (hd1 r).2 σ' ∧ St w0 S0 w' (Ls (hd1 r).2 σ')) ∨ (v = .bool false ∧ K (.tuple ⟨[]⟩) w'))
    (he : ∀ σ w, Inv [] σ → St w0 S0 w (Ls [] σ) → K (.tuple ⟨[]⟩) w) : CK Tryz.prog 62 [.func (.yield l) ⟨[]⟩ ⟨[]⟩, dp b] w K := by
  refine call_k Tryz.func62 k62 Tryz.ntmps62 (Nat.le_of_ble_eq_true rfl) ?_
  (repeat (first | refine g_sq ?_ | refine g_rg ?_ | refine g_r0 ?_ | refine g_ok rfl rfl ?_ | refine g_no rfl ?_ | refine g_no0 rfl ?_ | refine g_bk ?_ | refine g_b ?_ | refine g_sk ?_ | refine g_cT rfl ?_ | refine g_cF rfl ?_ | refine g_x rfl ?_ | refine g_lb ?_))
  refine g_lp (ι := Bs × ι) (fun _ => [(0, .func (.yield l) ⟨[]⟩ ⟨[]⟩), (1, dp b)]) (fun x w => x.1.length < 4294967281 ∧ Inv x.1 x.2 ∧ St w0 S0 w (Ls x.1 x.2)) (fun x => x.1.length) (s, σ0) ⟨rfl, rfl, trivial⟩ ⟨hs, h0, hS⟩ ?_
  clear hS h0
  rintro ⟨r, σ⟩ w ⟨hr, hI, hS⟩
  dsimp only at hr hI hS ⊢
  (repeat (first | refine g_sq ?_ | refine g_rg ?_ | refine g_r0 ?_ | refine g_ok rfl rfl ?_ | refine g_no rfl ?_ | refine g_no0 rfl ?_ | refine g_bk ?_ | refine g_b ?_ | refine g_sk ?_ | refine g_cT rfl ?_ | refine g_cF rfl ?_ | refine g_x rfl ?_ | refine g_lb ?_))
  refine g_l1 rfl rfl (hS.b i (hi r σ)) rfl ?_
  (repeat (first | refine g_sq ?_ | refine g_rg ?_ | refine g_r0 ?_ | refine g_ok rfl rfl ?_ | refine g_no rfl ?_ | refine g_no0 rfl ?_ | refine g_bk ?_ | refine g_b ?_ | refine g_sk ?_ | refine g_cT rfl ?_ | refine g_cF rfl ?_ | refine g_x rfl ?_ | refine g_lb ?_))
  have esz : (⟨r.toArray⟩ : ByteArray).size = r.length := by rw [Lib.size_eq]
  rw [esz]
  (refine g_cd rfl (fun hc => ?_) (fun hc => ?_) <;> simp only [cmv, arv, Bool.not_eq_true', Bool.not_eq_false', decide_eq_true_eq, decide_eq_false_iff_not] at hc)
  · have hne : r ≠ [] := fun e => by subst e; simp at hc
    have hlt := hd1_lt hne
    (repeat (first | refine g_sq ?_ | refine g_rg ?_ | refine g_r0 ?_ | refine g_ok rfl rfl ?_ | refine g_no rfl ?_ | refine g_no0 rfl ?_ | refine g_bk ?_ | refine g_b ?_ | refine g_sk ?_ | refine g_cT rfl ?_ | refine g_cF rfl ?_ | refine g_x rfl ?_ | refine g_lb ?_))
    refine g_l1 rfl rfl (hS.b i (hi r σ)) rfl ?_
    refine g_cl rfl rfl (c_sIndexByte ?_)
    have e10 : ((10 : Int).toNat.toUInt8) = 10 := rfl
    rw [e10]
    (repeat (first | refine g_sq ?_ | refine g_rg ?_ | refine g_r0 ?_ | refine g_ok rfl rfl ?_ | refine g_no rfl ?_ | refine g_no0 rfl ?_ | refine g_bk ?_ | refine g_b ?_ | refine g_sk ?_ | refine g_cT rfl ?_ | refine g_cF rfl ?_ | refine g_x rfl ?_ | refine g_lb ?_))
    refine g_at 1 [(0, .func (.yield l) ⟨[]⟩ ⟨[]⟩), (1, dp b), (3, sv (hd1 r).1)] (fun w' => St w0 S0 w' (Ls (hd1 r).2 σ)) rfl ?_ ?_
    · (refine g_cd rfl (fun hj => ?_) (fun hj => ?_) <;> simp only [cmv, arv, Bool.not_eq_true', Bool.not_eq_false', decide_eq_true_eq, decide_eq_false_iff_not] at hj)
      · have hj : 0 ≤ Lib.indexByte r 10 := by omega
        have hjl := ibx_lt hj
        have e1 : hd1 r = (r.take ((Lib.indexByte r 10).toNat + 1), r.drop ((Lib.indexByte r 10).toNat + 1)) := by unfold hd1; rw [if_pos hj]
        generalize Lib.indexByte r 10 = j at *
        obtain ⟨m, rfl⟩ := Int.eq_ofNat_of_zero_le hj
        rw [Int.toNat_natCast] at hjl e1
        (repeat (first | refine g_sq ?_ | refine g_rg ?_ | refine g_r0 ?_ | refine g_ok rfl rfl ?_ | refine g_no rfl ?_ | refine g_no0 rfl ?_ | refine g_bk ?_ | refine g_b ?_ | refine g_sk ?_ | refine g_cT rfl ?_ | refine g_cF rfl ?_ | refine g_x rfl ?_ | refine g_lb ?_))
        refine g_dr mixed ?_
        replace hS := hS.drew
        refine d_l1 rfl rfl rfl (hS.b i (hi r σ)) rfl ?_
        (repeat (first | refine d_ok rfl rfl rfl ?_ | refine d_no rfl rfl ?_))
        refine d_rq rfl rfl rfl (in64 (by simp only [arv]; omega)) ?_
        refine d_rq rfl rfl rfl ⟨by omega, by simp only [arv]; omega, by simp only [arv, esz]; omega⟩ ?_
        refine d_l1 rfl rfl rfl (hS.b i (hi r σ)) rfl ?_
        (repeat (first | refine d_ok rfl rfl rfl ?_ | refine d_no rfl rfl ?_))
        refine d_rq rfl rfl rfl (in64 (by simp only [arv]; omega)) ?_
        refine d_rq rfl rfl rfl ⟨by simp only [arv]; omega, by simp only [arv, esz]; omega, by simp only [esz]; omega⟩ ?_
        (repeat (first | refine d_ok rfl rfl rfl ?_ | refine d_no rfl rfl ?_))
        refine d_e0 rfl rfl ?_
        refine ef_st hS i (hi r σ) rfl rfl rfl (Nat.le_of_ble_eq_true rfl) rfl fun w1 hS => ⟨rc_0, ?_⟩
        refine d_fin ?_
        have e2 : (arv BinOp.add (m : Int) 1).toNat = m + 1 := by simp only [arv]; omega
        have e3 : (.string ((⟨r.toArray⟩ : ByteArray).extract 0 (arv BinOp.add (m : Int) 1).toNat) : Value) = sv (hd1 r).1 := by
          rw [e2, sv_ext, e1, List.drop_zero, Nat.sub_zero]
        have e4 : (.string ((⟨r.toArray⟩ : ByteArray).extract (arv BinOp.add (m : Int) 1).toNat ((⟨r.toArray⟩ : ByteArray).size : Int).toNat) : Value) = sv (hd1 r).2 := by
          rw [e2, sv_ext, e1, Int.toNat_natCast, esz, List.take_of_length_le (by rw [List.length_drop]; omega)]
        refine g_j ⟨rfl, rfl, ?_, trivial⟩ ?_
        · show some _ = some _
          exact congrArg some e3
        · have hS2 : St w0 S0 w1 ((Ls r σ).set i (cel b [.string ((⟨r.toArray⟩ : ByteArray).extract (arv BinOp.add (m : Int) 1).toNat ((⟨r.toArray⟩ : ByteArray).size : Int).toNat)] 9)) := hS
          rw [e4, hset] at hS2
          exact hS2
      · have e1 : hd1 r = (r, []) := by unfold hd1; rw [if_neg (by omega)]
        rw [e1]
        (repeat (first | refine g_sq ?_ | refine g_rg ?_ | refine g_r0 ?_ | refine g_ok rfl rfl ?_ | refine g_no rfl ?_ | refine g_no0 rfl ?_ | refine g_bk ?_ | refine g_b ?_ | refine g_sk ?_ | refine g_cT rfl ?_ | refine g_cF rfl ?_ | refine g_x rfl ?_ | refine g_lb ?_))
        refine g_l1 rfl rfl (hS.b i (hi r σ)) rfl ?_
        (repeat (first | refine g_sq ?_ | refine g_rg ?_ | refine g_r0 ?_ | refine g_ok rfl rfl ?_ | refine g_no rfl ?_ | refine g_no0 rfl ?_ | refine g_bk ?_ | refine g_b ?_ | refine g_sk ?_ | refine g_cT rfl ?_ | refine g_cF rfl ?_ | refine g_x rfl ?_ | refine g_lb ?_))
        refine g_ef0 rfl (ef_st hS i (hi r σ) rfl rfl rfl (Nat.le_of_ble_eq_true rfl) rfl fun w1 hS => ?_)
        (repeat (first | refine g_sq ?_ | refine g_rg ?_ | refine g_r0 ?_ | refine g_ok rfl rfl ?_ | refine g_no rfl ?_ | refine g_no0 rfl ?_ | refine g_bk ?_ | refine g_b ?_ | refine g_sk ?_ | refine g_cT rfl ?_ | refine g_cF rfl ?_ | refine g_x rfl ?_ | refine g_lb ?_))
        refine g_j ⟨rfl, rfl, rfl, trivial⟩ ?_
        have hS2 : St w0 S0 w1 ((Ls r σ).set i (cel b [sv []] 9)) := hS
        rw [hset] at hS2
        exact hS2
    · clear hS
      intro T w1 hT hS
      refine g_wkc hT ?_
      (repeat (first | refine g_sq ?_ | refine g_rg ?_ | refine g_r0 ?_ | refine g_ok rfl rfl ?_ | refine g_no rfl ?_ | refine g_no0 rfl ?_ | refine g_bk ?_ | refine g_b ?_ | refine g_sk ?_ | refine g_cT rfl ?_ | refine g_cF rfl ?_ | refine g_x rfl ?_ | refine g_lb ?_))
      refine g_ef rfl (ef_yd (vs := [sv (hd1 r).1]) rfl rfl ((hy r hne σ _ hr hI hS).mono ?_))
      rintro v w' (⟨rfl, σ', hI', hS⟩ | ⟨rfl, hK⟩)
      · (repeat (first | refine g_sq ?_ | refine g_rg ?_ | refine g_r0 ?_ | refine g_ok rfl rfl ?_ | refine g_no rfl ?_ | refine g_no0 rfl ?_ | refine g_bk ?_ | refine g_b ?_ | refine g_sk ?_ | refine g_cT rfl ?_ | refine g_cF rfl ?_ | refine g_x rfl ?_ | refine g_lb ?_))
        exact g_l ((hd1 r).2, σ') ⟨rfl, rfl, trivial⟩ ⟨by simp only; omega, hI', hS⟩ hlt
      · (repeat (first | refine g_sq ?_ | refine g_rg ?_ | refine g_r0 ?_ | refine g_ok rfl rfl ?_ | refine g_no rfl ?_ | refine g_no0 rfl ?_ | refine g_bk ?_ | refine g_b ?_ | refine g_sk ?_ | refine g_cT rfl ?_ | refine g_cF rfl ?_ | refine g_x rfl ?_ | refine g_lb ?_))
        exact g_ret (q_0 hK)
  · have e : r = [] := List.eq_nil_of_length_eq_zero (by omega)
    subst e
    (repeat (first | refine g_sq ?_ | refine g_rg ?_ | refine g_r0 ?_ | refine g_ok rfl rfl ?_ | refine g_no rfl ?_ | refine g_no0 rfl ?_ | refine g_bk ?_ | refine g_b ?_ | refine g_sk ?_ | refine g_cT rfl ?_ | refine g_cF rfl ?_ | refine g_x rfl ?_ | refine g_lb ?_))
    exact q_n (he _ _ hI hS)
end
end Go.Proofs.YtibofabkpgigoaaGreatDoor
