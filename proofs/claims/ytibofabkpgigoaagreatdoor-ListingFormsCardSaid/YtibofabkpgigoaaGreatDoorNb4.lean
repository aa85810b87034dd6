/- What is listed, taken apart: the iterator. -/
import Derived.Test.YtibofabkpgigoaaGreatDoorNb3
set_option linter.unusedSimpArgs false
set_option linter.unusedVariables false
namespace Go.Proofs.YtibofabkpgigoaaGreatDoor
open Go.En

/-- a listed name, taken apart: the ref, is it a conflict name, is it right -/
def ent (x : Li) : Bs × Bool × Bool := ((spN x.1).1, (spN x.1).2.2.1, decide ((spN x.1).2.2.2 = 0) && (!(spN x.1).2.2.1 || decide ((spN x.1).2.1 = x.2.1)))
def ec (e : Bs × Bool × Bool) : List Value := [sv e.1, .bool e.2.1, .bool e.2.2]
section
variable {w w0 : World} {S0 : Nat → Prop} {L B : List Res} {K : Value → World → Prop} {s : Bs} {E0 E1 : Nat}
theorem getL {r : Res} : (L ++ [r])[L.length]? = some r := by rw [List.getElem?_append_right (Nat.le_refl _), Nat.sub_self]; rfl
theorem getL2 {r q : Res} : (L ++ [r] ++ [q])[L.length]? = some r := by rw [List.getElem?_append_left (by simp)]; exact getL
theorem b_entries {v : Value} (hv1 : v.oneCell' = true) (hvc : v.cells.toList = [v]) (h : ∀ b w', St w (fun _ => False) w' [cel b [v] 22] → K (.func (.func 61) ⟨[]⟩ ⟨[dp b]⟩) w') : CK Tryz.prog 34 [v] w K := by
  have hS := St.nil w (fun _ => False)
  refine call_k Tryz.func34 k34 Tryz.ntmps34 (Nat.le_of_ble_eq_true rfl) ?_
  (repeat (first | refine g_sq ?_ | refine g_rg ?_ | refine g_r0 ?_ | refine g_ok rfl rfl ?_ | refine g_no rfl ?_ | refine g_no0 rfl ?_ | refine g_bk ?_ | refine g_b ?_ | refine g_sk ?_ | refine g_cT rfl ?_ | refine g_cF rfl ?_ | refine g_x rfl ?_ | refine g_lb ?_))
  refine g_ef rfl (ef_bx hS rfl fun b1 w1 hS => ?_)
  rw [hvc] at hS
  (repeat (first | refine g_sq ?_ | refine g_rg ?_ | refine g_r0 ?_ | refine g_ok rfl rfl ?_ | refine g_no rfl ?_ | refine g_no0 rfl ?_ | refine g_bk ?_ | refine g_b ?_ | refine g_sk ?_ | refine g_cT rfl ?_ | refine g_cF rfl ?_ | refine g_x rfl ?_ | refine g_lb ?_))
  exact g_ret (q_1 rfl (h _ _ hS))
theorem d_entries {ι : Type} {Ls : ι → List Res} {Inv : Nat → ι → Prop} {d : List Li} {v : Value} {b l i n : Nat} (hd : d.length = n) (hn : n < 2000000) (hlen : ∀ x ∈ d, x.1.length < 4294967281)
    (hi : ∀ σ, (Ls σ)[i]? = some (cel b [v] 22)) (hr : ∀ σ w, St w0 S0 w (Ls σ) → Rd v E0 33 n (fl lc d) w) (hg : ∀ σ w, St w0 S0 w (Ls σ) → Gl w)
    {σ0 : ι} (h0 : Inv 0 σ0) (hS : St w0 S0 w (Ls σ0))
    (hy : ∀ (k : Nat) (hk : k < d.length) (σ : ι) (w : World), Inv k σ → St w0 S0 w (Ls σ) → Yd Tryz.prog l [.agg ⟨lc d[k]⟩, .agg ⟨ec (ent d[k])⟩] w fun v w' => (v = .bool true ∧ ∃ σ', Inv (k + 1) σ' ∧ St w0 S0 w' (Ls σ')) ∨ (v = .bool false ∧ K (.tuple ⟨[]⟩) w'))
    (he : ∀ σ w, Inv n σ → St w0 S0 w (Ls σ) → K (.tuple ⟨[]⟩) w) : CK Tryz.prog 61 [.func (.yield l) ⟨[]⟩ ⟨[]⟩, dp b] w K := by
  obtain ⟨a, c, rfl⟩ := (hr _ _ hS).form
  refine call_k Tryz.func61 k61 Tryz.ntmps61 (Nat.le_of_ble_eq_true rfl) ?_
  (repeat (first | refine g_sq ?_ | refine g_rg ?_ | refine g_r0 ?_ | refine g_ok rfl rfl ?_ | refine g_no rfl ?_ | refine g_no0 rfl ?_ | refine g_bk ?_ | refine g_b ?_ | refine g_sk ?_ | refine g_cT rfl ?_ | refine g_cF rfl ?_ | refine g_x rfl ?_ | refine g_lb ?_))
  refine g_l1 rfl rfl (hS.b i (hi σ0)) rfl ?_
  (repeat (first | refine g_sq ?_ | refine g_rg ?_ | refine g_r0 ?_ | refine g_ok rfl rfl ?_ | refine g_no rfl ?_ | refine g_no0 rfl ?_ | refine g_bk ?_ | refine g_b ?_ | refine g_sk ?_ | refine g_cT rfl ?_ | refine g_cF rfl ?_ | refine g_x rfl ?_ | refine g_lb ?_))
  refine g_lp (ι := Nat × ι) (fun x => [(0, .func (.yield l) ⟨[]⟩ ⟨[]⟩), (9, .slice a n c), (10, .int .i64 n), (11, .int .i64 x.1)]) (fun x w => x.1 ≤ n ∧ Inv x.1 x.2 ∧ St w0 S0 w (Ls x.2)) (fun x => n - x.1) (0, σ0) ⟨rfl, rfl, rfl, rfl, trivial⟩ ⟨Nat.zero_le _, h0, hS⟩ ?_
  clear hS h0
  rintro ⟨k, σ⟩ w ⟨hk, hI, hS⟩
  dsimp only at hk hI hS ⊢
  (repeat (first | refine g_sq ?_ | refine g_rg ?_ | refine g_r0 ?_ | refine g_ok rfl rfl ?_ | refine g_no rfl ?_ | refine g_no0 rfl ?_ | refine g_bk ?_ | refine g_b ?_ | refine g_sk ?_ | refine g_cT rfl ?_ | refine g_cF rfl ?_ | refine g_x rfl ?_ | refine g_lb ?_))
  (refine g_cd rfl (fun hc => ?_) (fun hc => ?_) <;> simp only [cmv, arv, Bool.not_eq_true', Bool.not_eq_false', decide_eq_true_eq, decide_eq_false_iff_not] at hc)
  · have hlt : k < d.length := by omega
    obtain ⟨b2, off, cap, l2, e1, hcap, hl, hx, hb⟩ := Rd.block (hr _ _ hS) (by omega)
    cases e1
    (repeat (first | refine g_sq ?_ | refine g_rg ?_ | refine g_r0 ?_ | refine g_ok rfl rfl ?_ | refine g_no rfl ?_ | refine g_no0 rfl ?_ | refine g_bk ?_ | refine g_b ?_ | refine g_sk ?_ | refine g_cT rfl ?_ | refine g_cF rfl ?_ | refine g_x rfl ?_ | refine g_lb ?_))
    refine g_rq rfl rfl ⟨by omega, by omega⟩ ?_
    have hbd : off + k * 33 + 33 ≤ l2.length := by have : (k + 1) * 33 ≤ c * 33 := Nat.mul_le_mul_right 33 (by omega); omega
    refine g_lmr rfl rfl hb hbd ?_
    rw [Int.toNat_natCast, rd_at lc_len hx hd hlt]
    generalize hX : d[k] = X
    have hXl : X.1.length < 4294967281 := hlen X (by rw [← hX]; exact List.getElem_mem _)
    refine g_ef rfl (ef_al hS fun g4 w hS => ?_)
    have lz : (zx [(1, .string ⟨#[]⟩), (32, .int .u8 0)]).length = 33 := by decide
    refine g_ef0 rfl (ef_st hS (Ls σ).length getL rfl rfl (lc_len _) (by rw [lz]; decide) (List.all_eq_true.2 (lc_one _)) fun w hS => ?_)
    replace hS := hS.ceq (l' := lc X) (Ls σ).length (by rw [List.set_append_right _ _ (Nat.le_refl _), Nat.sub_self]; exact getL) (spl_full _ _ (by show (lc X).length = _; rw [lc_len, lz]))
    rw [List.set_append_right _ _ (Nat.le_refl _), Nat.sub_self, List.set_append_right _ _ (Nat.le_refl _), Nat.sub_self] at hS
    replace hS : St w0 S0 w (Ls σ ++ [cel g4 (lc X) 41]) := hS
    (repeat (first | refine g_sq ?_ | refine g_rg ?_ | refine g_r0 ?_ | refine g_ok rfl rfl ?_ | refine g_no rfl ?_ | refine g_no0 rfl ?_ | refine g_bk ?_ | refine g_b ?_ | refine g_sk ?_ | refine g_cT rfl ?_ | refine g_cF rfl ?_ | refine g_x rfl ?_ | refine g_lb ?_))
    refine g_l1 rfl rfl (hS.b _ getL) rfl ?_
    refine g_cl rfl rfl (b_Split (hg _ _ hS.init) hXl fun w' h' => ?_)
    replace hS := hS.call0.2 _ _ h'
    rw [List.append_nil] at hS
    (repeat (first | refine g_sq ?_ | refine g_rg ?_ | refine g_r0 ?_ | refine g_ok rfl rfl ?_ | refine g_no rfl ?_ | refine g_no0 rfl ?_ | refine g_bk ?_ | refine g_b ?_ | refine g_sk ?_ | refine g_cT rfl ?_ | refine g_cF rfl ?_ | refine g_x rfl ?_ | refine g_lb ?_))
    refine g_ef rfl (ef_al hS fun g6 w hS => ?_)
    replace hS : St w0 S0 w (Ls σ ++ [cel g4 (lc X) 41] ++ [cel g6 (bys zid) 35]) := hS
    (repeat (first | refine g_sq ?_ | refine g_rg ?_ | refine g_r0 ?_ | refine g_ok rfl rfl ?_ | refine g_no rfl ?_ | refine g_no0 rfl ?_ | refine g_bk ?_ | refine g_b ?_ | refine g_sk ?_ | refine g_cT rfl ?_ | refine g_cF rfl ?_ | refine g_x rfl ?_ | refine g_lb ?_))
    have lN := spN_len X.1
    have lNb : (bys (spN X.1).2.1).length = 32 := by rw [bys_length, lN]
    have lzb : (bys zid).length = 32 := by rw [bys_length, zid_len]
    refine g_ef0 rfl (ef_st hS (Ls σ ++ [cel g4 (lc X) 41]).length getL rfl rfl lNb (Nat.le_of_eq lzb.symm) (bys_one _) fun w hS => ?_)
    rw [List.set_append_right _ _ (Nat.le_refl _), Nat.sub_self] at hS
    replace hS := hS.ceq (l' := bys (spN X.1).2.1) (Ls σ ++ [cel g4 (lc X) 41]).length getL (spl_full _ _ (lNb.trans lzb.symm))
    rw [List.set_append_right _ _ (Nat.le_refl _), Nat.sub_self] at hS
    replace hS : St w0 S0 w (Ls σ ++ [cel g4 (lc X) 41] ++ [cel g6 (bys (spN X.1).2.1) 35]) := hS
    have hy' := fun w hS => hy k hlt σ w hI hS
    rw [hX] at hy'
    (repeat (first | refine g_sq ?_ | refine g_rg ?_ | refine g_r0 ?_ | refine g_ok rfl rfl ?_ | refine g_no rfl ?_ | refine g_no0 rfl ?_ | refine g_bk ?_ | refine g_b ?_ | refine g_sk ?_ | refine g_cT rfl ?_ | refine g_cF rfl ?_ | refine g_x rfl ?_ | refine g_lb ?_))
    refine g_dr mixed ?_
    replace hS := hS.drew
    (repeat (first | refine d_ok rfl rfl rfl ?_ | refine d_no rfl rfl ?_))
    refine d_lm rfl rfl rfl (hS.b _ getL2) (Nat.le_of_eq (lc_len X).symm) ?_
    rw [List.drop_zero, List.take_of_length_le (Nat.le_of_eq (lc_len X))]
    (repeat (first | refine d_ok rfl rfl rfl ?_ | refine d_no rfl rfl ?_))
    by_cases he : (spN X.1).2.2.2 = 0
    · have hcm : cmv .eql (spN X.1).2.2.2 0 = true := by simp [cmv, he]
      rw [hcm]
      (repeat (first | refine d_ok rfl rfl rfl ?_ | refine d_no rfl rfl ?_))
      cases hcf : (spN X.1).2.2.1
      · (repeat (first | refine d_ok rfl rfl rfl ?_ | refine d_no rfl rfl ?_))
        have hent : ec (ent X) = [sv (spN X.1).1, .bool false, .bool true] := by simp [ec, ent, he, hcf]
        refine d_e rfl rfl ?_
        refine ef_yd (vs := [.agg ⟨lc X⟩, .agg ⟨ec (ent X)⟩]) rfl (by rw [hent]; rfl) ((hy' _ hS.init.init).mono ?_)
        rintro v w' (⟨rfl, σ', hI', hS⟩ | ⟨rfl, hK⟩)
        · refine ⟨rc_0, ?_⟩
          (repeat (first | refine d_ok rfl rfl rfl ?_ | refine d_no rfl rfl ?_))
          refine d_fin ?_
          (repeat (first | refine g_sq ?_ | refine g_rg ?_ | refine g_r0 ?_ | refine g_ok rfl rfl ?_ | refine g_no rfl ?_ | refine g_no0 rfl ?_ | refine g_bk ?_ | refine g_b ?_ | refine g_sk ?_ | refine g_cT rfl ?_ | refine g_cF rfl ?_ | refine g_x rfl ?_ | refine g_lb ?_))
          refine g_rq rfl rfl (in64 (by simp only [arv]; omega)) ?_
          (repeat (first | refine g_sq ?_ | refine g_rg ?_ | refine g_r0 ?_ | refine g_ok rfl rfl ?_ | refine g_no rfl ?_ | refine g_no0 rfl ?_ | refine g_bk ?_ | refine g_b ?_ | refine g_sk ?_ | refine g_cT rfl ?_ | refine g_cF rfl ?_ | refine g_x rfl ?_ | refine g_lb ?_))
          exact g_l (k + 1, σ') ⟨rfl, rfl, rfl, rfl, trivial⟩ ⟨by simp only; omega, hI', hS⟩ (by simp only; omega)
        · refine ⟨rc_0, ?_⟩
          (repeat (first | refine d_ok rfl rfl rfl ?_ | refine d_no rfl rfl ?_))
          refine d_fin ?_
          (repeat (first | refine g_sq ?_ | refine g_rg ?_ | refine g_r0 ?_ | refine g_ok rfl rfl ?_ | refine g_no rfl ?_ | refine g_no0 rfl ?_ | refine g_bk ?_ | refine g_b ?_ | refine g_sk ?_ | refine g_cT rfl ?_ | refine g_cF rfl ?_ | refine g_x rfl ?_ | refine g_lb ?_))
          exact g_ret (q_0 hK)
      · (repeat (first | refine d_ok rfl rfl rfl ?_ | refine d_no rfl rfl ?_))
        refine d_lm rfl rfl rfl (hS.b _ getL) (Nat.le_of_eq lNb.symm) ?_
        rw [List.drop_zero, List.take_of_length_le (Nat.le_of_eq lNb)]
        (repeat (first | refine d_ok rfl rfl rfl ?_ | refine d_no rfl rfl ?_))
        refine d_lm rfl rfl rfl (hS.b _ getL2) (Nat.le_of_eq (lc_len X).symm) ?_
        rw [show ((lc X).drop (0 + 1)).take 32 = bys X.2.1 by rw [Nat.zero_add]; exact List.take_of_length_le (Nat.le_of_eq (ic_len X.2))]
        refine d_qt rfl rfl rfl (qt_aq (a := (spN X.1).2.1) (b := X.2.1) rfl rfl lN X.2.2) ?_
        (repeat (first | refine d_ok rfl rfl rfl ?_ | refine d_no rfl rfl ?_))
        have hent : ec (ent X) = [sv (spN X.1).1, .bool true, .bool (aqv .eql (spN X.1).2.1 X.2.1)] := by simp [ec, ent, he, hcf, aqv]
        refine d_e rfl rfl ?_
        refine ef_yd (vs := [.agg ⟨lc X⟩, .agg ⟨ec (ent X)⟩]) rfl (by rw [hent]; rfl) ((hy' _ hS.init.init).mono ?_)
        rintro v w' (⟨rfl, σ', hI', hS⟩ | ⟨rfl, hK⟩)
        · refine ⟨rc_0, ?_⟩
          (repeat (first | refine d_ok rfl rfl rfl ?_ | refine d_no rfl rfl ?_))
          refine d_fin ?_
          (repeat (first | refine g_sq ?_ | refine g_rg ?_ | refine g_r0 ?_ | refine g_ok rfl rfl ?_ | refine g_no rfl ?_ | refine g_no0 rfl ?_ | refine g_bk ?_ | refine g_b ?_ | refine g_sk ?_ | refine g_cT rfl ?_ | refine g_cF rfl ?_ | refine g_x rfl ?_ | refine g_lb ?_))
          refine g_rq rfl rfl (in64 (by simp only [arv]; omega)) ?_
          (repeat (first | refine g_sq ?_ | refine g_rg ?_ | refine g_r0 ?_ | refine g_ok rfl rfl ?_ | refine g_no rfl ?_ | refine g_no0 rfl ?_ | refine g_bk ?_ | refine g_b ?_ | refine g_sk ?_ | refine g_cT rfl ?_ | refine g_cF rfl ?_ | refine g_x rfl ?_ | refine g_lb ?_))
          exact g_l (k + 1, σ') ⟨rfl, rfl, rfl, rfl, trivial⟩ ⟨by simp only; omega, hI', hS⟩ (by simp only; omega)
        · refine ⟨rc_0, ?_⟩
          (repeat (first | refine d_ok rfl rfl rfl ?_ | refine d_no rfl rfl ?_))
          refine d_fin ?_
          (repeat (first | refine g_sq ?_ | refine g_rg ?_ | refine g_r0 ?_ | refine g_ok rfl rfl ?_ | refine g_no rfl ?_ | refine g_no0 rfl ?_ | refine g_bk ?_ | refine g_b ?_ | refine g_sk ?_ | refine g_cT rfl ?_ | refine g_cF rfl ?_ | refine g_x rfl ?_ | refine g_lb ?_))
          exact g_ret (q_0 hK)
    · have hcm : cmv .eql (spN X.1).2.2.2 0 = false := by simp [cmv, he]
      rw [hcm]
      (repeat (first | refine d_ok rfl rfl rfl ?_ | refine d_no rfl rfl ?_))
      have hent : ec (ent X) = [sv (spN X.1).1, .bool (spN X.1).2.2.1, .bool false] := by simp [ec, ent, he]
      refine d_e rfl rfl ?_
      refine ef_yd (vs := [.agg ⟨lc X⟩, .agg ⟨ec (ent X)⟩]) rfl (by rw [hent]; rfl) ((hy' _ hS.init.init).mono ?_)
      rintro v w' (⟨rfl, σ', hI', hS⟩ | ⟨rfl, hK⟩)
      · refine ⟨rc_0, ?_⟩
        (repeat (first | refine d_ok rfl rfl rfl ?_ | refine d_no rfl rfl ?_))
        refine d_fin ?_
        (repeat (first | refine g_sq ?_ | refine g_rg ?_ | refine g_r0 ?_ | refine g_ok rfl rfl ?_ | refine g_no rfl ?_ | refine g_no0 rfl ?_ | refine g_bk ?_ | refine g_b ?_ | refine g_sk ?_ | refine g_cT rfl ?_ | refine g_cF rfl ?_ | refine g_x rfl ?_ | refine g_lb ?_))
        refine g_rq rfl rfl (in64 (by simp only [arv]; omega)) ?_
        (repeat (first | refine g_sq ?_ | refine g_rg ?_ | refine g_r0 ?_ | refine g_ok rfl rfl ?_ | refine g_no rfl ?_ | refine g_no0 rfl ?_ | refine g_bk ?_ | refine g_b ?_ | refine g_sk ?_ | refine g_cT rfl ?_ | refine g_cF rfl ?_ | refine g_x rfl ?_ | refine g_lb ?_))
        exact g_l (k + 1, σ') ⟨rfl, rfl, rfl, rfl, trivial⟩ ⟨by simp only; omega, hI', hS⟩ (by simp only; omega)
      · refine ⟨rc_0, ?_⟩
        (repeat (first | refine d_ok rfl rfl rfl ?_ | refine d_no rfl rfl ?_))
        refine d_fin ?_
        (repeat (first | refine g_sq ?_ | refine g_rg ?_ | refine g_r0 ?_ | refine g_ok rfl rfl ?_ | refine g_no rfl ?_ | refine g_no0 rfl ?_ | refine g_bk ?_ | refine g_b ?_ | refine g_sk ?_ | refine g_cT rfl ?_ | refine g_cF rfl ?_ | refine g_x rfl ?_ | refine g_lb ?_))
        exact g_ret (q_0 hK)
  · have e : k = n := by omega
    subst e
    (repeat (first | refine g_sq ?_ | refine g_rg ?_ | refine g_r0 ?_ | refine g_ok rfl rfl ?_ | refine g_no rfl ?_ | refine g_no0 rfl ?_ | refine g_bk ?_ | refine g_b ?_ | refine g_sk ?_ | refine g_cT rfl ?_ | refine g_cF rfl ?_ | refine g_x rfl ?_ | refine g_lb ?_))
    exact q_n (he _ _ hI hS)
end
end Go.Proofs.YtibofabkpgigoaaGreatDoor
