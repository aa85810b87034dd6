/- The document's layer 3: digits, texts of ids. -/
import Derived.Test.YtibofabkpgigoaaGreatDoorNa9
import Derived.Test.YtibofabkpgigoaaGreatDoorNh0
import Derived.Test.YtibofabkpgigoaaGreatDoorNe4
import Derived.Test.YtibofabkpgigoaaGreatDoorEnX
import Derived.Test.YtibofabkpgigoaaGreatDoorNd3
set_option linter.unusedSimpArgs false
set_option linter.unusedVariables false
namespace Go.Proofs.YtibofabkpgigoaaGreatDoor
open Go.En

theorem sv_app2 (a b : Bs) : (.string ((⟨a.toArray⟩ : ByteArray) ++ ⟨b.toArray⟩) : Value) = sv (a ++ b) := by
  rw [← sv_of]
  congr 1
theorem dg_lo : ∀ n : Fin 256, 48 ≤ n.val → n.val ≤ 57 → isD (UInt8.ofNat n.val) = true ∧ IntKind.i64.wrap (IntKind.u8.wrap (arv .sub (n.val : Int) 48)) = (dgv (UInt8.ofNat n.val) : Int) := by decide +kernel
theorem dg_hi : ∀ n : Fin 256, 97 ≤ n.val → n.val ≤ 102 → isD (UInt8.ofNat n.val) = true ∧ arv .add (IntKind.i64.wrap (IntKind.u8.wrap (arv .sub (n.val : Int) 97))) 10 = (dgv (UInt8.ofNat n.val) : Int) ∧ 0 ≤ IntKind.i64.wrap (IntKind.u8.wrap (arv .sub (n.val : Int) 97)) ∧ IntKind.i64.wrap (IntKind.u8.wrap (arv .sub (n.val : Int) 97)) ≤ 255 := by decide +kernel
theorem dg_no : ∀ n : Fin 256, isD (UInt8.ofNat n.val) = true → (48 ≤ n.val ∧ n.val ≤ 57) ∨ (97 ≤ n.val ∧ n.val ≤ 102) := by decide +kernel
/-- a digit's number; -1: it is none -/
def dgI (c : UInt8) : Int := if isD c = true then (dgv c : Int) else -1
theorem by_nib : ∀ n : Fin 256, IntKind.u8.wrap ((n.val : Int).tdiv 16) = ((n.val / 16 : Nat) : Int) ∧ IntKind.u8.wrap (arv .add ((n.val / 16 : Nat) : Int) 1) = ((n.val / 16 + 1 : Nat) : Int) ∧ (n.val : Int).tmod 16 = ((n.val % 16 : Nat) : Int) ∧ IntKind.u8.wrap (arv .add ((n.val % 16 : Nat) : Int) 1) = ((n.val % 16 + 1 : Nat) : Int) := by decide +kernel
theorem by_nib' (c : UInt8) : IntKind.u8.wrap ((c.toNat : Int).tdiv 16) = ((c.toNat / 16 : Nat) : Int) ∧ IntKind.u8.wrap (arv .add ((c.toNat / 16 : Nat) : Int) 1) = ((c.toNat / 16 + 1 : Nat) : Int) ∧ (c.toNat : Int).tmod 16 = ((c.toNat % 16 : Nat) : Int) ∧ IntKind.u8.wrap (arv .add ((c.toNat % 16 : Nat) : Int) 1) = ((c.toNat % 16 + 1 : Nat) : Int) := by_nib ⟨c.toNat, c.toNat_lt⟩
theorem dig_ext {i : Nat} (h : i < 16) : ((dig.drop i).take (i + 1 - i)) = [dig.getD i 0] := by
  have key : ∀ i : Fin 16, ((dig.drop i.val).take (i.val + 1 - i.val)) = [dig.getD i.val 0] := by decide
  exact key ⟨i, h⟩
theorem bys_get {l : Bs} {k : Nat} (h : k < l.length) : (bys l)[0 + k * 1]? = some (.int .u8 (l[k].toNat : Int)) := by
  rw [Nat.zero_add, Nat.mul_one]
  simp [bys, h]
section
variable {w w0 : World} {S0 : Nat → Prop} {L B : List Res} {K : Value → World → Prop} {s : Bs} {E0 E1 : Nat}
theorem r_digit {c : UInt8} (h : K (.int .i64 (dgI c)) w) : CK Tryz.prog 75 [.int .u8 (c.toNat : Int)] w K := by
  have hc := c.toNat_lt
  have e0 : UInt8.ofNat c.toNat = c := by simp
  have h1 := dg_lo ⟨c.toNat, hc⟩
  have h2 := dg_hi ⟨c.toNat, hc⟩
  have h3 := dg_no ⟨c.toNat, hc⟩
  dsimp only at h1 h2 h3
  rw [e0] at h1 h2 h3
  refine call_k Tryz.func75 k75 Tryz.ntmps75 (Nat.le_of_ble_eq_true rfl) ?_
  (repeat (first | refine g_sq ?_ | refine g_rg ?_ | refine g_r0 ?_ | refine g_ok rfl rfl ?_ | refine g_no rfl ?_ | refine g_no0 rfl ?_ | refine g_bk ?_ | refine g_b ?_ | refine g_sk ?_ | refine g_cT rfl ?_ | refine g_cF rfl ?_ | refine g_x rfl ?_ | refine g_lb ?_))
  by_cases a1 : 48 ≤ c.toNat ∧ c.toNat ≤ 57
  · obtain ⟨g1, g2⟩ := h1 a1.1 a1.2
    (generalize q1 : cmv _ _ _ = q; cases q <;> simp only [cmv, arv, Bool.not_eq_true', Bool.not_eq_false', decide_eq_true_eq, decide_eq_false_iff_not] at q1 <;> first | (exfalso; omega) | skip)
    (repeat (first | refine g_sq ?_ | refine g_rg ?_ | refine g_r0 ?_ | refine g_ok rfl rfl ?_ | refine g_no rfl ?_ | refine g_no0 rfl ?_ | refine g_bk ?_ | refine g_b ?_ | refine g_sk ?_ | refine g_cT rfl ?_ | refine g_cF rfl ?_ | refine g_x rfl ?_ | refine g_lb ?_))
    (generalize q2 : cmv _ _ _ = q; cases q <;> simp only [cmv, arv, Bool.not_eq_true', Bool.not_eq_false', decide_eq_true_eq, decide_eq_false_iff_not] at q2 <;> first | (exfalso; omega) | skip)
    (repeat (first | refine g_sq ?_ | refine g_rg ?_ | refine g_r0 ?_ | refine g_ok rfl rfl ?_ | refine g_no rfl ?_ | refine g_no0 rfl ?_ | refine g_bk ?_ | refine g_b ?_ | refine g_sk ?_ | refine g_cT rfl ?_ | refine g_cF rfl ?_ | refine g_x rfl ?_ | refine g_lb ?_))
    refine g_ret (q_1 rfl ?_)
    rw [g2]
    unfold dgI at h
    rw [if_pos g1] at h
    exact h
  · have e1 : ∀ (X : Prop), (48 ≤ c.toNat → c.toNat ≤ 57 → X) := fun X a b => absurd ⟨a, b⟩ a1
    by_cases a2 : 97 ≤ c.toNat ∧ c.toNat ≤ 102
    · obtain ⟨g1, g2, g3, g4⟩ := h2 a2.1 a2.2
      (generalize q1 : cmv _ _ _ = q; cases q <;> simp only [cmv, arv, Bool.not_eq_true', Bool.not_eq_false', decide_eq_true_eq, decide_eq_false_iff_not] at q1 <;> first | (exfalso; omega) | skip)
      (repeat (first | refine g_sq ?_ | refine g_rg ?_ | refine g_r0 ?_ | refine g_ok rfl rfl ?_ | refine g_no rfl ?_ | refine g_no0 rfl ?_ | refine g_bk ?_ | refine g_b ?_ | refine g_sk ?_ | refine g_cT rfl ?_ | refine g_cF rfl ?_ | refine g_x rfl ?_ | refine g_lb ?_))
      (generalize q2 : cmv _ _ _ = q; cases q <;> simp only [cmv, arv, Bool.not_eq_true', Bool.not_eq_false', decide_eq_true_eq, decide_eq_false_iff_not] at q2 <;> first | (exfalso; omega) | skip)
      (repeat (first | refine g_sq ?_ | refine g_rg ?_ | refine g_r0 ?_ | refine g_ok rfl rfl ?_ | refine g_no rfl ?_ | refine g_no0 rfl ?_ | refine g_bk ?_ | refine g_b ?_ | refine g_sk ?_ | refine g_cT rfl ?_ | refine g_cF rfl ?_ | refine g_x rfl ?_ | refine g_lb ?_))
      (generalize q3 : cmv _ _ _ = q; cases q <;> simp only [cmv, arv, Bool.not_eq_true', Bool.not_eq_false', decide_eq_true_eq, decide_eq_false_iff_not] at q3 <;> first | (exfalso; omega) | skip)
      (repeat (first | refine g_sq ?_ | refine g_rg ?_ | refine g_r0 ?_ | refine g_ok rfl rfl ?_ | refine g_no rfl ?_ | refine g_no0 rfl ?_ | refine g_bk ?_ | refine g_b ?_ | refine g_sk ?_ | refine g_cT rfl ?_ | refine g_cF rfl ?_ | refine g_x rfl ?_ | refine g_lb ?_))
      (generalize q4 : cmv _ _ _ = q; cases q <;> simp only [cmv, arv, Bool.not_eq_true', Bool.not_eq_false', decide_eq_true_eq, decide_eq_false_iff_not] at q4 <;> first | (exfalso; omega) | skip)
      (repeat (first | refine g_sq ?_ | refine g_rg ?_ | refine g_r0 ?_ | refine g_ok rfl rfl ?_ | refine g_no rfl ?_ | refine g_no0 rfl ?_ | refine g_bk ?_ | refine g_b ?_ | refine g_sk ?_ | refine g_cT rfl ?_ | refine g_cF rfl ?_ | refine g_x rfl ?_ | refine g_lb ?_))
      refine g_rq rfl rfl (in64 (by rw [g2]; have := dgv_lt g1; omega)) ?_
      (repeat (first | refine g_sq ?_ | refine g_rg ?_ | refine g_r0 ?_ | refine g_ok rfl rfl ?_ | refine g_no rfl ?_ | refine g_no0 rfl ?_ | refine g_bk ?_ | refine g_b ?_ | refine g_sk ?_ | refine g_cT rfl ?_ | refine g_cF rfl ?_ | refine g_x rfl ?_ | refine g_lb ?_))
      refine g_ret (q_1 rfl ?_)
      rw [g2]
      unfold dgI at h
      rw [if_pos g1] at h
      exact h
    · have g : isD c = false := by
        cases hD : isD c
        · rfl
        · rcases h3 hD with h | h
          · exact absurd h a1
          · exact absurd h a2
      unfold dgI at h
      rw [if_neg (by rw [g]; decide)] at h
      (generalize q1 : cmv _ _ _ = q; cases q <;> simp only [cmv, arv, Bool.not_eq_true', Bool.not_eq_false', decide_eq_true_eq, decide_eq_false_iff_not] at q1 <;> first | (exfalso; omega) | skip)
      · (repeat (first | refine g_sq ?_ | refine g_rg ?_ | refine g_r0 ?_ | refine g_ok rfl rfl ?_ | refine g_no rfl ?_ | refine g_no0 rfl ?_ | refine g_bk ?_ | refine g_b ?_ | refine g_sk ?_ | refine g_cT rfl ?_ | refine g_cF rfl ?_ | refine g_x rfl ?_ | refine g_lb ?_))
        (generalize q3 : cmv _ _ _ = q; cases q <;> simp only [cmv, arv, Bool.not_eq_true', Bool.not_eq_false', decide_eq_true_eq, decide_eq_false_iff_not] at q3 <;> first | (exfalso; omega) | skip)
        (repeat (first | refine g_sq ?_ | refine g_rg ?_ | refine g_r0 ?_ | refine g_ok rfl rfl ?_ | refine g_no rfl ?_ | refine g_no0 rfl ?_ | refine g_bk ?_ | refine g_b ?_ | refine g_sk ?_ | refine g_cT rfl ?_ | refine g_cF rfl ?_ | refine g_x rfl ?_ | refine g_lb ?_))
        exact g_ret (q_1 rfl h)
      · (repeat (first | refine g_sq ?_ | refine g_rg ?_ | refine g_r0 ?_ | refine g_ok rfl rfl ?_ | refine g_no rfl ?_ | refine g_no0 rfl ?_ | refine g_bk ?_ | refine g_b ?_ | refine g_sk ?_ | refine g_cT rfl ?_ | refine g_cF rfl ?_ | refine g_x rfl ?_ | refine g_lb ?_))
        (generalize q2 : cmv _ _ _ = q; cases q <;> simp only [cmv, arv, Bool.not_eq_true', Bool.not_eq_false', decide_eq_true_eq, decide_eq_false_iff_not] at q2 <;> first | (exfalso; omega) | skip)
        (repeat (first | refine g_sq ?_ | refine g_rg ?_ | refine g_r0 ?_ | refine g_ok rfl rfl ?_ | refine g_no rfl ?_ | refine g_no0 rfl ?_ | refine g_bk ?_ | refine g_b ?_ | refine g_sk ?_ | refine g_cT rfl ?_ | refine g_cF rfl ?_ | refine g_x rfl ?_ | refine g_lb ?_))
        (generalize q3 : cmv _ _ _ = q; cases q <;> simp only [cmv, arv, Bool.not_eq_true', Bool.not_eq_false', decide_eq_true_eq, decide_eq_false_iff_not] at q3 <;> first | (exfalso; omega) | skip)
        · (repeat (first | refine g_sq ?_ | refine g_rg ?_ | refine g_r0 ?_ | refine g_ok rfl rfl ?_ | refine g_no rfl ?_ | refine g_no0 rfl ?_ | refine g_bk ?_ | refine g_b ?_ | refine g_sk ?_ | refine g_cT rfl ?_ | refine g_cF rfl ?_ | refine g_x rfl ?_ | refine g_lb ?_))
          exact g_ret (q_1 rfl h)
        · (repeat (first | refine g_sq ?_ | refine g_rg ?_ | refine g_r0 ?_ | refine g_ok rfl rfl ?_ | refine g_no rfl ?_ | refine g_no0 rfl ?_ | refine g_bk ?_ | refine g_b ?_ | refine g_sk ?_ | refine g_cT rfl ?_ | refine g_cF rfl ?_ | refine g_x rfl ?_ | refine g_lb ?_))
          (generalize q4 : cmv _ _ _ = q; cases q <;> simp only [cmv, arv, Bool.not_eq_true', Bool.not_eq_false', decide_eq_true_eq, decide_eq_false_iff_not] at q4 <;> first | (exfalso; omega) | skip)
          (repeat (first | refine g_sq ?_ | refine g_rg ?_ | refine g_r0 ?_ | refine g_ok rfl rfl ?_ | refine g_no rfl ?_ | refine g_no0 rfl ?_ | refine g_bk ?_ | refine g_b ?_ | refine g_sk ?_ | refine g_cT rfl ?_ | refine g_cF rfl ?_ | refine g_x rfl ?_ | refine g_lb ?_))
          exact g_ret (q_1 rfl h)
theorem r_Text {id : Bs} (hl : id.length = 32) (h : ∀ w', St w (fun _ => False) w' [] → K (sv (hex id)) w') : CK Tryz.prog 59 [.agg ⟨bys id⟩] w K := by
  have hS := St.nil w (fun _ => False)
  refine call_k Tryz.func59 k59 Tryz.ntmps59 (Nat.le_of_ble_eq_true rfl) ?_
  (repeat (first | refine g_sq ?_ | refine g_rg ?_ | refine g_r0 ?_ | refine g_ok rfl rfl ?_ | refine g_no rfl ?_ | refine g_no0 rfl ?_ | refine g_bk ?_ | refine g_b ?_ | refine g_sk ?_ | refine g_cT rfl ?_ | refine g_cF rfl ?_ | refine g_x rfl ?_ | refine g_lb ?_))
  refine g_ef rfl (ef_bx hS rfl fun b1 w1 hS => ?_)
  replace hS : St w (fun _ => False) w1 [cel b1 (bys id) 35] := hS
  (repeat (first | refine g_sq ?_ | refine g_rg ?_ | refine g_r0 ?_ | refine g_ok rfl rfl ?_ | refine g_no rfl ?_ | refine g_no0 rfl ?_ | refine g_bk ?_ | refine g_b ?_ | refine g_sk ?_ | refine g_cT rfl ?_ | refine g_cF rfl ?_ | refine g_x rfl ?_ | refine g_lb ?_))
  refine g_lp (ι := Nat) (fun k => [(1, dp b1), (3, sv (hex (id.take k))), (4, .int .i64 k)]) (fun k w' => k ≤ 32 ∧ St w (fun _ => False) w' [cel b1 (bys id) 35]) (fun k => 32 - k) 0 ⟨rfl, rfl, rfl, trivial⟩ ⟨Nat.zero_le _, hS⟩ ?_
  clear hS
  rintro k w1 ⟨hk, hS⟩
  (repeat (first | refine g_sq ?_ | refine g_rg ?_ | refine g_r0 ?_ | refine g_ok rfl rfl ?_ | refine g_no rfl ?_ | refine g_no0 rfl ?_ | refine g_bk ?_ | refine g_b ?_ | refine g_sk ?_ | refine g_cT rfl ?_ | refine g_cF rfl ?_ | refine g_x rfl ?_ | refine g_lb ?_))
  (refine g_cd rfl (fun hc => ?_) (fun hc => ?_) <;> simp only [cmv, arv, Bool.not_eq_true', Bool.not_eq_false', decide_eq_true_eq, decide_eq_false_iff_not] at hc)
  · have hlt : k < id.length := by omega
    have hg := bys_get hlt
    obtain ⟨n1, n2, n3, n4⟩ := by_nib' id[k]
    have hb := id[k].toNat_lt
    (repeat (first | refine g_sq ?_ | refine g_rg ?_ | refine g_r0 ?_ | refine g_ok rfl rfl ?_ | refine g_no rfl ?_ | refine g_no0 rfl ?_ | refine g_bk ?_ | refine g_b ?_ | refine g_sk ?_ | refine g_cT rfl ?_ | refine g_cF rfl ?_ | refine g_x rfl ?_ | refine g_lb ?_))
    refine g_dr mixed ?_
    replace hS := hS.drew
    (repeat (first | refine d_ok rfl rfl rfl ?_ | refine d_no rfl rfl ?_))
    refine d_rq rfl rfl rfl ⟨by omega, by omega⟩ ?_
    refine d_l1 rfl rfl rfl (hS.b 0 rfl) (by rw [Int.toNat_natCast]; exact hg) ?_
    refine d_rq rfl rfl rfl (by decide) ?_
    rw [n1]
    (repeat (first | refine d_ok rfl rfl rfl ?_ | refine d_no rfl rfl ?_))
    refine d_rq rfl rfl rfl ⟨by omega, by omega⟩ ?_
    refine d_l1 rfl rfl rfl (hS.b 0 rfl) (by rw [Int.toNat_natCast]; exact hg) ?_
    refine d_rq rfl rfl rfl (by decide) ?_
    rw [n1]
    (repeat (first | refine d_ok rfl rfl rfl ?_ | refine d_no rfl rfl ?_))
    rw [n2]
    refine d_rq rfl rfl rfl ⟨by omega, by omega, by show ((id[k].toNat / 16 + 1 : Nat) : Int) ≤ 16; omega⟩ ?_
    refine d_rq rfl rfl rfl (by simp [Lib.size_eq, hex_len]; omega) ?_
    (repeat (first | refine d_ok rfl rfl rfl ?_ | refine d_no rfl rfl ?_))
    refine d_rq rfl rfl rfl ⟨by omega, by omega⟩ ?_
    refine d_l1 rfl rfl rfl (hS.b 0 rfl) (by rw [Int.toNat_natCast]; exact hg) ?_
    refine d_rq rfl rfl rfl (by decide) ?_
    rw [n3]
    (repeat (first | refine d_ok rfl rfl rfl ?_ | refine d_no rfl rfl ?_))
    refine d_rq rfl rfl rfl ⟨by omega, by omega⟩ ?_
    refine d_l1 rfl rfl rfl (hS.b 0 rfl) (by rw [Int.toNat_natCast]; exact hg) ?_
    refine d_rq rfl rfl rfl (by decide) ?_
    rw [n3]
    (repeat (first | refine d_ok rfl rfl rfl ?_ | refine d_no rfl rfl ?_))
    rw [n4]
    refine d_rq rfl rfl rfl ⟨by omega, by omega, by show ((id[k].toNat % 16 + 1 : Nat) : Int) ≤ 16; omega⟩ ?_
    refine d_rq rfl rfl rfl (by simp [Lib.size_eq, hex_len]; omega) ?_
    refine d_e rfl rfl ?_
    refine ef_qt ((pev_ok rfl).2 _) ⟨rc_0, ?_⟩
    refine d_fin ?_
    (repeat (first | refine g_sq ?_ | refine g_rg ?_ | refine g_r0 ?_ | refine g_ok rfl rfl ?_ | refine g_no rfl ?_ | refine g_no0 rfl ?_ | refine g_bk ?_ | refine g_b ?_ | refine g_sk ?_ | refine g_cT rfl ?_ | refine g_cF rfl ?_ | refine g_x rfl ?_ | refine g_lb ?_))
    refine g_rq rfl rfl (in64 (by simp only [arv]; omega)) ?_
    (repeat (first | refine g_sq ?_ | refine g_rg ?_ | refine g_r0 ?_ | refine g_ok rfl rfl ?_ | refine g_no rfl ?_ | refine g_no0 rfl ?_ | refine g_bk ?_ | refine g_b ?_ | refine g_sk ?_ | refine g_cT rfl ?_ | refine g_cF rfl ?_ | refine g_x rfl ?_ | refine g_lb ?_))
    refine g_l (k + 1) ⟨rfl, ?_, rfl, trivial⟩ ⟨by omega, hS⟩ (by omega)
    have hst : hex (id.take (k + 1)) = hex (id.take k) ++ hx id[k] := by
      rw [List.take_succ_eq_append_getElem hlt, hex_app]
      simp [hex]
    have x1 : (⟨dig.toArray⟩ : ByteArray).extract (id[k].toNat / 16) (id[k].toNat / 16 + 1) = ⟨[dig.getD (id[k].toNat / 16) 0].toArray⟩ := by
      have := sv_ext dig (id[k].toNat / 16) (id[k].toNat / 16 + 1)
      rw [dig_ext (by omega)] at this
      exact Value.string.inj this
    have x2 : (⟨dig.toArray⟩ : ByteArray).extract (id[k].toNat % 16) (id[k].toNat % 16 + 1) = ⟨[dig.getD (id[k].toNat % 16) 0].toArray⟩ := by
      have := sv_ext dig (id[k].toNat % 16) (id[k].toNat % 16 + 1)
      rw [dig_ext (by omega)] at this
      exact Value.string.inj this
    show some (Value.string (((⟨(hex (id.take k)).toArray⟩ : ByteArray) ++ (⟨dig.toArray⟩ : ByteArray).extract (Int.toNat ((id[k].toNat / 16 : Nat) : Int)) (Int.toNat ((id[k].toNat / 16 + 1 : Nat) : Int))) ++ (⟨dig.toArray⟩ : ByteArray).extract (Int.toNat ((id[k].toNat % 16 : Nat) : Int)) (Int.toNat ((id[k].toNat % 16 + 1 : Nat) : Int)))) = some (sv (hex (id.take (k + 1))))
    rw [Int.toNat_natCast, Int.toNat_natCast, Int.toNat_natCast, Int.toNat_natCast, x1, x2, hst]
    have a1 := Value.string.inj (sv_app2 (hex (id.take k)) [dig.getD (id[k].toNat / 16) 0])
    rw [a1, sv_app2, List.append_assoc]
    rfl
  · have e : id.take k = id := List.take_of_length_le (by omega)
    rw [e]
    (repeat (first | refine g_sq ?_ | refine g_rg ?_ | refine g_r0 ?_ | refine g_ok rfl rfl ?_ | refine g_no rfl ?_ | refine g_no0 rfl ?_ | refine g_bk ?_ | refine g_b ?_ | refine g_sk ?_ | refine g_cT rfl ?_ | refine g_cF rfl ?_ | refine g_x rfl ?_ | refine g_lb ?_))
    exact g_ret (q_1 rfl (h _ (hS.sel [] rfl rfl)))
end
end Go.Proofs.YtibofabkpgigoaaGreatDoor
namespace Go.Proofs.YtibofabkpgigoaaGreatDoor
open Go.En

/-- an id, when k pairs of digits were read -/
def idk (s : Bs) (k : Nat) : Bs := (List.range 32).map fun i => if i < k then UInt8.ofNat (16 * dgv (s.getD (2 * i) 0) + dgv (s.getD (2 * i + 1) 0)) else 0
theorem idk_len (s : Bs) (k : Nat) : (idk s k).length = 32 := by simp [idk]
theorem idk_0 (s : Bs) : idk s 0 = zid := by
  unfold idk zid
  refine List.ext_getElem (by simp) fun i h1 h2 => ?_
  rw [List.getElem_map, if_neg (Nat.not_lt_zero _), List.getElem_replicate]
theorem idk_32 (s : Bs) : idk s 32 = unh s := by
  unfold idk unh
  refine List.map_congr_left fun i hi => ?_
  rw [if_pos (List.mem_range.1 hi)]
theorem idk_set (s : Bs) {k : Nat} (h : k < 32) : (idk s k).set k (UInt8.ofNat (16 * dgv (s.getD (2 * k) 0) + dgv (s.getD (2 * k + 1) 0))) = idk s (k + 1) := by
  refine List.ext_getElem (by simp [idk]) fun i h1 h2 => ?_
  rw [List.getElem_set]
  by_cases e : k = i
  · subst e
    rw [if_pos rfl]
    simp [idk]
  · rw [if_neg e]
    simp only [idk, List.getElem_map, List.getElem_range]
    by_cases h3 : i < k
    · rw [if_pos h3, if_pos (by omega)]
    · rw [if_neg h3, if_neg (by omega)]
theorem dgI_pos {c : UInt8} (h : isD c = true) : dgI c = ((dgv c : Nat) : Int) := by unfold dgI; rw [if_pos h]
theorem dgI_neg {c : UInt8} (h : isD c = false) : dgI c = -1 := by unfold dgI; rw [if_neg (by rw [h]; decide)]
theorem cb_at {a b : Bs} {k : Nat} (hp : a.take k = b.take k) (ha : k < a.length) (hb : k < b.length) : Lib.compareBytes a b = if a[k] < b[k] then -1 else if b[k] < a[k] then 1 else Lib.compareBytes (a.drop (k + 1)) (b.drop (k + 1)) := by
  conv => lhs; rw [← List.take_append_drop k a, ← List.take_append_drop k b, hp, cb_app, List.drop_eq_getElem_cons ha, List.drop_eq_getElem_cons hb]
  rw [Lib.compareBytes]
section
variable {w w0 : World} {S0 : Nat → Prop} {L B : List Res} {K : Value → World → Prop} {s : Bs} {E0 E1 : Nat}
theorem r_Parse (h : ∀ w', St w (fun _ => False) w' [] → K (.tuple ⟨[.agg ⟨bys (unhV s)⟩, .int .i64 (unhE s)]⟩) w') : CK Tryz.prog 55 [sv s] w K := by
  have hS := St.nil w (fun _ => False)
  have l0 : (bys zid).length = 32 := by rw [bys_length, zid_len]
  have bad : unhex s = none → ∀ w', St w (fun _ => False) w' [] → K (.tuple ⟨[.agg ⟨bys zid⟩, .int .i64 30]⟩) w' := fun e w' hS => by
    unfold unhV unhE at h
    rw [e] at h
    exact h w' hS
  refine call_k Tryz.func55 k55 Tryz.ntmps55 (Nat.le_of_ble_eq_true rfl) ?_
  (repeat (first | refine g_sq ?_ | refine g_rg ?_ | refine g_r0 ?_ | refine g_ok rfl rfl ?_ | refine g_no rfl ?_ | refine g_no0 rfl ?_ | refine g_bk ?_ | refine g_b ?_ | refine g_sk ?_ | refine g_cT rfl ?_ | refine g_cF rfl ?_ | refine g_x rfl ?_ | refine g_lb ?_))
  refine g_ef rfl (ef_al hS fun b2 w1 hS => ?_)
  (repeat (first | refine g_sq ?_ | refine g_rg ?_ | refine g_r0 ?_ | refine g_ok rfl rfl ?_ | refine g_no rfl ?_ | refine g_no0 rfl ?_ | refine g_bk ?_ | refine g_b ?_ | refine g_sk ?_ | refine g_cT rfl ?_ | refine g_cF rfl ?_ | refine g_x rfl ?_ | refine g_lb ?_))
  refine g_ef rfl (ef_al hS fun b4 w1 hS => ?_)
  replace hS : St w (fun _ => False) w1 [cel b2 (bys zid) 35, cel b4 (bys zid) 35] := hS
  refine g_ef0 rfl (ef_st (u := .agg ⟨bys zid⟩) hS 1 rfl rfl rfl l0 (Nat.le_of_eq l0.symm) (by decide) fun w1 hS => ?_)
  replace hS := hS.ceq (l' := bys zid) 1 rfl (spl_full _ _ rfl)
  replace hS : St w (fun _ => False) w1 [cel b2 (bys zid) 35, cel b4 (bys zid) 35] := hS
  (repeat (first | refine g_sq ?_ | refine g_rg ?_ | refine g_r0 ?_ | refine g_ok rfl rfl ?_ | refine g_no rfl ?_ | refine g_no0 rfl ?_ | refine g_bk ?_ | refine g_b ?_ | refine g_sk ?_ | refine g_cT rfl ?_ | refine g_cF rfl ?_ | refine g_x rfl ?_ | refine g_lb ?_))
  have esz : (⟨s.toArray⟩ : ByteArray).size = s.length := by rw [Lib.size_eq]
  rw [esz]
  (refine g_cd rfl (fun hc => ?_) (fun hc => ?_) <;> simp only [cmv, arv, Bool.not_eq_true', Bool.not_eq_false', decide_eq_true_eq, decide_eq_false_iff_not] at hc)
  · have e : unhex s = none := by
      unfold unhex
      rw [if_neg]
      rintro ⟨h1, -⟩
      omega
    (repeat (first | refine g_sq ?_ | refine g_rg ?_ | refine g_r0 ?_ | refine g_ok rfl rfl ?_ | refine g_no rfl ?_ | refine g_no0 rfl ?_ | refine g_bk ?_ | refine g_b ?_ | refine g_sk ?_ | refine g_cT rfl ?_ | refine g_cF rfl ?_ | refine g_x rfl ?_ | refine g_lb ?_))
    refine g_lm rfl rfl (hS.b 1 rfl) (Nat.le_of_eq l0.symm) ?_
    rw [List.drop_zero, List.take_of_length_le (Nat.le_of_eq l0)]
    refine g_ef0 rfl (ef_st hS 0 rfl rfl rfl l0 (Nat.le_of_eq l0.symm) (by decide) fun w1 hS => ?_)
    replace hS := hS.ceq (l' := bys zid) 0 rfl (spl_full _ _ rfl)
    (repeat (first | refine g_sq ?_ | refine g_rg ?_ | refine g_r0 ?_ | refine g_ok rfl rfl ?_ | refine g_no rfl ?_ | refine g_no0 rfl ?_ | refine g_bk ?_ | refine g_b ?_ | refine g_sk ?_ | refine g_cT rfl ?_ | refine g_cF rfl ?_ | refine g_x rfl ?_ | refine g_lb ?_))
    refine g_ret (q_c2 (n := 32) rfl (by kernel_rfl) (hS.b 0 rfl) (Nat.le_of_eq l0.symm) rfl ?_)
    exact bad e _ (hS.sel [] rfl rfl)
  · have hl : s.length = 64 := by omega
    (repeat (first | refine g_sq ?_ | refine g_rg ?_ | refine g_r0 ?_ | refine g_ok rfl rfl ?_ | refine g_no rfl ?_ | refine g_no0 rfl ?_ | refine g_bk ?_ | refine g_b ?_ | refine g_sk ?_ | refine g_cT rfl ?_ | refine g_cF rfl ?_ | refine g_x rfl ?_ | refine g_lb ?_))
    refine g_lp (ι := Nat) (fun k => [(0, sv s), (2, dp b2), (3, .int .i64 0), (4, dp b4), (5, .int .i64 k)])
      (fun k w' => k ≤ 32 ∧ (∀ j, j < k → isD (s.getD (2 * j) 0) = true ∧ isD (s.getD (2 * j + 1) 0) = true) ∧ St w (fun _ => False) w' [cel b2 (bys zid) 35, cel b4 (bys (idk s k)) 35]) (fun k => 32 - k) 0
      ⟨rfl, rfl, rfl, rfl, rfl, trivial⟩ ⟨Nat.zero_le _, fun j h => absurd h (Nat.not_lt_zero j), by rw [idk_0]; exact hS⟩ ?_
    clear hS
    rintro k w1 ⟨hk, hd, hS⟩
    (repeat (first | refine g_sq ?_ | refine g_rg ?_ | refine g_r0 ?_ | refine g_ok rfl rfl ?_ | refine g_no rfl ?_ | refine g_no0 rfl ?_ | refine g_bk ?_ | refine g_b ?_ | refine g_sk ?_ | refine g_cT rfl ?_ | refine g_cF rfl ?_ | refine g_x rfl ?_ | refine g_lb ?_))
    (refine g_cd rfl (fun hlt => ?_) (fun hlt => ?_) <;> simp only [cmv, arv, Bool.not_eq_true', Bool.not_eq_false', decide_eq_true_eq, decide_eq_false_iff_not] at hlt)
    · have hlt : k < 32 := by omega
      have e1 : (arv BinOp.mul 2 (k : Int)).toNat = 2 * k := by simp only [arv]; omega
      have e2 : (arv BinOp.add (arv BinOp.mul 2 (k : Int)) 1).toNat = 2 * k + 1 := by simp only [arv]; omega
      have hsl : ((⟨s.toArray⟩ : ByteArray).data.toList.length : Int) = 64 := by
        have h9 : (⟨s.toArray⟩ : ByteArray).data.toList.length = s.length := rfl
        omega
      have bad1 : (isD (s.getD (2 * k) 0) = false ∨ isD (s.getD (2 * k + 1) 0) = false) → unhex s = none := fun h1 => by
        unfold unhex
        rw [if_neg]
        rintro ⟨-, h2⟩
        rw [List.all_eq_true] at h2
        rcases h1 with h1 | h1
        · have := h2 (s.getD (2 * k) 0) (by rw [List.getD_eq_getElem?_getD, List.getElem?_eq_getElem (by omega)]; exact List.getElem_mem _)
          rw [h1] at this
          cases this
        · have := h2 (s.getD (2 * k + 1) 0) (by rw [List.getD_eq_getElem?_getD, List.getElem?_eq_getElem (by omega)]; exact List.getElem_mem _)
          rw [h1] at this
          cases this
      (repeat (first | refine g_sq ?_ | refine g_rg ?_ | refine g_r0 ?_ | refine g_ok rfl rfl ?_ | refine g_no rfl ?_ | refine g_no0 rfl ?_ | refine g_bk ?_ | refine g_b ?_ | refine g_sk ?_ | refine g_cT rfl ?_ | refine g_cF rfl ?_ | refine g_x rfl ?_ | refine g_lb ?_))
      refine g_rq rfl rfl (in64 (by simp only [arv]; omega)) ?_
      refine g_rq rfl rfl ⟨by simp only [arv]; omega, by rw [hsl]; simp only [arv]; omega⟩ ?_
      rw [e1]
      refine g_cl rfl rfl (r_digit (c := s.getD (2 * k) 0) ?_)
      (repeat (first | refine g_sq ?_ | refine g_rg ?_ | refine g_r0 ?_ | refine g_ok rfl rfl ?_ | refine g_no rfl ?_ | refine g_no0 rfl ?_ | refine g_bk ?_ | refine g_b ?_ | refine g_sk ?_ | refine g_cT rfl ?_ | refine g_cF rfl ?_ | refine g_x rfl ?_ | refine g_lb ?_))
      refine g_rq rfl rfl (in64 (by simp only [arv]; omega)) ?_
      refine g_rq rfl rfl (in64 (by simp only [arv]; omega)) ?_
      refine g_rq rfl rfl ⟨by simp only [arv]; omega, by rw [hsl]; simp only [arv]; omega⟩ ?_
      rw [e2]
      refine g_cl rfl rfl (r_digit (c := s.getD (2 * k + 1) 0) ?_)
      (repeat (first | refine g_sq ?_ | refine g_rg ?_ | refine g_r0 ?_ | refine g_ok rfl rfl ?_ | refine g_no rfl ?_ | refine g_no0 rfl ?_ | refine g_bk ?_ | refine g_b ?_ | refine g_sk ?_ | refine g_cT rfl ?_ | refine g_cF rfl ?_ | refine g_x rfl ?_ | refine g_lb ?_))
      cases hA : isD (s.getD (2 * k) 0)
      · rw [dgI_neg hA]
        (repeat (first | refine g_sq ?_ | refine g_rg ?_ | refine g_r0 ?_ | refine g_ok rfl rfl ?_ | refine g_no rfl ?_ | refine g_no0 rfl ?_ | refine g_bk ?_ | refine g_b ?_ | refine g_sk ?_ | refine g_cT rfl ?_ | refine g_cF rfl ?_ | refine g_x rfl ?_ | refine g_lb ?_))
        refine g_ef0 rfl (ef_st (u := .agg ⟨bys zid⟩) hS 0 rfl rfl rfl l0 (Nat.le_of_eq l0.symm) (by decide) fun w1 hS => ?_)
        replace hS := hS.ceq (l' := bys zid) 0 rfl (spl_full _ _ rfl)
        (repeat (first | refine g_sq ?_ | refine g_rg ?_ | refine g_r0 ?_ | refine g_ok rfl rfl ?_ | refine g_no rfl ?_ | refine g_no0 rfl ?_ | refine g_bk ?_ | refine g_b ?_ | refine g_sk ?_ | refine g_cT rfl ?_ | refine g_cF rfl ?_ | refine g_x rfl ?_ | refine g_lb ?_))
        refine g_ret (q_c2 (n := 32) rfl (by kernel_rfl) (hS.b 0 rfl) (Nat.le_of_eq l0.symm) rfl ?_)
        exact bad (bad1 (.inl hA)) _ (hS.sel [] rfl rfl)
      · rw [dgI_pos hA]
        have hA1 := dgv_lt hA
        (generalize q1 : cmv _ _ _ = q; cases q <;> simp only [cmv, arv, Bool.not_eq_true', Bool.not_eq_false', decide_eq_true_eq, decide_eq_false_iff_not] at q1 <;> first | (exfalso; omega) | skip)
        (repeat (first | refine g_sq ?_ | refine g_rg ?_ | refine g_r0 ?_ | refine g_ok rfl rfl ?_ | refine g_no rfl ?_ | refine g_no0 rfl ?_ | refine g_bk ?_ | refine g_b ?_ | refine g_sk ?_ | refine g_cT rfl ?_ | refine g_cF rfl ?_ | refine g_x rfl ?_ | refine g_lb ?_))
        cases hB : isD (s.getD (2 * k + 1) 0)
        · rw [dgI_neg hB]
          (repeat (first | refine g_sq ?_ | refine g_rg ?_ | refine g_r0 ?_ | refine g_ok rfl rfl ?_ | refine g_no rfl ?_ | refine g_no0 rfl ?_ | refine g_bk ?_ | refine g_b ?_ | refine g_sk ?_ | refine g_cT rfl ?_ | refine g_cF rfl ?_ | refine g_x rfl ?_ | refine g_lb ?_))
          refine g_ef0 rfl (ef_st (u := .agg ⟨bys zid⟩) hS 0 rfl rfl rfl l0 (Nat.le_of_eq l0.symm) (by decide) fun w1 hS => ?_)
          replace hS := hS.ceq (l' := bys zid) 0 rfl (spl_full _ _ rfl)
          (repeat (first | refine g_sq ?_ | refine g_rg ?_ | refine g_r0 ?_ | refine g_ok rfl rfl ?_ | refine g_no rfl ?_ | refine g_no0 rfl ?_ | refine g_bk ?_ | refine g_b ?_ | refine g_sk ?_ | refine g_cT rfl ?_ | refine g_cF rfl ?_ | refine g_x rfl ?_ | refine g_lb ?_))
          refine g_ret (q_c2 (n := 32) rfl (by kernel_rfl) (hS.b 0 rfl) (Nat.le_of_eq l0.symm) rfl ?_)
          exact bad (bad1 (.inr hB)) _ (hS.sel [] rfl rfl)
        · rw [dgI_pos hB]
          have hB1 := dgv_lt hB
          (generalize q2 : cmv _ _ _ = q; cases q <;> simp only [cmv, arv, Bool.not_eq_true', Bool.not_eq_false', decide_eq_true_eq, decide_eq_false_iff_not] at q2 <;> first | (exfalso; omega) | skip)
          (repeat (first | refine g_sq ?_ | refine g_rg ?_ | refine g_r0 ?_ | refine g_ok rfl rfl ?_ | refine g_no rfl ?_ | refine g_no0 rfl ?_ | refine g_bk ?_ | refine g_b ?_ | refine g_sk ?_ | refine g_cT rfl ?_ | refine g_cF rfl ?_ | refine g_x rfl ?_ | refine g_lb ?_))
          refine g_rq rfl rfl (in64 (by simp only [arv]; omega)) ?_
          (repeat (first | refine g_sq ?_ | refine g_rg ?_ | refine g_r0 ?_ | refine g_ok rfl rfl ?_ | refine g_no rfl ?_ | refine g_no0 rfl ?_ | refine g_bk ?_ | refine g_b ?_ | refine g_sk ?_ | refine g_cT rfl ?_ | refine g_cF rfl ?_ | refine g_x rfl ?_ | refine g_lb ?_))
          refine g_rq rfl rfl (in64 (by simp only [arv]; omega)) ?_
          (repeat (first | refine g_sq ?_ | refine g_rg ?_ | refine g_r0 ?_ | refine g_ok rfl rfl ?_ | refine g_no rfl ?_ | refine g_no0 rfl ?_ | refine g_bk ?_ | refine g_b ?_ | refine g_sk ?_ | refine g_cT rfl ?_ | refine g_cF rfl ?_ | refine g_x rfl ?_ | refine g_lb ?_))
          refine g_rq rfl rfl ⟨by omega, by omega⟩ ?_
          have hv : IntKind.u8.wrap (arv BinOp.add (arv BinOp.mul 16 ((dgv (s.getD (2 * k) 0) : Nat) : Int)) ((dgv (s.getD (2 * k + 1) 0) : Nat) : Int)) = ((UInt8.ofNat (16 * dgv (s.getD (2 * k) 0) + dgv (s.getD (2 * k + 1) 0))).toNat : Int) := by
            have e3 : arv BinOp.add (arv BinOp.mul 16 ((dgv (s.getD (2 * k) 0) : Nat) : Int)) ((dgv (s.getD (2 * k + 1) 0) : Nat) : Int) = ((16 * dgv (s.getD (2 * k) 0) + dgv (s.getD (2 * k + 1) 0) : Nat) : Int) := by simp only [arv]; omega
            have e4 : (UInt8.ofNat (16 * dgv (s.getD (2 * k) 0) + dgv (s.getD (2 * k + 1) 0))).toNat = 16 * dgv (s.getD (2 * k) 0) + dgv (s.getD (2 * k + 1) 0) := by
              rw [UInt8.toNat_ofNat']
              omega
            rw [e3, e4, wrap_in]
            have h7 := (UInt8.ofNat (16 * dgv (s.getD (2 * k) 0) + dgv (s.getD (2 * k + 1) 0))).toNat_lt
            have h8 : (16 * dgv (s.getD (2 * k) 0) + dgv (s.getD (2 * k + 1) 0) : Nat) < 256 := by omega
            exact ⟨by show (0 : Int) ≤ _; omega, by show _ ≤ (255 : Int); omega⟩
          rw [hv]
          refine g_ef0 rfl (ef_st hS 1 rfl rfl rfl rfl (by rw [bys_length, idk_len, Int.toNat_natCast]; show 0 + k * 1 + 1 ≤ 32; omega) rfl fun w1 hS => ?_)
          have hcs := bys_set (idk s k) [] k (UInt8.ofNat (16 * dgv (s.getD (2 * k) 0) + dgv (s.getD (2 * k + 1) 0))) (by rw [idk_len]; exact hlt)
          rw [List.append_nil, List.append_nil, idk_set s hlt] at hcs
          replace hS := hS.ceq (l' := bys (idk s (k + 1))) 1 rfl (by rw [Int.toNat_natCast]; exact hcs)
          (repeat (first | refine g_sq ?_ | refine g_rg ?_ | refine g_r0 ?_ | refine g_ok rfl rfl ?_ | refine g_no rfl ?_ | refine g_no0 rfl ?_ | refine g_bk ?_ | refine g_b ?_ | refine g_sk ?_ | refine g_cT rfl ?_ | refine g_cF rfl ?_ | refine g_x rfl ?_ | refine g_lb ?_))
          refine g_rq rfl rfl (in64 (by simp only [arv]; omega)) ?_
          (repeat (first | refine g_sq ?_ | refine g_rg ?_ | refine g_r0 ?_ | refine g_ok rfl rfl ?_ | refine g_no rfl ?_ | refine g_no0 rfl ?_ | refine g_bk ?_ | refine g_b ?_ | refine g_sk ?_ | refine g_cT rfl ?_ | refine g_cF rfl ?_ | refine g_x rfl ?_ | refine g_lb ?_))
          refine g_l (k + 1) ⟨rfl, rfl, rfl, rfl, rfl, trivial⟩ ⟨by omega, fun j hj => ?_, hS⟩ (by omega)
          by_cases e : j = k
          · subst e; exact ⟨hA, hB⟩
          · exact hd j (by omega)
    · have ek : k = 32 := by omega
      subst ek
      rw [idk_32] at hS
      have e : unhex s = some (unh s) := by
        have hall : s.all isD = true := by
         rw [List.all_eq_true]
         intro x hx
         obtain ⟨i, hi, rfl⟩ := List.getElem_of_mem hx
         have hi2 : i < 64 := by omega
         have := hd (i / 2) (by omega)
         have hg : s[i] = s.getD i 0 := by rw [List.getD_eq_getElem?_getD, List.getElem?_eq_getElem hi]; rfl
         rw [hg]
         rcases Nat.mod_two_eq_zero_or_one i with h0 | h0
         · have e5 : i = 2 * (i / 2) := by omega
           rw [e5]; exact this.1
         · have e5 : i = 2 * (i / 2) + 1 := by omega
           rw [e5]; exact this.2
        unfold unhex
        rw [if_pos ⟨hl, hall⟩]
      have l1 : (bys (unh s)).length = 32 := by rw [bys_length]; simp [unh]
      unfold unhV unhE at h
      rw [e] at h
      (repeat (first | refine g_sq ?_ | refine g_rg ?_ | refine g_r0 ?_ | refine g_ok rfl rfl ?_ | refine g_no rfl ?_ | refine g_no0 rfl ?_ | refine g_bk ?_ | refine g_b ?_ | refine g_sk ?_ | refine g_cT rfl ?_ | refine g_cF rfl ?_ | refine g_x rfl ?_ | refine g_lb ?_))
      refine g_lm rfl rfl (hS.b 1 rfl) (Nat.le_of_eq l1.symm) ?_
      rw [List.drop_zero, List.take_of_length_le (Nat.le_of_eq l1)]
      refine g_ef0 rfl (ef_st hS 0 rfl rfl rfl l1 (Nat.le_of_eq l0.symm) (bys_one _) fun w1 hS => ?_)
      replace hS := hS.ceq (l' := bys (unh s)) 0 rfl (spl_full _ _ (l1.trans l0.symm))
      (repeat (first | refine g_sq ?_ | refine g_rg ?_ | refine g_r0 ?_ | refine g_ok rfl rfl ?_ | refine g_no rfl ?_ | refine g_no0 rfl ?_ | refine g_bk ?_ | refine g_b ?_ | refine g_sk ?_ | refine g_cT rfl ?_ | refine g_cF rfl ?_ | refine g_x rfl ?_ | refine g_lb ?_))
      refine g_ret (q_c2 (n := 32) rfl (by kernel_rfl) (hS.b 0 rfl) (Nat.le_of_eq l1.symm) rfl ?_)
      rw [List.drop_zero, List.take_of_length_le (Nat.le_of_eq l1)]
      exact h _ (hS.sel [] rfl rfl)
theorem r_Compare {a b : Bs} (ha : a.length = 32) (hb : b.length = 32) (h : ∀ w', St w (fun _ => False) w' [] → K (.int .i64 (Lib.compareBytes a b)) w') : CK Tryz.prog 78 [.agg ⟨bys a⟩, .agg ⟨bys b⟩] w K := by
  have hS := St.nil w (fun _ => False)
  refine call_k Tryz.func78 k78 Tryz.ntmps78 (Nat.le_of_ble_eq_true rfl) ?_
  (repeat (first | refine g_sq ?_ | refine g_rg ?_ | refine g_r0 ?_ | refine g_ok rfl rfl ?_ | refine g_no rfl ?_ | refine g_no0 rfl ?_ | refine g_bk ?_ | refine g_b ?_ | refine g_sk ?_ | refine g_cT rfl ?_ | refine g_cF rfl ?_ | refine g_x rfl ?_ | refine g_lb ?_))
  refine g_ef rfl (ef_bx hS rfl fun b1 w1 hS => ?_)
  refine g_ef rfl (ef_bx hS rfl fun b2 w1 hS => ?_)
  replace hS : St w (fun _ => False) w1 [cel b1 (bys a) 35, cel b2 (bys b) 35] := hS
  (repeat (first | refine g_sq ?_ | refine g_rg ?_ | refine g_r0 ?_ | refine g_ok rfl rfl ?_ | refine g_no rfl ?_ | refine g_no0 rfl ?_ | refine g_bk ?_ | refine g_b ?_ | refine g_sk ?_ | refine g_cT rfl ?_ | refine g_cF rfl ?_ | refine g_x rfl ?_ | refine g_lb ?_))
  refine g_lp (ι := Nat) (fun k => [(2, dp b1), (3, dp b2), (5, .int .i64 k)]) (fun k w' => k ≤ 32 ∧ a.take k = b.take k ∧ St w (fun _ => False) w' [cel b1 (bys a) 35, cel b2 (bys b) 35]) (fun k => 32 - k) 0 ⟨rfl, rfl, rfl, trivial⟩ ⟨Nat.zero_le _, rfl, hS⟩ ?_
  clear hS
  rintro k w1 ⟨hk, hP, hS⟩
  (repeat (first | refine g_sq ?_ | refine g_rg ?_ | refine g_r0 ?_ | refine g_ok rfl rfl ?_ | refine g_no rfl ?_ | refine g_no0 rfl ?_ | refine g_bk ?_ | refine g_b ?_ | refine g_sk ?_ | refine g_cT rfl ?_ | refine g_cF rfl ?_ | refine g_x rfl ?_ | refine g_lb ?_))
  (refine g_cd rfl (fun hc => ?_) (fun hc => ?_) <;> simp only [cmv, arv, Bool.not_eq_true', Bool.not_eq_false', decide_eq_true_eq, decide_eq_false_iff_not] at hc)
  · have hka : k < a.length := by omega
    have hkb : k < b.length := by omega
    have hcb := cb_at hP hka hkb
    (repeat (first | refine g_sq ?_ | refine g_rg ?_ | refine g_r0 ?_ | refine g_ok rfl rfl ?_ | refine g_no rfl ?_ | refine g_no0 rfl ?_ | refine g_bk ?_ | refine g_b ?_ | refine g_sk ?_ | refine g_cT rfl ?_ | refine g_cF rfl ?_ | refine g_x rfl ?_ | refine g_lb ?_))
    refine g_dr mixed ?_
    replace hS := hS.drew
    (repeat (first | refine d_ok rfl rfl rfl ?_ | refine d_no rfl rfl ?_))
    refine d_rq rfl rfl rfl ⟨by omega, by omega⟩ ?_
    refine d_l1 rfl rfl rfl (hS.b 0 rfl) (by rw [Int.toNat_natCast]; exact bys_get hka) ?_
    (repeat (first | refine d_ok rfl rfl rfl ?_ | refine d_no rfl rfl ?_))
    refine d_rq rfl rfl rfl ⟨by omega, by omega⟩ ?_
    refine d_l1 rfl rfl rfl (hS.b 1 rfl) (by rw [Int.toNat_natCast]; exact bys_get hkb) ?_
    (repeat (first | refine d_ok rfl rfl rfl ?_ | refine d_no rfl rfl ?_))
    refine d_fin ?_
    (refine g_cd rfl (fun h1 => ?_) (fun h1 => ?_) <;> simp only [cmv, arv, Bool.not_eq_true', Bool.not_eq_false', decide_eq_true_eq, decide_eq_false_iff_not] at h1)
    · (repeat (first | refine g_sq ?_ | refine g_rg ?_ | refine g_r0 ?_ | refine g_ok rfl rfl ?_ | refine g_no rfl ?_ | refine g_no0 rfl ?_ | refine g_bk ?_ | refine g_b ?_ | refine g_sk ?_ | refine g_cT rfl ?_ | refine g_cF rfl ?_ | refine g_x rfl ?_ | refine g_lb ?_))
      rw [if_pos (UInt8.lt_iff_toNat_lt.2 (by omega))] at hcb
      refine g_ret (q_1 rfl ?_)
      rw [hcb] at h
      exact h _ (hS.sel [] rfl rfl)
    · rw [if_neg (fun h => h1 (by have := UInt8.lt_iff_toNat_lt.1 h; omega))] at hcb
      (repeat (first | refine g_sq ?_ | refine g_rg ?_ | refine g_r0 ?_ | refine g_ok rfl rfl ?_ | refine g_no rfl ?_ | refine g_no0 rfl ?_ | refine g_bk ?_ | refine g_b ?_ | refine g_sk ?_ | refine g_cT rfl ?_ | refine g_cF rfl ?_ | refine g_x rfl ?_ | refine g_lb ?_))
      refine g_dr mixed ?_
      replace hS := hS.drew
      (repeat (first | refine d_ok rfl rfl rfl ?_ | refine d_no rfl rfl ?_))
      refine d_rq rfl rfl rfl ⟨by omega, by omega⟩ ?_
      refine d_l1 rfl rfl rfl (hS.b 0 rfl) (by rw [Int.toNat_natCast]; exact bys_get hka) ?_
      (repeat (first | refine d_ok rfl rfl rfl ?_ | refine d_no rfl rfl ?_))
      refine d_rq rfl rfl rfl ⟨by omega, by omega⟩ ?_
      refine d_l1 rfl rfl rfl (hS.b 1 rfl) (by rw [Int.toNat_natCast]; exact bys_get hkb) ?_
      (repeat (first | refine d_ok rfl rfl rfl ?_ | refine d_no rfl rfl ?_))
      refine d_fin ?_
      (refine g_cd rfl (fun h2 => ?_) (fun h2 => ?_) <;> simp only [cmv, arv, Bool.not_eq_true', Bool.not_eq_false', decide_eq_true_eq, decide_eq_false_iff_not] at h2)
      · (repeat (first | refine g_sq ?_ | refine g_rg ?_ | refine g_r0 ?_ | refine g_ok rfl rfl ?_ | refine g_no rfl ?_ | refine g_no0 rfl ?_ | refine g_bk ?_ | refine g_b ?_ | refine g_sk ?_ | refine g_cT rfl ?_ | refine g_cF rfl ?_ | refine g_x rfl ?_ | refine g_lb ?_))
        rw [if_pos (UInt8.lt_iff_toNat_lt.2 (by omega))] at hcb
        refine g_ret (q_1 rfl ?_)
        rw [hcb] at h
        exact h _ (hS.sel [] rfl rfl)
      · (repeat (first | refine g_sq ?_ | refine g_rg ?_ | refine g_r0 ?_ | refine g_ok rfl rfl ?_ | refine g_no rfl ?_ | refine g_no0 rfl ?_ | refine g_bk ?_ | refine g_b ?_ | refine g_sk ?_ | refine g_cT rfl ?_ | refine g_cF rfl ?_ | refine g_x rfl ?_ | refine g_lb ?_))
        refine g_rq rfl rfl (in64 (by simp only [arv]; omega)) ?_
        (repeat (first | refine g_sq ?_ | refine g_rg ?_ | refine g_r0 ?_ | refine g_ok rfl rfl ?_ | refine g_no rfl ?_ | refine g_no0 rfl ?_ | refine g_bk ?_ | refine g_b ?_ | refine g_sk ?_ | refine g_cT rfl ?_ | refine g_cF rfl ?_ | refine g_x rfl ?_ | refine g_lb ?_))
        have e : a[k] = b[k] := UInt8.toNat_inj.1 (by omega)
        refine g_l (k + 1) ⟨rfl, rfl, rfl, trivial⟩ ⟨by omega, ?_, hS⟩ (by omega)
        rw [List.take_succ_eq_append_getElem hka, List.take_succ_eq_append_getElem hkb, hP, e]
  · rw [List.take_of_length_le (by omega), List.take_of_length_le (by omega)] at hP
    subst hP
    rw [cb_self] at h
    (repeat (first | refine g_sq ?_ | refine g_rg ?_ | refine g_r0 ?_ | refine g_ok rfl rfl ?_ | refine g_no rfl ?_ | refine g_no0 rfl ?_ | refine g_bk ?_ | refine g_b ?_ | refine g_sk ?_ | refine g_cT rfl ?_ | refine g_cF rfl ?_ | refine g_x rfl ?_ | refine g_lb ?_))
    exact g_ret (q_1 rfl (h _ (hS.sel [] rfl rfl)))
theorem r_Has {x : Id} {v : Value} {n : Nat} {d : List Id} (hd : d.length = n) (hn : n < 2000000) (hr : Rd v E0 32 n (fl ic d) w) (h : ∀ w', St w (fun _ => False) w' [] → K (.bool (decide (x ∈ d))) w') : CK Tryz.prog 77 [v, .agg ⟨bys x.1⟩] w K := by
  have hS := St.nil w (fun _ => False)
  have hrr : ∀ {L : List Res} (w' : World), St w (fun _ => False) w' L → Rd v E0 32 n (fl ic d) w' := fun w' hS => hr.same fun b hb => hS.fr.kept b (hr.lt b hb) (fun h => h)
  obtain ⟨a, c, rfl⟩ := hr.form
  have lx := ic_len x
  refine call_k Tryz.func77 k77 Tryz.ntmps77 (Nat.le_of_ble_eq_true rfl) ?_
  (repeat (first | refine g_sq ?_ | refine g_rg ?_ | refine g_r0 ?_ | refine g_ok rfl rfl ?_ | refine g_no rfl ?_ | refine g_no0 rfl ?_ | refine g_bk ?_ | refine g_b ?_ | refine g_sk ?_ | refine g_cT rfl ?_ | refine g_cF rfl ?_ | refine g_x rfl ?_ | refine g_lb ?_))
  refine g_ef rfl (ef_bx hS rfl fun b1 w1 hS => ?_)
  replace hS : St w (fun _ => False) w1 [cel b1 (ic x) 35] := hS
  (repeat (first | refine g_sq ?_ | refine g_rg ?_ | refine g_r0 ?_ | refine g_ok rfl rfl ?_ | refine g_no rfl ?_ | refine g_no0 rfl ?_ | refine g_bk ?_ | refine g_b ?_ | refine g_sk ?_ | refine g_cT rfl ?_ | refine g_cF rfl ?_ | refine g_x rfl ?_ | refine g_lb ?_))
  refine g_lp (ι := Nat) (fun k => [(0, .slice a n c), (3, dp b1), (5, .int .i64 k)]) (fun k w' => k ≤ n ∧ (∀ j (hj : j < d.length), j < k → d[j] ≠ x) ∧ St w (fun _ => False) w' [cel b1 (ic x) 35]) (fun k => n - k) 0 ⟨rfl, rfl, rfl, trivial⟩ ⟨Nat.zero_le _, fun j _ h => absurd h (Nat.not_lt_zero j), hS⟩ ?_
  clear hS
  rintro k w1 ⟨hk, hP, hS⟩
  (repeat (first | refine g_sq ?_ | refine g_rg ?_ | refine g_r0 ?_ | refine g_ok rfl rfl ?_ | refine g_no rfl ?_ | refine g_no0 rfl ?_ | refine g_bk ?_ | refine g_b ?_ | refine g_sk ?_ | refine g_cT rfl ?_ | refine g_cF rfl ?_ | refine g_x rfl ?_ | refine g_lb ?_))
  (refine g_cd rfl (fun hc => ?_) (fun hc => ?_) <;> simp only [cmv, arv, Bool.not_eq_true', Bool.not_eq_false', decide_eq_true_eq, decide_eq_false_iff_not] at hc)
  · have hlt : k < d.length := by omega
    obtain ⟨b, off, cap, l, e1, hcap, hl, hx, hb⟩ := Rd.block (hrr _ hS.drew) (by omega)
    cases e1
    have hbd : off + k * 32 + 32 ≤ l.length := by have : (k + 1) * 32 ≤ c * 32 := Nat.mul_le_mul_right 32 (by omega); omega
    (repeat (first | refine g_sq ?_ | refine g_rg ?_ | refine g_r0 ?_ | refine g_ok rfl rfl ?_ | refine g_no rfl ?_ | refine g_no0 rfl ?_ | refine g_bk ?_ | refine g_b ?_ | refine g_sk ?_ | refine g_cT rfl ?_ | refine g_cF rfl ?_ | refine g_x rfl ?_ | refine g_lb ?_))
    refine g_dr mixed ?_
    replace hS := hS.drew
    (repeat (first | refine d_ok rfl rfl rfl ?_ | refine d_no rfl rfl ?_))
    refine d_rq rfl rfl rfl ⟨by omega, by omega⟩ ?_
    refine d_qt rfl rfl rfl (qt_ldmr rfl hb (by rw [Int.toNat_natCast]; exact hbd)) ?_
    rw [Int.toNat_natCast, rd_at ic_len hx hd hlt]
    refine d_lm rfl rfl rfl (hS.b 0 rfl) (Nat.le_of_eq lx.symm) ?_
    rw [List.drop_zero, List.take_of_length_le (Nat.le_of_eq lx)]
    refine d_qt rfl rfl rfl (qt_aq (a := d[k].1) (b := x.1) rfl rfl d[k].2 x.2) ?_
    refine d_fin ?_
    refine g_cd rfl (fun hq => ?_) (fun hq => ?_)
    · have e : d[k] = x := Subtype.ext (of_decide_eq_true hq)
      have e2 : decide (x ∈ d) = true := decide_eq_true (by rw [← e]; exact List.getElem_mem _)
      rw [e2] at h
      (repeat (first | refine g_sq ?_ | refine g_rg ?_ | refine g_r0 ?_ | refine g_ok rfl rfl ?_ | refine g_no rfl ?_ | refine g_no0 rfl ?_ | refine g_bk ?_ | refine g_b ?_ | refine g_sk ?_ | refine g_cT rfl ?_ | refine g_cF rfl ?_ | refine g_x rfl ?_ | refine g_lb ?_))
      exact g_ret (q_1 rfl (h _ (hS.sel [] rfl rfl)))
    · have e : d[k] ≠ x := fun e => of_decide_eq_false hq (by rw [e])
      (repeat (first | refine g_sq ?_ | refine g_rg ?_ | refine g_r0 ?_ | refine g_ok rfl rfl ?_ | refine g_no rfl ?_ | refine g_no0 rfl ?_ | refine g_bk ?_ | refine g_b ?_ | refine g_sk ?_ | refine g_cT rfl ?_ | refine g_cF rfl ?_ | refine g_x rfl ?_ | refine g_lb ?_))
      refine g_rq rfl rfl (in64 (by simp only [arv]; omega)) ?_
      (repeat (first | refine g_sq ?_ | refine g_rg ?_ | refine g_r0 ?_ | refine g_ok rfl rfl ?_ | refine g_no rfl ?_ | refine g_no0 rfl ?_ | refine g_bk ?_ | refine g_b ?_ | refine g_sk ?_ | refine g_cT rfl ?_ | refine g_cF rfl ?_ | refine g_x rfl ?_ | refine g_lb ?_))
      refine g_l (k + 1) ⟨rfl, rfl, rfl, trivial⟩ ⟨by omega, fun j hj hjk => ?_, hS⟩ (by omega)
      by_cases e2 : j = k
      · subst e2; exact e
      · exact hP j hj (by omega)
  · have e2 : decide (x ∈ d) = false := decide_eq_false fun hm => by
      obtain ⟨j, hj, e⟩ := List.getElem_of_mem hm
      exact hP j hj (by omega) e
    rw [e2] at h
    (repeat (first | refine g_sq ?_ | refine g_rg ?_ | refine g_r0 ?_ | refine g_ok rfl rfl ?_ | refine g_no rfl ?_ | refine g_no0 rfl ?_ | refine g_bk ?_ | refine g_b ?_ | refine g_sk ?_ | refine g_cT rfl ?_ | refine g_cF rfl ?_ | refine g_x rfl ?_ | refine g_lb ?_))
    exact g_ret (q_1 rfl (h _ (hS.sel [] rfl rfl)))
end
end Go.Proofs.YtibofabkpgigoaaGreatDoor
namespace Go.Proofs.YtibofabkpgigoaaGreatDoor
open Go.En

theorem set_ins {o : List Id} {x : Id} {j : Nat} (ho : o.Pairwise (lts fun x : Id => x.1)) (hx : x ∉ o) (h1 : ∀ i (hi : i < o.length), i < j → Lib.compareBytes o[i].1 x.1 < 0) (h2 : ∀ hj : j < o.length, ¬ Lib.compareBytes o[j].1 x.1 < 0) :
    (insAt o j x).Pairwise (lts fun x : Id => x.1) := by
  refine insAt_pw ho (fun a ha => ?_) (fun b hb => ?_)
  · obtain ⟨i, hi, e⟩ := List.mem_take_iff_getElem.1 ha
    have h3 := h1 i (by omega) (by omega)
    rw [e] at h3
    refine ⟨?_, fun e => hx (by rw [← e]; exact List.mem_of_mem_take ha)⟩
    show ble a.1 x.1 = true
    unfold ble
    rw [decide_eq_true_eq]
    omega
  · obtain ⟨hj, hb2⟩ := drop_pw ho hb
    have h3 := h2 hj
    have hle : ble x.1 o[j].1 = true := by
      unfold ble
      rw [decide_eq_true_eq]
      have := cb_neg o[j].1 x.1
      omega
    refine ⟨?_, fun e => hx (by rw [e]; exact List.mem_of_mem_drop hb)⟩
    rcases hb2 with rfl | hb2
    · exact hle
    · exact ble_trans hle hb2.1
section
variable {w w0 : World} {S0 : Nat → Prop} {L B : List Res} {K : Value → World → Prop} {s : Bs} {E0 E1 : Nat}
set_option maxHeartbeats 4000000 in
theorem r_Set {v : Value} {n : Nat} {d : List Id} (hd : d.length = n) (hn : n < 2000000) (hr : Rd v E0 32 n (fl ic d) w) (h : ∀ v' w', St w (fun _ => False) w' [row v' 35 32 (iset d).length (fl ic (iset d))] → K v' w') : CK Tryz.prog 58 [v] w K := by
  have hS := St.nil w (fun _ => False)
  have hrr : ∀ {L : List Res} (w' : World), St w (fun _ => False) w' L → Rd v E0 32 n (fl ic d) w' := fun w' hS => hr.same fun b hb => hS.fr.kept b (hr.lt b hb) (fun h => h)
  obtain ⟨a, c, rfl⟩ := hr.form
  refine call_k Tryz.func58 k58 Tryz.ntmps58 (Nat.le_of_ble_eq_true rfl) ?_
  (repeat (first | refine g_sq ?_ | refine g_rg ?_ | refine g_r0 ?_ | refine g_ok rfl rfl ?_ | refine g_no rfl ?_ | refine g_no0 rfl ?_ | refine g_bk ?_ | refine g_b ?_ | refine g_sk ?_ | refine g_cT rfl ?_ | refine g_cF rfl ?_ | refine g_x rfl ?_ | refine g_lb ?_))
  refine g_lp (ι := Nat × Value × List Id) (fun x => [(0, .slice a n c), (3, x.2.1), (4, .int .i64 x.1)]) (fun x w' => x.1 ≤ n ∧ x.2.2.length ≤ x.1 ∧ x.2.2.Pairwise (lts fun x : Id => x.1) ∧ (∀ y, y ∈ x.2.2 ↔ y ∈ d.take x.1) ∧ St w (fun _ => False) w' [row x.2.1 35 32 x.2.2.length (fl ic x.2.2)]) (fun x => n - x.1) (0, .slice none 0 0, [])
    ⟨rfl, rfl, rfl, trivial⟩ ⟨Nat.zero_le _, Nat.zero_le _, List.Pairwise.nil, fun y => Iff.rfl, hS.nilrow 35 32⟩ ?_
  clear hS
  rintro ⟨k, vo, o⟩ w1 ⟨hk, hol, ho, hm, hS⟩
  dsimp only at hk hol ho hm hS ⊢
  (repeat (first | refine g_sq ?_ | refine g_rg ?_ | refine g_r0 ?_ | refine g_ok rfl rfl ?_ | refine g_no rfl ?_ | refine g_no0 rfl ?_ | refine g_bk ?_ | refine g_b ?_ | refine g_sk ?_ | refine g_cT rfl ?_ | refine g_cF rfl ?_ | refine g_x rfl ?_ | refine g_lb ?_))
  (refine g_cd rfl (fun hc => ?_) (fun hc => ?_) <;> simp only [cmv, arv, Bool.not_eq_true', Bool.not_eq_false', decide_eq_true_eq, decide_eq_false_iff_not] at hc)
  · have hlt : k < d.length := by omega
    obtain ⟨b, off, cap, l, e1, hcap, hl, hx, hb⟩ := Rd.block (hrr _ hS) (by omega)
    cases e1
    have hbd : off + k * 32 + 32 ≤ l.length := by have : (k + 1) * 32 ≤ c * 32 := Nat.mul_le_mul_right 32 (by omega); omega
    have hX0 := rd_at ic_len hx hd hlt
    obtain ⟨ao, co, rfl⟩ := hS.rlen 0 rfl
    (repeat (first | refine g_sq ?_ | refine g_rg ?_ | refine g_r0 ?_ | refine g_ok rfl rfl ?_ | refine g_no rfl ?_ | refine g_no0 rfl ?_ | refine g_bk ?_ | refine g_b ?_ | refine g_sk ?_ | refine g_cT rfl ?_ | refine g_cF rfl ?_ | refine g_x rfl ?_ | refine g_lb ?_))
    refine g_rq rfl rfl ⟨by omega, by omega⟩ ?_
    refine g_lmr rfl rfl hb (by rw [Int.toNat_natCast]; exact hbd) ?_
    rw [Int.toNat_natCast, hX0]
    have hmt : ∀ y, y ∈ d.take (k + 1) ↔ y = d[k] ∨ y ∈ d.take k := fun y => by
      rw [List.take_succ_eq_append_getElem hlt, List.mem_append, List.mem_singleton]
      exact Or.comm
    generalize hX : d[k] = X at hmt hX0
    refine g_cl rfl rfl (r_Has (x := X) rfl (by omega) (Ow.rd (hS.ok 0 _ rfl)) fun w1 h' => ?_)
    replace hS := hS.call0.2 _ _ h'
    rw [List.append_nil] at hS
    (repeat (first | refine g_sq ?_ | refine g_rg ?_ | refine g_r0 ?_ | refine g_ok rfl rfl ?_ | refine g_no rfl ?_ | refine g_no0 rfl ?_ | refine g_bk ?_ | refine g_b ?_ | refine g_sk ?_ | refine g_cT rfl ?_ | refine g_cF rfl ?_ | refine g_x rfl ?_ | refine g_lb ?_))
    cases hq : decide (X ∈ o)
    rotate_left
    · have hin := of_decide_eq_true hq
      (repeat (first | refine g_sq ?_ | refine g_rg ?_ | refine g_r0 ?_ | refine g_ok rfl rfl ?_ | refine g_no rfl ?_ | refine g_no0 rfl ?_ | refine g_bk ?_ | refine g_b ?_ | refine g_sk ?_ | refine g_cT rfl ?_ | refine g_cF rfl ?_ | refine g_x rfl ?_ | refine g_lb ?_))
      refine g_rq rfl rfl (in64 (by simp only [arv]; omega)) ?_
      (repeat (first | refine g_sq ?_ | refine g_rg ?_ | refine g_r0 ?_ | refine g_ok rfl rfl ?_ | refine g_no rfl ?_ | refine g_no0 rfl ?_ | refine g_bk ?_ | refine g_b ?_ | refine g_sk ?_ | refine g_cT rfl ?_ | refine g_cF rfl ?_ | refine g_x rfl ?_ | refine g_lb ?_))
      refine g_l (k + 1, .slice ao o.length co, o) ⟨rfl, rfl, rfl, trivial⟩ ⟨by simp only; omega, by simp only; omega, ho, fun y => ?_, hS⟩ (by simp only; omega)
      dsimp only
      rw [hmt, ← hm]
      exact ⟨.inr, fun h => h.elim (fun e => e ▸ hin) id⟩
    · have hin := of_decide_eq_false hq
      (repeat (first | refine g_sq ?_ | refine g_rg ?_ | refine g_r0 ?_ | refine g_ok rfl rfl ?_ | refine g_no rfl ?_ | refine g_no0 rfl ?_ | refine g_bk ?_ | refine g_b ?_ | refine g_sk ?_ | refine g_cT rfl ?_ | refine g_cF rfl ?_ | refine g_x rfl ?_ | refine g_lb ?_))
      refine g_atx (ι := Nat) 2 (fun j => [(0, .slice (some ⟨b, off, none⟩) n c), (3, .slice ao o.length co), (4, .int .i64 k), (6, .int .i64 j)]) (fun j w' => j ≤ o.length ∧ (∀ i (hi : i < o.length), i < j → Lib.compareBytes o[i].1 X.1 < 0) ∧ (∀ hj : j < o.length, ¬ Lib.compareBytes o[j].1 X.1 < 0) ∧ St w (fun _ => False) w' [row (.slice ao o.length co) 35 32 o.length (fl ic o)]) rfl ?_ ?_
      · refine g_lp (ι := Nat) (fun j => [(0, .slice (some ⟨b, off, none⟩) n c), (3, .slice ao o.length co), (4, .int .i64 k), (6, .int .i64 j)]) (fun j w' => j ≤ o.length ∧ (∀ i (hi : i < o.length), i < j → Lib.compareBytes o[i].1 X.1 < 0) ∧ St w (fun _ => False) w' [row (.slice ao o.length co) 35 32 o.length (fl ic o)]) (fun j => o.length - j) 0 ⟨rfl, rfl, rfl, rfl, trivial⟩ ⟨Nat.zero_le _, fun i _ h => absurd h (Nat.not_lt_zero i), hS⟩ ?_
        clear hS
        rintro j w1 ⟨hj, h1, hS⟩
        (repeat (first | refine g_sq ?_ | refine g_rg ?_ | refine g_r0 ?_ | refine g_ok rfl rfl ?_ | refine g_no rfl ?_ | refine g_no0 rfl ?_ | refine g_bk ?_ | refine g_b ?_ | refine g_sk ?_ | refine g_cT rfl ?_ | refine g_cF rfl ?_ | refine g_x rfl ?_ | refine g_lb ?_))
        refine g_dr mixed ?_
        replace hS := hS.drew
        (repeat (first | refine d_ok rfl rfl rfl ?_ | refine d_no rfl rfl ?_))
        generalize hq1 : cmv BinOp.lss (j : Int) (o.length : Int) = q1
        cases q1
        · (simp only [cmv, arv, Bool.not_eq_true', Bool.not_eq_false', decide_eq_true_eq, decide_eq_false_iff_not] at hq1)
          (repeat (first | refine d_ok rfl rfl rfl ?_ | refine d_no rfl rfl ?_))
          refine d_en rfl rfl rc_0 ?_
          (repeat (first | refine d_ok rfl rfl rfl ?_ | refine d_no rfl rfl ?_))
          refine d_fin ?_
          (repeat (first | refine g_sq ?_ | refine g_rg ?_ | refine g_r0 ?_ | refine g_ok rfl rfl ?_ | refine g_no rfl ?_ | refine g_no0 rfl ?_ | refine g_bk ?_ | refine g_b ?_ | refine g_sk ?_ | refine g_cT rfl ?_ | refine g_cF rfl ?_ | refine g_x rfl ?_ | refine g_lb ?_))
          exact g_jx j ⟨rfl, rfl, rfl, rfl, trivial⟩ ⟨by omega, h1, fun hjo => absurd hjo (by omega), hS⟩
        · (simp only [cmv, arv, Bool.not_eq_true', Bool.not_eq_false', decide_eq_true_eq, decide_eq_false_iff_not] at hq1)
          have hjo : j < o.length := by omega
          obtain ⟨b2, off2, cap2, l2, e2, hcap2, hl2, hx2, hb2⟩ := Rd.block (Ow.rd (hS.ok 0 _ rfl)) (by omega)
          cases e2
          have hbd2 : off2 + j * 32 + 32 ≤ l2.length := by have : (j + 1) * 32 ≤ co * 32 := Nat.mul_le_mul_right 32 (by omega); omega
          obtain ⟨b3, off3, cap3, l3, e3, hcap3, hl3, hx3, hb3⟩ := Rd.block (hrr _ hS) (by omega)
          cases e3
          (repeat (first | refine d_ok rfl rfl rfl ?_ | refine d_no rfl rfl ?_))
          refine d_rq rfl rfl rfl ⟨by omega, by omega⟩ ?_
          refine d_qt rfl rfl rfl (qt_ldmr rfl hb2 (by rw [Int.toNat_natCast]; exact hbd2)) ?_
          rw [Int.toNat_natCast, rd_at ic_len hx2 rfl hjo]
          (repeat (first | refine d_ok rfl rfl rfl ?_ | refine d_no rfl rfl ?_))
          refine d_rq rfl rfl rfl ⟨by omega, by omega⟩ ?_
          refine d_qt rfl rfl rfl (qt_ldmr rfl hb3 (by rw [Int.toNat_natCast]; have : (k + 1) * 32 ≤ c * 32 := Nat.mul_le_mul_right 32 (by omega); omega)) ?_
          rw [Int.toNat_natCast, rd_at ic_len hx3 hd hlt, hX]
          refine d_cl rfl rfl rfl (r_Compare o[j].2 X.2 fun w1 h' => ?_)
          replace hS := hS.call0.2 _ _ h'
          rw [List.append_nil] at hS
          refine ⟨rc_0, ?_⟩
          (repeat (first | refine d_ok rfl rfl rfl ?_ | refine d_no rfl rfl ?_))
          refine d_fin ?_
          (refine g_cd rfl (fun hlc => ?_) (fun hlc => ?_) <;> simp only [cmv, arv, Bool.not_eq_true', Bool.not_eq_false', decide_eq_true_eq, decide_eq_false_iff_not] at hlc)
          · (repeat (first | refine g_sq ?_ | refine g_rg ?_ | refine g_r0 ?_ | refine g_ok rfl rfl ?_ | refine g_no rfl ?_ | refine g_no0 rfl ?_ | refine g_bk ?_ | refine g_b ?_ | refine g_sk ?_ | refine g_cT rfl ?_ | refine g_cF rfl ?_ | refine g_x rfl ?_ | refine g_lb ?_))
            refine g_rq rfl rfl (in64 (by simp only [arv]; omega)) ?_
            (repeat (first | refine g_sq ?_ | refine g_rg ?_ | refine g_r0 ?_ | refine g_ok rfl rfl ?_ | refine g_no rfl ?_ | refine g_no0 rfl ?_ | refine g_bk ?_ | refine g_b ?_ | refine g_sk ?_ | refine g_cT rfl ?_ | refine g_cF rfl ?_ | refine g_x rfl ?_ | refine g_lb ?_))
            refine g_l (j + 1) ⟨rfl, rfl, rfl, rfl, trivial⟩ ⟨by omega, fun i hi hij => ?_, hS⟩ (by omega)
            by_cases e : i = j
            · subst e; exact hlc
            · exact h1 i hi (by omega)
          · (repeat (first | refine g_sq ?_ | refine g_rg ?_ | refine g_r0 ?_ | refine g_ok rfl rfl ?_ | refine g_no rfl ?_ | refine g_no0 rfl ?_ | refine g_bk ?_ | refine g_b ?_ | refine g_sk ?_ | refine g_cT rfl ?_ | refine g_cF rfl ?_ | refine g_x rfl ?_ | refine g_lb ?_))
            exact g_jx j ⟨rfl, rfl, rfl, rfl, trivial⟩ ⟨by omega, h1, fun _ => hlc, hS⟩
      · clear hS
        rintro j T w1 hT ⟨hj, h1, h2, hS⟩
        refine g_wkc hT ?_
        have hO := set_ins ho hin h1 h2
        have hOm := insAt_mem o j X
        have hOl := insAt_len o (j := j) X
        (repeat (first | refine g_sq ?_ | refine g_rg ?_ | refine g_r0 ?_ | refine g_ok rfl rfl ?_ | refine g_no rfl ?_ | refine g_no0 rfl ?_ | refine g_bk ?_ | refine g_b ?_ | refine g_sk ?_ | refine g_cT rfl ?_ | refine g_cF rfl ?_ | refine g_x rfl ?_ | refine g_lb ?_))
        refine g_atx (ι := Value) 1 (fun v => [(0, .slice (some ⟨b, off, none⟩) n c), (3, .slice ao o.length co), (4, .int .i64 k), (6, .int .i64 j), (7, v)]) (fun v w' => St w (fun _ => False) w' [row (.slice ao o.length co) 35 32 o.length (fl ic o), row v 35 32 (j + 1) (fl ic (o.take j ++ [X]))]) rfl ?_ ?_
        · refine g_dr mixed ?_
          replace hS := hS.drew
          obtain ⟨b3, off3, cap3, l3, e3, hcap3, hl3, hx3, hb3⟩ := Rd.block (hrr _ hS) (by omega)
          cases e3
          have hbd3 : off + k * 32 + 32 ≤ l3.length := by have : (k + 1) * 32 ≤ c * 32 := Nat.mul_le_mul_right 32 (by omega); omega
          have hX3 : ((l3.drop (off + k * 32)).take 32) = ic X := by rw [rd_at ic_len hx3 hd hlt, hX]
          have hle := (hS.ok 0 _ rfl : Ow _ _ _ _ _ _).le
          have htk : (fl ic o).take (j * 32) = fl ic (o.take j) := fl_take ic_len j o
          have hrd : ∀ {L : List Res} {w' : World}, St w (fun _ => False) w' (row (.slice ao o.length co) 35 32 o.length (fl ic o) :: L) → Rd (.slice ao j co) 35 32 j (fl ic (o.take j)) w' := fun hS => by
            have := Rd.hd (Ow.rd (hS.ok 0 _ rfl)) hj
            rw [htk] at this
            exact this
          have hXR : ∀ {L : List Res} {w' : World}, St w (fun _ => False) w' L → ∀ {P : Program} {T : TT} {x : Operand}, ev T x = some (.pointer (some ⟨b, off + (k : Int).toNat * 32, none⟩)) → Qt P (.ld x (some 32)) T w' (.agg ⟨ic X⟩) := fun {L} {w'} hS {P} {T} {x} hev => by
            obtain ⟨b4, off4, cap4, l4, e4, hcap4, hl4, hx4, hb4⟩ := Rd.block (hrr _ hS) (by omega)
            cases e4
            have := qt_ldmr (P := P) (n := 32) hev hb4 (by rw [Int.toNat_natCast]; have : (k + 1) * 32 ≤ c * 32 := Nat.mul_le_mul_right 32 (by omega); omega)
            rw [Int.toNat_natCast, rd_at ic_len hx4 hd hlt, hX] at this
            exact this
          replace hS := hS.nilrow 35 32
          have hone : (ic X).all (·.oneCell') = true := List.all_eq_true.2 (ic_one X)
          have hap : fl ic (o.take j) ++ ic X = fl ic (o.take j ++ [X]) := by rw [fl_app]; simp [fl]
          (repeat (first | refine d_ok rfl rfl rfl ?_ | refine d_no rfl rfl ?_))
          refine d_qp rfl rfl rfl (fun w => qt_slh rfl hle.2 rfl hj hle.1) ?_
          (repeat (first | refine d_ok rfl rfl rfl ?_ | refine d_no rfl rfl ?_))
          refine d_rq rfl rfl rfl ⟨by omega, by omega⟩ ?_
          refine d_qt rfl rfl rfl (hXR hS rfl) ?_
          refine d_a2 ?_ (d_a1 ?_)
          · refine d_e rfl rfl ?_
            refine ef_ap (bytes := 32) (n := 0) (m := j) (ys := fl ic (o.take j)) hS 1 rfl rfl rfl (.inl ⟨_, hrd hS⟩) (fl_one ic_one _) (by omega) (by omega) fun v1 w2 hS => ?_
            rw [Nat.zero_add, List.nil_append] at hS
            refine ⟨rc_qt rfl rfl rfl rfl (hXR hS rfl) rc_0, ?_⟩
            refine d_e rfl rfl ?_
            refine ef_bl (rs := ic X) hS (evcs_1 rfl (ic_len _)) fun g w2 hS => ⟨rc_0, ?_⟩
            refine d_e rfl rfl ?_
            refine ef_ap (bytes := 32) (n := j) (m := 1) (ys := ic X) hS 1 rfl rfl rfl (.inl ⟨35, .inr ⟨g, 0, 1, _, rfl, Nat.le_refl _, Nat.le_of_eq (by rw [ic_len]), by rw [List.drop_zero, List.take_of_length_le (Nat.le_of_eq (ic_len _))], (hS.b 2 rfl).r⟩⟩) hone (by omega) (by omega) fun v2 w2 hS => ⟨rc_0, ?_⟩
            rw [hap] at hS
            refine d_e rfl rfl ?_
            refine ef_qt ((pev_ok rfl).2 _) ⟨rc_0, ?_⟩
            refine d_fin ?_
            exact g_jx v2 ⟨rfl, rfl, rfl, rfl, rfl, trivial⟩ (hS.sel [0, 1] rfl rfl)
          · refine d_e rfl rfl ?_
            refine ef_bl (rs := ic X) hS (evcs_1 rfl (ic_len _)) fun g w2 hS => ⟨rc_0, ?_⟩
            refine d_e rfl rfl ?_
            refine ef_ap (bytes := 32) (n := 0) (m := j) (ys := fl ic (o.take j)) hS 1 rfl rfl rfl (.inl ⟨_, hrd hS⟩) (fl_one ic_one _) (by omega) (by omega) fun v1 w2 hS => ⟨rc_0, ?_⟩
            rw [Nat.zero_add, List.nil_append] at hS
            refine d_e rfl rfl ?_
            refine ef_ap (bytes := 32) (n := j) (m := 1) (ys := ic X) hS 1 rfl rfl rfl (.inl ⟨35, .inr ⟨g, 0, 1, _, rfl, Nat.le_refl _, Nat.le_of_eq (by rw [ic_len]), by rw [List.drop_zero, List.take_of_length_le (Nat.le_of_eq (ic_len _))], (hS.b 2 rfl).r⟩⟩) hone (by omega) (by omega) fun v2 w2 hS => ⟨rc_0, ?_⟩
            rw [hap] at hS
            refine d_e rfl rfl ?_
            refine ef_qt ((pev_ok rfl).2 _) ⟨rc_0, ?_⟩
            refine d_fin ?_
            exact g_jx v2 ⟨rfl, rfl, rfl, rfl, rfl, trivial⟩ (hS.sel [0, 1] rfl rfl)
        · clear hS
          rintro v T w1 hT hS
          refine g_wkc hT ?_
          have hle := (hS.ok 0 _ rfl : Ow _ _ _ _ _ _).le
          obtain ⟨a', hrd, hq⟩ := sl_drop (Ow.rd (hS.ok 0 _ rfl)) hle.1 hj
          rw [fl_drop ic_len] at hrd
          (repeat (first | refine g_sq ?_ | refine g_rg ?_ | refine g_r0 ?_ | refine g_ok rfl rfl ?_ | refine g_no rfl ?_ | refine g_no0 rfl ?_ | refine g_bk ?_ | refine g_b ?_ | refine g_sk ?_ | refine g_cT rfl ?_ | refine g_cF rfl ?_ | refine g_x rfl ?_ | refine g_lb ?_))
          refine g_qt rfl (hq _ rfl rfl) ?_
          refine g_ef rfl (ef_ap (bytes := 32) (n := j + 1) (m := o.length - j) (ys := fl ic (o.drop j)) hS 1 rfl rfl rfl (.inl ⟨_, hrd⟩) (fl_one ic_one _) (by omega) (by omega) fun v2 w2 hS => ?_)
          have e3 : fl ic (o.take j ++ [X]) ++ fl ic (o.drop j) = fl ic (insAt o j X) := by
            rw [← fl_app]
            congr 1
            unfold insAt
            simp
          rw [e3, show j + 1 + (o.length - j) = (insAt o j X).length by rw [hOl]; omega] at hS
          (repeat (first | refine g_sq ?_ | refine g_rg ?_ | refine g_r0 ?_ | refine g_ok rfl rfl ?_ | refine g_no rfl ?_ | refine g_no0 rfl ?_ | refine g_bk ?_ | refine g_b ?_ | refine g_sk ?_ | refine g_cT rfl ?_ | refine g_cF rfl ?_ | refine g_x rfl ?_ | refine g_lb ?_))
          refine g_rq rfl rfl (in64 (by simp only [arv]; omega)) ?_
          (repeat (first | refine g_sq ?_ | refine g_rg ?_ | refine g_r0 ?_ | refine g_ok rfl rfl ?_ | refine g_no rfl ?_ | refine g_no0 rfl ?_ | refine g_bk ?_ | refine g_b ?_ | refine g_sk ?_ | refine g_cT rfl ?_ | refine g_cF rfl ?_ | refine g_x rfl ?_ | refine g_lb ?_))
          refine g_l (k + 1, v2, insAt o j X) ⟨rfl, rfl, rfl, trivial⟩ ⟨by simp only; omega, by simp only; rw [hOl]; omega, hO, fun y => ?_, hS.sel [1] rfl rfl⟩ (by simp only; omega)
          dsimp only
          rw [hmt, ← hm, hOm]
  · have ek : k = n := by omega
    subst ek
    have e : iset d = o := iset_of ho fun y => by rw [hm, List.take_of_length_le (by omega)]
    rw [e] at h
    (repeat (first | refine g_sq ?_ | refine g_rg ?_ | refine g_r0 ?_ | refine g_ok rfl rfl ?_ | refine g_no rfl ?_ | refine g_no0 rfl ?_ | refine g_bk ?_ | refine g_b ?_ | refine g_sk ?_ | refine g_cT rfl ?_ | refine g_cF rfl ?_ | refine g_x rfl ?_ | refine g_lb ?_))
    exact g_ret (q_1 rfl (h _ _ hS))
end
end Go.Proofs.YtibofabkpgigoaaGreatDoor
