/- What is listed: cells, order, sorting. -/
import Derived.Test.YtibofabkpgigoaaGreatDoorNa9
import Derived.Test.YtibofabkpgigoaaGreatDoorNb1
set_option linter.unusedSimpArgs false
set_option linter.unusedVariables false
namespace Go.Proofs.YtibofabkpgigoaaGreatDoor
open Go.En

/-- a listed name and tip -/
abbrev Li := Bs × Id
def lc (x : Li) : List Value := sv x.1 :: bys x.2.1
theorem lc_len (x : Li) : (lc x).length = 33 := by rw [lc, List.length_cons, bys_length, x.2.2]
theorem lc_one (x : Li) : ∀ v ∈ lc x, v.oneCell' = true := fun v hv => by
  rcases List.mem_cons.1 hv with rfl | hv
  · rfl
  · exact ic_one x.2 v hv
section
variable {w w0 : World} {S0 : Nat → Prop} {L B : List Res} {K : Value → World → Prop} {s : Bs}
theorem fill_li {T : TT} {a b : Operand} (x : Li) (ha : ev T a = some (sv x.1)) (hb : ev T b = some (.agg ⟨bys x.2.1⟩)) : fillP T [(0, 1, a), (1, 32, b)] (zx [(1, .string ⟨#[]⟩), (32, .int .u8 0)]) = some (lc x) := by
  have l1 : (bys x.2.1).length = 32 := by rw [bys_length, x.2.2]
  have e1 : Nat.beq (bys x.2.1).length 32 = true := by rw [l1]; rfl
  have e2 : Nat.ble (1 + (bys x.2.1).length) 33 = true := by rw [l1]; rfl
  unfold fillP
  rw [ha]
  show (match Nat.beq 1 1, Nat.ble (0 + 1) 33 with | true, true => fillP T [(1, 32, b)] _ | _, _ => none) = _
  show fillP T [(1, 32, b)] (sv x.1 :: List.replicate 32 (.int .u8 0)) = _
  unfold fillP
  rw [hb]
  show (match Nat.beq (bys x.2.1).length 32, Nat.ble (1 + (bys x.2.1).length) 33 with | true, true => fillP T [] _ | _, _ => none) = _
  rw [e1, e2]
  show some (spl (sv x.1 :: List.replicate 32 (.int .u8 0)) 1 (bys x.2.1)) = _
  simp [spl, lc, x.2.2]
theorem evcs_1 {T : TT} {a : Operand} {sz : Nat} {cs : List Value} (ha : ev T a = some (.agg ⟨cs⟩)) (hl : cs.length = sz) : evcs T sz [a] = some cs := by
  subst hl
  have e : Nat.beq cs.length cs.length = true := Nat.beq_refl _
  unfold evcs evcs
  rw [ha]
  show (match Nat.beq cs.length cs.length with | true => some (cs ++ []) | false => none) = _
  rw [e, List.append_nil]
theorem b_isNaN (h : K (.bool false) w) : CK Tryz.prog 79 [sv s] w K := by
  refine call_k Tryz.func79 k79 Tryz.ntmps79 (Nat.le_of_ble_eq_true rfl) ?_
  (repeat (first | refine g_sq ?_ | refine g_rg ?_ | refine g_r0 ?_ | refine g_ok rfl rfl ?_ | refine g_no rfl ?_ | refine g_no0 rfl ?_ | refine g_bk ?_ | refine g_b ?_ | refine g_sk ?_ | refine g_cT rfl ?_ | refine g_cF rfl ?_ | refine g_x rfl ?_ | refine g_lb ?_))
  refine g_ret (q_1 rfl ?_)
  rw [decide_eq_true rfl]
  exact h
theorem b_cmpS {a b : Bs} (h : K (.int .i64 (Lib.compareBytes a b)) w) : CK Tryz.prog 60 [sv a, sv b] w K := by
  refine call_k Tryz.func60 k60 Tryz.ntmps60 (Nat.le_of_ble_eq_true rfl) ?_
  (repeat (first | refine g_sq ?_ | refine g_rg ?_ | refine g_r0 ?_ | refine g_ok rfl rfl ?_ | refine g_no rfl ?_ | refine g_no0 rfl ?_ | refine g_bk ?_ | refine g_b ?_ | refine g_sk ?_ | refine g_cT rfl ?_ | refine g_cF rfl ?_ | refine g_x rfl ?_ | refine g_lb ?_))
  refine g_cl rfl rfl (b_isNaN ?_)
  (repeat (first | refine g_sq ?_ | refine g_rg ?_ | refine g_r0 ?_ | refine g_ok rfl rfl ?_ | refine g_no rfl ?_ | refine g_no0 rfl ?_ | refine g_bk ?_ | refine g_b ?_ | refine g_sk ?_ | refine g_cT rfl ?_ | refine g_cF rfl ?_ | refine g_x rfl ?_ | refine g_lb ?_))
  refine g_cl rfl rfl (b_isNaN ?_)
  (repeat (first | refine g_sq ?_ | refine g_rg ?_ | refine g_r0 ?_ | refine g_ok rfl rfl ?_ | refine g_no rfl ?_ | refine g_no0 rfl ?_ | refine g_bk ?_ | refine g_b ?_ | refine g_sk ?_ | refine g_cT rfl ?_ | refine g_cF rfl ?_ | refine g_x rfl ?_ | refine g_lb ?_))
  have h3 := cb_three a b
  have hbl := bless_eq a b
  have hz : decide (a = b) = decide (Lib.compareBytes a b = 0) := decide_eq_decide.2 ⟨fun e => by rw [e, cb_self], cb_zero⟩
  refine g_cd rfl (fun hc => ?_) (fun hc => ?_)
  · (repeat (first | refine g_sq ?_ | refine g_rg ?_ | refine g_r0 ?_ | refine g_ok rfl rfl ?_ | refine g_no rfl ?_ | refine g_no0 rfl ?_ | refine g_bk ?_ | refine g_b ?_ | refine g_sk ?_ | refine g_cT rfl ?_ | refine g_cF rfl ?_ | refine g_x rfl ?_ | refine g_lb ?_))
    have hc : Op.bytesLess a b = true := hc
    rw [hbl, decide_eq_true_eq] at hc
    have : Lib.compareBytes a b = -1 := by omega
    rw [this] at h
    exact g_ret (q_1 rfl h)
  · (repeat (first | refine g_sq ?_ | refine g_rg ?_ | refine g_r0 ?_ | refine g_ok rfl rfl ?_ | refine g_no rfl ?_ | refine g_no0 rfl ?_ | refine g_bk ?_ | refine g_b ?_ | refine g_sk ?_ | refine g_cT rfl ?_ | refine g_cF rfl ?_ | refine g_x rfl ?_ | refine g_lb ?_))
    have hc : Op.bytesLess a b = false := hc
    rw [hbl, decide_eq_false_iff_not] at hc
    refine g_cd rfl (fun hd => ?_) (fun hd => ?_)
    · (repeat (first | refine g_sq ?_ | refine g_rg ?_ | refine g_r0 ?_ | refine g_ok rfl rfl ?_ | refine g_no rfl ?_ | refine g_no0 rfl ?_ | refine g_bk ?_ | refine g_b ?_ | refine g_sk ?_ | refine g_cT rfl ?_ | refine g_cF rfl ?_ | refine g_x rfl ?_ | refine g_lb ?_))
      have hd : (!(Op.bytesLess a b || decide (a = b))) = true := hd
      rw [hbl, hz] at hd
      simp only [Bool.not_eq_true', Bool.or_eq_false_iff, decide_eq_false_iff_not] at hd
      have : Lib.compareBytes a b = 1 := by omega
      rw [this] at h
      exact g_ret (q_1 rfl h)
    · (repeat (first | refine g_sq ?_ | refine g_rg ?_ | refine g_r0 ?_ | refine g_ok rfl rfl ?_ | refine g_no rfl ?_ | refine g_no0 rfl ?_ | refine g_bk ?_ | refine g_b ?_ | refine g_sk ?_ | refine g_cT rfl ?_ | refine g_cF rfl ?_ | refine g_x rfl ?_ | refine g_lb ?_))
      have hd : (!(Op.bytesLess a b || decide (a = b))) = false := hd
      rw [hbl, hz] at hd
      simp only [Bool.not_eq_false', Bool.or_eq_true, decide_eq_true_eq] at hd
      have : Lib.compareBytes a b = 0 := by omega
      rw [this] at h
      exact g_ret (q_1 rfl h)
theorem b_byName {x y : Li} (h : ∀ w', St w (fun _ => False) w' [] → K (.int .i64 (Lib.compareBytes x.1 y.1)) w') : CK Tryz.prog 33 [.agg ⟨lc x⟩, .agg ⟨lc y⟩] w K := by
  have hS := St.nil w (fun _ => False)
  refine call_k Tryz.func33 k33 Tryz.ntmps33 (Nat.le_of_ble_eq_true rfl) ?_
  (repeat (first | refine g_sq ?_ | refine g_rg ?_ | refine g_r0 ?_ | refine g_ok rfl rfl ?_ | refine g_no rfl ?_ | refine g_no0 rfl ?_ | refine g_bk ?_ | refine g_b ?_ | refine g_sk ?_ | refine g_cT rfl ?_ | refine g_cF rfl ?_ | refine g_x rfl ?_ | refine g_lb ?_))
  refine g_ef rfl (ef_bx hS rfl fun b1 w1 hS => ?_)
  (repeat (first | refine g_sq ?_ | refine g_rg ?_ | refine g_r0 ?_ | refine g_ok rfl rfl ?_ | refine g_no rfl ?_ | refine g_no0 rfl ?_ | refine g_bk ?_ | refine g_b ?_ | refine g_sk ?_ | refine g_cT rfl ?_ | refine g_cF rfl ?_ | refine g_x rfl ?_ | refine g_lb ?_))
  refine g_ef rfl (ef_bx hS rfl fun b2 w1 hS => ?_)
  have hS : St w (fun _ => False) w1 [cel b1 (lc x) 41, cel b2 (lc y) 41] := hS
  (repeat (first | refine g_sq ?_ | refine g_rg ?_ | refine g_r0 ?_ | refine g_ok rfl rfl ?_ | refine g_no rfl ?_ | refine g_no0 rfl ?_ | refine g_bk ?_ | refine g_b ?_ | refine g_sk ?_ | refine g_cT rfl ?_ | refine g_cF rfl ?_ | refine g_x rfl ?_ | refine g_lb ?_))
  refine g_l1 rfl rfl (hS.b  0 rfl) rfl ?_
  (repeat (first | refine g_sq ?_ | refine g_rg ?_ | refine g_r0 ?_ | refine g_ok rfl rfl ?_ | refine g_no rfl ?_ | refine g_no0 rfl ?_ | refine g_bk ?_ | refine g_b ?_ | refine g_sk ?_ | refine g_cT rfl ?_ | refine g_cF rfl ?_ | refine g_x rfl ?_ | refine g_lb ?_))
  refine g_l1 rfl rfl (hS.b  1 rfl) rfl ?_
  refine g_cl rfl rfl (b_cmpS ?_)
  (repeat (first | refine g_sq ?_ | refine g_rg ?_ | refine g_r0 ?_ | refine g_ok rfl rfl ?_ | refine g_no rfl ?_ | refine g_no0 rfl ?_ | refine g_bk ?_ | refine g_b ?_ | refine g_sk ?_ | refine g_cT rfl ?_ | refine g_cF rfl ?_ | refine g_x rfl ?_ | refine g_lb ?_))
  exact g_ret (q_1 rfl (h _ (hS.sel [] rfl rfl)))
theorem b_SortL {v : Value} {n : Nat} {d : List Li} (hd : d.length = n) (hn : n < 2000000) (hS : St w0 S0 w [row v 41 33 n (fl lc d)])
    (h : ∀ d' w', d'.Perm d → d'.Pairwise (fun x y => ble x.1 y.1 = true) → St w0 S0 w' [row v 41 33 n (fl lc d')] → K (.tuple ⟨[]⟩) w') : CK Tryz.prog 44 [v, .func (.func 33) ⟨[]⟩ ⟨[]⟩] w K := by
  rcases hS.ok 0 _ rfl with ⟨rfl, rfl, h3⟩ | ⟨b, cap, rest, rfl, _⟩
  · have e : d = [] := List.eq_nil_of_length_eq_zero hd
    subst e
    refine (AnyF.slices_SortFunc_none Tryz.sortLi none 0 (.func (.func 33) ⟨[]⟩ ⟨[]⟩) w).mono ?_
    rintro e w' ⟨rfl, rfl⟩
    exact ⟨_, rfl, h _ _ List.Perm.nil List.Pairwise.nil hS⟩
  · refine ck_sortF (i := 0) Tryz.sortLi Tryz.isAgg41 Tryz.sizeOf41 lc_len lc_one (fun x y : Li => Lib.compareBytes x.1 y.1) (swo_key fun x : Li => x.1) (enters_of Tryz.func33 (by kernel_rfl) rfl) (fun W x y K h => b_byName h) hS rfl hd (by omega) fun d' w' hp hs hS => ?_
    exact h _ _ hp (hs.imp fun h => (lt_ble (fun x : Li => x.1) _ _).1 h) hS
end
end Go.Proofs.YtibofabkpgigoaaGreatDoor
