/- Records and dots: cells; small functions of dots. -/
import Derived.Test.YtbdpcpafjphmpaaDoorNa4
import Derived.Test.YtbdpcpafjphmpaaDoorOa1
import Derived.Test.YtbdpcpafjphmpaaDoorEnS
import Derived.Test.YtbdpcpafjphmpaaDoorEnT
set_option linter.unusedSimpArgs false
set_option linter.unusedVariables false
namespace Go.Proofs.YtbdpcpafjphmpaaDoor
open Go.En

structure Rec where
  site : Int
  cnt : Int
  ctx : List Nat
  ref : Bs
  has : Bool
  tip : Bs
  l16 : ctx.length = 16
  l32 : tip.length = 32
  b32 : ∀ x ∈ ctx, x < 4294967296
  bs : -9223372036854775808 ≤ site ∧ site ≤ 9223372036854775807
  bc : -9223372036854775808 ≤ cnt ∧ cnt ≤ 9223372036854775807
def u4 (l : List Nat) : List Value := l.map fun n : Nat => Value.int .u32 (n : Int)
theorem u4_len (l : List Nat) : (u4 l).length = l.length := by simp [u4]
/-- a dot's cells -/
def dc (a b : Int) : List Value := [.int .i64 a, .int .i64 b]
/-- a record's cells -/
def rc (r : Rec) : List Value := .int .i64 r.site :: .int .i64 r.cnt :: (u4 r.ctx ++ (sv r.ref :: .bool r.has :: bys r.tip))
theorem rc_len (r : Rec) : (rc r).length = 52 := by
  unfold rc
  rw [List.length_cons, List.length_cons, List.length_append, u4_len, r.l16, List.length_cons, List.length_cons, bys_length, r.l32]
theorem rc_one (r : Rec) : ∀ v ∈ rc r, v.oneCell' = true := fun v hv => by
  unfold rc at hv
  simp only [List.mem_cons, List.mem_append] at hv
  rcases hv with rfl | rfl | hv | rfl | rfl | hv
  · rfl
  · rfl
  · unfold u4 at hv
    obtain ⟨n, _, rfl⟩ := List.mem_map.1 hv
    rfl
  · rfl
  · rfl
  · have := bys_one r.tip
    rw [List.all_eq_true] at this
    exact this v hv
theorem rc_dot (r : Rec) : ((rc r).drop 0).take 2 = dc r.site r.cnt := rfl
theorem rc_site (r : Rec) : (rc r)[0]? = some (.int .i64 r.site) := rfl
theorem rc_cnt (r : Rec) : (rc r)[1]? = some (.int .i64 r.cnt) := rfl
theorem rc_ctx (r : Rec) {k : Nat} (h : k < r.ctx.length) : (rc r)[2 + k * 1]? = some (.int .u32 (r.ctx[k] : Int)) := by
  unfold rc
  rw [Nat.mul_one, Nat.add_comm, List.getElem?_cons_succ, List.getElem?_cons_succ, List.getElem?_append_left (by rw [u4_len]; exact h)]
  simp [u4, h]
theorem rc_18 (r : Rec) : (rc r)[18]? = some (sv r.ref) := by
  show (u4 r.ctx ++ (sv r.ref :: .bool r.has :: bys r.tip))[16]? = _
  rw [List.getElem?_append_right (by rw [u4_len, r.l16]; exact Nat.le_refl _), u4_len, r.l16]
  rfl
theorem rc_19 (r : Rec) : (rc r)[19]? = some (.bool r.has) := by
  show (u4 r.ctx ++ (sv r.ref :: .bool r.has :: bys r.tip))[17]? = _
  rw [List.getElem?_append_right (by rw [u4_len, r.l16]; decide), u4_len, r.l16]
  rfl
theorem rc_20 (r : Rec) : ((rc r).drop 20).take 32 = bys r.tip := by
  show ((u4 r.ctx ++ (sv r.ref :: .bool r.has :: bys r.tip)).drop 18).take 32 = _
  rw [List.drop_append, List.drop_eq_nil_of_le (by rw [u4_len, r.l16]; decide), u4_len, r.l16]
  show (bys r.tip).take 32 = _
  exact List.take_of_length_le (by rw [bys_length, r.l32]; exact Nat.le_refl _)
theorem u4_inj : ∀ {a b : List Nat}, u4 a = u4 b → a = b
  | [], [], _ => rfl
  | [], _ :: _, h => by simp [u4] at h
  | _ :: _, [], h => by simp [u4] at h
  | x :: a, y :: b, h => by
    have h1 : u4 a = u4 b := by simpa [u4] using (List.cons.inj h).2
    have h2 := (List.cons.inj h).1
    simp only [Value.int.injEq, true_and] at h2
    rw [u4_inj h1, Int.ofNat.inj h2]
theorem bys_inj' : ∀ {a b : Bs}, bys a = bys b → a = b
  | [], [], _ => rfl
  | [], _ :: _, h => by simp [bys] at h
  | _ :: _, [], h => by simp [bys] at h
  | x :: a, y :: b, h => by
    have h1 : bys a = bys b := by simpa [bys] using (List.cons.inj h).2
    have h2 : (x.toNat : Int) = (y.toNat : Int) := by
      have := (List.cons.inj h).1
      simp only [Value.int.injEq, true_and] at this
      exact this
    rw [bys_inj' h1, UInt8.toNat_inj.1 (Int.ofNat.inj h2)]
theorem rc_inj {a b : Rec} (h : rc a = rc b) : a = b := by
  unfold rc at h
  obtain ⟨h1, h2⟩ := List.cons.inj h
  obtain ⟨h2, h3⟩ := List.cons.inj h2
  obtain ⟨h3, h4⟩ := List.append_inj h3 (by rw [u4_len, u4_len, a.l16, b.l16])
  obtain ⟨h4, h5⟩ := List.cons.inj h4
  obtain ⟨h5, h6⟩ := List.cons.inj h5
  have e1 : a.site = b.site := by simpa using h1
  have e2 : a.cnt = b.cnt := by simpa using h2
  have e3 := u4_inj h3
  have e4 : a.ref = b.ref := by
    have := congrArg (fun v : Value => match v with | .string s => s.data.toList | _ => []) h4
    exact this
  have e5 : a.has = b.has := by simpa using h5
  have e6 := bys_inj' h6
  cases a
  cases b
  simp only at e1 e2 e3 e4 e5 e6
  subst e1 e2 e3 e4 e5 e6
  rfl
/-- may a dot be? -/
def dotB (a b : Int) : Bool := decide (0 ≤ a ∧ a ≤ 15 ∧ 1 ≤ b ∧ b ≤ 4294967295)
def dotE (a b : Int) : Int := if dotB a b = true then 0 else 50
def cmpI (a b : Int) : Int := if a < b then -1 else if b < a then 1 else 0
/-- the order of dots -/
def dotC (a b c d : Int) : Int := if cmpI a c ≠ 0 then cmpI a c else cmpI b d
section
variable {w w0 : World} {S0 : Nat → Prop} {L B : List Res} {K : Value → World → Prop} {s : Bs} {E0 E1 : Nat}
theorem b_isNaNI {a : Int} (h : K (.bool false) w) : CK Tryd.prog 30 [.int .i64 a] w K := by
  refine call_k Tryd.func30 k30 Tryd.ntmps30 (Nat.le_of_ble_eq_true rfl) ?_
  (repeat (first | refine g_sq ?_ | refine g_rg ?_ | refine g_r0 ?_ | refine g_ok rfl rfl ?_ | refine g_no rfl ?_ | refine g_no0 rfl ?_ | refine g_bk ?_ | refine g_b ?_ | refine g_sk ?_ | refine g_cT rfl ?_ | refine g_cF rfl ?_ | refine g_x rfl ?_ | refine g_lb ?_))
  rw [cmv_neq]
  (repeat (first | refine g_sq ?_ | refine g_rg ?_ | refine g_r0 ?_ | refine g_ok rfl rfl ?_ | refine g_no rfl ?_ | refine g_no0 rfl ?_ | refine g_bk ?_ | refine g_b ?_ | refine g_sk ?_ | refine g_cT rfl ?_ | refine g_cF rfl ?_ | refine g_x rfl ?_ | refine g_lb ?_))
  exact g_ret (q_1 rfl h)
theorem b_cmpI {a b : Int} (h : K (.int .i64 (cmpI a b)) w) : CK Tryd.prog 23 [.int .i64 a, .int .i64 b] w K := by
  refine call_k Tryd.func23 k23 Tryd.ntmps23 (Nat.le_of_ble_eq_true rfl) ?_
  (repeat (first | refine g_sq ?_ | refine g_rg ?_ | refine g_r0 ?_ | refine g_ok rfl rfl ?_ | refine g_no rfl ?_ | refine g_no0 rfl ?_ | refine g_bk ?_ | refine g_b ?_ | refine g_sk ?_ | refine g_cT rfl ?_ | refine g_cF rfl ?_ | refine g_x rfl ?_ | refine g_lb ?_))
  refine g_cl rfl rfl (b_isNaNI ?_)
  (repeat (first | refine g_sq ?_ | refine g_rg ?_ | refine g_r0 ?_ | refine g_ok rfl rfl ?_ | refine g_no rfl ?_ | refine g_no0 rfl ?_ | refine g_bk ?_ | refine g_b ?_ | refine g_sk ?_ | refine g_cT rfl ?_ | refine g_cF rfl ?_ | refine g_x rfl ?_ | refine g_lb ?_))
  refine g_cl rfl rfl (b_isNaNI ?_)
  unfold cmpI at h
  (repeat (first | refine g_sq ?_ | refine g_rg ?_ | refine g_r0 ?_ | refine g_ok rfl rfl ?_ | refine g_no rfl ?_ | refine g_no0 rfl ?_ | refine g_bk ?_ | refine g_b ?_ | refine g_sk ?_ | refine g_cT rfl ?_ | refine g_cF rfl ?_ | refine g_x rfl ?_ | refine g_lb ?_))
  (generalize q1 : cmv _ _ _ = q; cases q <;> simp only [cmv, arv, Bool.not_eq_true', Bool.not_eq_false', decide_eq_true_eq, decide_eq_false_iff_not] at q1 <;> first | (exfalso; omega) | skip)
  · rw [if_neg (by omega)] at h
    (repeat (first | refine g_sq ?_ | refine g_rg ?_ | refine g_r0 ?_ | refine g_ok rfl rfl ?_ | refine g_no rfl ?_ | refine g_no0 rfl ?_ | refine g_bk ?_ | refine g_b ?_ | refine g_sk ?_ | refine g_cT rfl ?_ | refine g_cF rfl ?_ | refine g_x rfl ?_ | refine g_lb ?_))
    (generalize q2 : cmv _ _ _ = q; cases q <;> simp only [cmv, arv, Bool.not_eq_true', Bool.not_eq_false', decide_eq_true_eq, decide_eq_false_iff_not] at q2 <;> first | (exfalso; omega) | skip)
    · rw [if_neg (by omega)] at h
      (repeat (first | refine g_sq ?_ | refine g_rg ?_ | refine g_r0 ?_ | refine g_ok rfl rfl ?_ | refine g_no rfl ?_ | refine g_no0 rfl ?_ | refine g_bk ?_ | refine g_b ?_ | refine g_sk ?_ | refine g_cT rfl ?_ | refine g_cF rfl ?_ | refine g_x rfl ?_ | refine g_lb ?_))
      exact g_ret (q_1 rfl h)
    · rw [if_pos (by omega)] at h
      (repeat (first | refine g_sq ?_ | refine g_rg ?_ | refine g_r0 ?_ | refine g_ok rfl rfl ?_ | refine g_no rfl ?_ | refine g_no0 rfl ?_ | refine g_bk ?_ | refine g_b ?_ | refine g_sk ?_ | refine g_cT rfl ?_ | refine g_cF rfl ?_ | refine g_x rfl ?_ | refine g_lb ?_))
      exact g_ret (q_1 rfl h)
  · rw [if_pos (by omega)] at h
    (repeat (first | refine g_sq ?_ | refine g_rg ?_ | refine g_r0 ?_ | refine g_ok rfl rfl ?_ | refine g_no rfl ?_ | refine g_no0 rfl ?_ | refine g_bk ?_ | refine g_b ?_ | refine g_sk ?_ | refine g_cT rfl ?_ | refine g_cF rfl ?_ | refine g_x rfl ?_ | refine g_lb ?_))
    exact g_ret (q_1 rfl h)
theorem b_dotCheck {a b : Int} (h : ∀ w', St w (fun _ => False) w' [] → K (.int .i64 (dotE a b)) w') : CK Tryd.prog 24 [.agg ⟨dc a b⟩] w K := by
  have hS := St.nil w (fun _ => False)
  refine call_k Tryd.func24 k24 Tryd.ntmps24 (Nat.le_of_ble_eq_true rfl) ?_
  (repeat (first | refine g_sq ?_ | refine g_rg ?_ | refine g_r0 ?_ | refine g_ok rfl rfl ?_ | refine g_no rfl ?_ | refine g_no0 rfl ?_ | refine g_bk ?_ | refine g_b ?_ | refine g_sk ?_ | refine g_cT rfl ?_ | refine g_cF rfl ?_ | refine g_x rfl ?_ | refine g_lb ?_))
  refine g_ef rfl (ef_bx hS rfl fun b1 w1 hS => ?_)
  replace hS : St w (fun _ => False) w1 [cel b1 (dc a b) 24] := hS
  unfold dotE dotB at h
  (repeat (first | refine g_sq ?_ | refine g_rg ?_ | refine g_r0 ?_ | refine g_ok rfl rfl ?_ | refine g_no rfl ?_ | refine g_no0 rfl ?_ | refine g_bk ?_ | refine g_b ?_ | refine g_sk ?_ | refine g_cT rfl ?_ | refine g_cF rfl ?_ | refine g_x rfl ?_ | refine g_lb ?_))
  refine g_l1 rfl rfl (hS.b  0 rfl) rfl ?_
  (repeat (first | refine g_sq ?_ | refine g_rg ?_ | refine g_r0 ?_ | refine g_ok rfl rfl ?_ | refine g_no rfl ?_ | refine g_no0 rfl ?_ | refine g_bk ?_ | refine g_b ?_ | refine g_sk ?_ | refine g_cT rfl ?_ | refine g_cF rfl ?_ | refine g_x rfl ?_ | refine g_lb ?_))
  (generalize q1 : cmv _ _ _ = q; cases q <;> simp only [cmv, arv, Bool.not_eq_true', Bool.not_eq_false', decide_eq_true_eq, decide_eq_false_iff_not] at q1 <;> first | (exfalso; omega) | skip)
  · (repeat (first | refine g_sq ?_ | refine g_rg ?_ | refine g_r0 ?_ | refine g_ok rfl rfl ?_ | refine g_no rfl ?_ | refine g_no0 rfl ?_ | refine g_bk ?_ | refine g_b ?_ | refine g_sk ?_ | refine g_cT rfl ?_ | refine g_cF rfl ?_ | refine g_x rfl ?_ | refine g_lb ?_))
    refine g_l1 rfl rfl (hS.b  0 rfl) rfl ?_
    (repeat (first | refine g_sq ?_ | refine g_rg ?_ | refine g_r0 ?_ | refine g_ok rfl rfl ?_ | refine g_no rfl ?_ | refine g_no0 rfl ?_ | refine g_bk ?_ | refine g_b ?_ | refine g_sk ?_ | refine g_cT rfl ?_ | refine g_cF rfl ?_ | refine g_x rfl ?_ | refine g_lb ?_))
    (generalize q2 : cmv _ _ _ = q; cases q <;> simp only [cmv, arv, Bool.not_eq_true', Bool.not_eq_false', decide_eq_true_eq, decide_eq_false_iff_not] at q2 <;> first | (exfalso; omega) | skip)
    · (repeat (first | refine g_sq ?_ | refine g_rg ?_ | refine g_r0 ?_ | refine g_ok rfl rfl ?_ | refine g_no rfl ?_ | refine g_no0 rfl ?_ | refine g_bk ?_ | refine g_b ?_ | refine g_sk ?_ | refine g_cT rfl ?_ | refine g_cF rfl ?_ | refine g_x rfl ?_ | refine g_lb ?_))
      refine g_l1 rfl rfl (hS.b  0 rfl) rfl ?_
      (repeat (first | refine g_sq ?_ | refine g_rg ?_ | refine g_r0 ?_ | refine g_ok rfl rfl ?_ | refine g_no rfl ?_ | refine g_no0 rfl ?_ | refine g_bk ?_ | refine g_b ?_ | refine g_sk ?_ | refine g_cT rfl ?_ | refine g_cF rfl ?_ | refine g_x rfl ?_ | refine g_lb ?_))
      (generalize q3 : cmv _ _ _ = q; cases q <;> simp only [cmv, arv, Bool.not_eq_true', Bool.not_eq_false', decide_eq_true_eq, decide_eq_false_iff_not] at q3 <;> first | (exfalso; omega) | skip)
      · (repeat (first | refine g_sq ?_ | refine g_rg ?_ | refine g_r0 ?_ | refine g_ok rfl rfl ?_ | refine g_no rfl ?_ | refine g_no0 rfl ?_ | refine g_bk ?_ | refine g_b ?_ | refine g_sk ?_ | refine g_cT rfl ?_ | refine g_cF rfl ?_ | refine g_x rfl ?_ | refine g_lb ?_))
        refine g_l1 rfl rfl (hS.b  0 rfl) rfl ?_
        (repeat (first | refine g_sq ?_ | refine g_rg ?_ | refine g_r0 ?_ | refine g_ok rfl rfl ?_ | refine g_no rfl ?_ | refine g_no0 rfl ?_ | refine g_bk ?_ | refine g_b ?_ | refine g_sk ?_ | refine g_cT rfl ?_ | refine g_cF rfl ?_ | refine g_x rfl ?_ | refine g_lb ?_))
        (generalize q4 : cmv _ _ _ = q; cases q <;> simp only [cmv, arv, Bool.not_eq_true', Bool.not_eq_false', decide_eq_true_eq, decide_eq_false_iff_not] at q4 <;> first | (exfalso; omega) | skip)
        · rw [if_pos (decide_eq_true (by omega))] at h
          (repeat (first | refine g_sq ?_ | refine g_rg ?_ | refine g_r0 ?_ | refine g_ok rfl rfl ?_ | refine g_no rfl ?_ | refine g_no0 rfl ?_ | refine g_bk ?_ | refine g_b ?_ | refine g_sk ?_ | refine g_cT rfl ?_ | refine g_cF rfl ?_ | refine g_x rfl ?_ | refine g_lb ?_))
          exact g_ret (q_1 rfl (h _ (hS.sel [] rfl rfl)))
        · rw [if_neg (by rw [decide_eq_true_eq]; omega)] at h
          (repeat (first | refine g_sq ?_ | refine g_rg ?_ | refine g_r0 ?_ | refine g_ok rfl rfl ?_ | refine g_no rfl ?_ | refine g_no0 rfl ?_ | refine g_bk ?_ | refine g_b ?_ | refine g_sk ?_ | refine g_cT rfl ?_ | refine g_cF rfl ?_ | refine g_x rfl ?_ | refine g_lb ?_))
          exact g_ret (q_1 rfl (h _ (hS.sel [] rfl rfl)))
      · rw [if_neg (by rw [decide_eq_true_eq]; omega)] at h
        (repeat (first | refine g_sq ?_ | refine g_rg ?_ | refine g_r0 ?_ | refine g_ok rfl rfl ?_ | refine g_no rfl ?_ | refine g_no0 rfl ?_ | refine g_bk ?_ | refine g_b ?_ | refine g_sk ?_ | refine g_cT rfl ?_ | refine g_cF rfl ?_ | refine g_x rfl ?_ | refine g_lb ?_))
        exact g_ret (q_1 rfl (h _ (hS.sel [] rfl rfl)))
    · rw [if_neg (by rw [decide_eq_true_eq]; omega)] at h
      (repeat (first | refine g_sq ?_ | refine g_rg ?_ | refine g_r0 ?_ | refine g_ok rfl rfl ?_ | refine g_no rfl ?_ | refine g_no0 rfl ?_ | refine g_bk ?_ | refine g_b ?_ | refine g_sk ?_ | refine g_cT rfl ?_ | refine g_cF rfl ?_ | refine g_x rfl ?_ | refine g_lb ?_))
      exact g_ret (q_1 rfl (h _ (hS.sel [] rfl rfl)))
  · rw [if_neg (by rw [decide_eq_true_eq]; omega)] at h
    (repeat (first | refine g_sq ?_ | refine g_rg ?_ | refine g_r0 ?_ | refine g_ok rfl rfl ?_ | refine g_no rfl ?_ | refine g_no0 rfl ?_ | refine g_bk ?_ | refine g_b ?_ | refine g_sk ?_ | refine g_cT rfl ?_ | refine g_cF rfl ?_ | refine g_x rfl ?_ | refine g_lb ?_))
    exact g_ret (q_1 rfl (h _ (hS.sel [] rfl rfl)))
theorem r_dotCheck {a b : Int} (h : ∀ w', St w (fun _ => False) w' [] → K (.int .i64 (dotE a b)) w') : CK Tryd.prog 17 [.agg ⟨dc a b⟩] w K := by
  have hS := St.nil w (fun _ => False)
  refine call_k Tryd.func17 k17 Tryd.ntmps17 (Nat.le_of_ble_eq_true rfl) ?_
  (repeat (first | refine g_sq ?_ | refine g_rg ?_ | refine g_r0 ?_ | refine g_ok rfl rfl ?_ | refine g_no rfl ?_ | refine g_no0 rfl ?_ | refine g_bk ?_ | refine g_b ?_ | refine g_sk ?_ | refine g_cT rfl ?_ | refine g_cF rfl ?_ | refine g_x rfl ?_ | refine g_lb ?_))
  refine g_ef rfl (ef_bx hS rfl fun b1 w1 hS => ?_)
  replace hS : St w (fun _ => False) w1 [cel b1 (dc a b) 24] := hS
  unfold dotE dotB at h
  (repeat (first | refine g_sq ?_ | refine g_rg ?_ | refine g_r0 ?_ | refine g_ok rfl rfl ?_ | refine g_no rfl ?_ | refine g_no0 rfl ?_ | refine g_bk ?_ | refine g_b ?_ | refine g_sk ?_ | refine g_cT rfl ?_ | refine g_cF rfl ?_ | refine g_x rfl ?_ | refine g_lb ?_))
  refine g_l1 rfl rfl (hS.b  0 rfl) rfl ?_
  (repeat (first | refine g_sq ?_ | refine g_rg ?_ | refine g_r0 ?_ | refine g_ok rfl rfl ?_ | refine g_no rfl ?_ | refine g_no0 rfl ?_ | refine g_bk ?_ | refine g_b ?_ | refine g_sk ?_ | refine g_cT rfl ?_ | refine g_cF rfl ?_ | refine g_x rfl ?_ | refine g_lb ?_))
  (generalize q1 : cmv _ _ _ = q; cases q <;> simp only [cmv, arv, Bool.not_eq_true', Bool.not_eq_false', decide_eq_true_eq, decide_eq_false_iff_not] at q1 <;> first | (exfalso; omega) | skip)
  · (repeat (first | refine g_sq ?_ | refine g_rg ?_ | refine g_r0 ?_ | refine g_ok rfl rfl ?_ | refine g_no rfl ?_ | refine g_no0 rfl ?_ | refine g_bk ?_ | refine g_b ?_ | refine g_sk ?_ | refine g_cT rfl ?_ | refine g_cF rfl ?_ | refine g_x rfl ?_ | refine g_lb ?_))
    refine g_l1 rfl rfl (hS.b  0 rfl) rfl ?_
    (repeat (first | refine g_sq ?_ | refine g_rg ?_ | refine g_r0 ?_ | refine g_ok rfl rfl ?_ | refine g_no rfl ?_ | refine g_no0 rfl ?_ | refine g_bk ?_ | refine g_b ?_ | refine g_sk ?_ | refine g_cT rfl ?_ | refine g_cF rfl ?_ | refine g_x rfl ?_ | refine g_lb ?_))
    (generalize q2 : cmv _ _ _ = q; cases q <;> simp only [cmv, arv, Bool.not_eq_true', Bool.not_eq_false', decide_eq_true_eq, decide_eq_false_iff_not] at q2 <;> first | (exfalso; omega) | skip)
    · (repeat (first | refine g_sq ?_ | refine g_rg ?_ | refine g_r0 ?_ | refine g_ok rfl rfl ?_ | refine g_no rfl ?_ | refine g_no0 rfl ?_ | refine g_bk ?_ | refine g_b ?_ | refine g_sk ?_ | refine g_cT rfl ?_ | refine g_cF rfl ?_ | refine g_x rfl ?_ | refine g_lb ?_))
      refine g_l1 rfl rfl (hS.b  0 rfl) rfl ?_
      (repeat (first | refine g_sq ?_ | refine g_rg ?_ | refine g_r0 ?_ | refine g_ok rfl rfl ?_ | refine g_no rfl ?_ | refine g_no0 rfl ?_ | refine g_bk ?_ | refine g_b ?_ | refine g_sk ?_ | refine g_cT rfl ?_ | refine g_cF rfl ?_ | refine g_x rfl ?_ | refine g_lb ?_))
      (generalize q3 : cmv _ _ _ = q; cases q <;> simp only [cmv, arv, Bool.not_eq_true', Bool.not_eq_false', decide_eq_true_eq, decide_eq_false_iff_not] at q3 <;> first | (exfalso; omega) | skip)
      · (repeat (first | refine g_sq ?_ | refine g_rg ?_ | refine g_r0 ?_ | refine g_ok rfl rfl ?_ | refine g_no rfl ?_ | refine g_no0 rfl ?_ | refine g_bk ?_ | refine g_b ?_ | refine g_sk ?_ | refine g_cT rfl ?_ | refine g_cF rfl ?_ | refine g_x rfl ?_ | refine g_lb ?_))
        refine g_l1 rfl rfl (hS.b  0 rfl) rfl ?_
        (repeat (first | refine g_sq ?_ | refine g_rg ?_ | refine g_r0 ?_ | refine g_ok rfl rfl ?_ | refine g_no rfl ?_ | refine g_no0 rfl ?_ | refine g_bk ?_ | refine g_b ?_ | refine g_sk ?_ | refine g_cT rfl ?_ | refine g_cF rfl ?_ | refine g_x rfl ?_ | refine g_lb ?_))
        (generalize q4 : cmv _ _ _ = q; cases q <;> simp only [cmv, arv, Bool.not_eq_true', Bool.not_eq_false', decide_eq_true_eq, decide_eq_false_iff_not] at q4 <;> first | (exfalso; omega) | skip)
        · rw [if_pos (decide_eq_true (by omega))] at h
          (repeat (first | refine g_sq ?_ | refine g_rg ?_ | refine g_r0 ?_ | refine g_ok rfl rfl ?_ | refine g_no rfl ?_ | refine g_no0 rfl ?_ | refine g_bk ?_ | refine g_b ?_ | refine g_sk ?_ | refine g_cT rfl ?_ | refine g_cF rfl ?_ | refine g_x rfl ?_ | refine g_lb ?_))
          exact g_ret (q_1 rfl (h _ (hS.sel [] rfl rfl)))
        · rw [if_neg (by rw [decide_eq_true_eq]; omega)] at h
          (repeat (first | refine g_sq ?_ | refine g_rg ?_ | refine g_r0 ?_ | refine g_ok rfl rfl ?_ | refine g_no rfl ?_ | refine g_no0 rfl ?_ | refine g_bk ?_ | refine g_b ?_ | refine g_sk ?_ | refine g_cT rfl ?_ | refine g_cF rfl ?_ | refine g_x rfl ?_ | refine g_lb ?_))
          exact g_ret (q_1 rfl (h _ (hS.sel [] rfl rfl)))
      · rw [if_neg (by rw [decide_eq_true_eq]; omega)] at h
        (repeat (first | refine g_sq ?_ | refine g_rg ?_ | refine g_r0 ?_ | refine g_ok rfl rfl ?_ | refine g_no rfl ?_ | refine g_no0 rfl ?_ | refine g_bk ?_ | refine g_b ?_ | refine g_sk ?_ | refine g_cT rfl ?_ | refine g_cF rfl ?_ | refine g_x rfl ?_ | refine g_lb ?_))
        exact g_ret (q_1 rfl (h _ (hS.sel [] rfl rfl)))
    · rw [if_neg (by rw [decide_eq_true_eq]; omega)] at h
      (repeat (first | refine g_sq ?_ | refine g_rg ?_ | refine g_r0 ?_ | refine g_ok rfl rfl ?_ | refine g_no rfl ?_ | refine g_no0 rfl ?_ | refine g_bk ?_ | refine g_b ?_ | refine g_sk ?_ | refine g_cT rfl ?_ | refine g_cF rfl ?_ | refine g_x rfl ?_ | refine g_lb ?_))
      exact g_ret (q_1 rfl (h _ (hS.sel [] rfl rfl)))
  · rw [if_neg (by rw [decide_eq_true_eq]; omega)] at h
    (repeat (first | refine g_sq ?_ | refine g_rg ?_ | refine g_r0 ?_ | refine g_ok rfl rfl ?_ | refine g_no rfl ?_ | refine g_no0 rfl ?_ | refine g_bk ?_ | refine g_b ?_ | refine g_sk ?_ | refine g_cT rfl ?_ | refine g_cF rfl ?_ | refine g_x rfl ?_ | refine g_lb ?_))
    exact g_ret (q_1 rfl (h _ (hS.sel [] rfl rfl)))
end
end Go.Proofs.YtbdpcpafjphmpaaDoor
