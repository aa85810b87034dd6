/- The statements of the device: an operation of both. -/
import Derived.Test.YtegjocpjmfaigaaLa
set_option linter.unusedSimpArgs false
set_option linter.unusedVariables false
namespace Go.Proofs.Ytegjocpjmfaigaa
open Go.En

section
variable {E : Env} {ks : List KI} {T : TT} {D : List Deferred} {w : World} {Q : QX}
theorem g_atx {ι : Type} (n : Nat) (T' : ι → TT) (I : ι → World → Prop) (hn : noD n ks = true) (h1 : G E (insA (.l (fun T1 D1 w1 => D1 = D ∧ ∃ x, SubL (T' x) T1 ∧ I x w1)) n ks) T D w Q) (h2 : ∀ x T w, SubL (T' x) T → I x w → G E (ks.drop n) T D w Q) : G E ks T D w Q :=
  kq_ins n ks hn (fun T1 D1 w1 ⟨hD, x, hs, hI⟩ => hD ▸ h2 x T1 w1 hs hI) _ _ _ _ h1
theorem g_jx {ι : Type} {T' : ι → TT} {I : ι → World → Prop} (x : ι) (hs : SubL (T' x) T) (hI : I x w) : G E (.l (fun T1 D1 w1 => D1 = D ∧ ∃ x, SubL (T' x) T1 ∧ I x w1) :: ks) T D w Q := ⟨rfl, x, hs, hI⟩
end
structure Opd where
  k : Int
  a : Int
  v : Value
  bs : List UInt8
  f : Fal
def opv (o : Opd) : List Value := [.int .i64 o.k, .int .i64 o.a, o.v, .int .i64 o.f.a, .int .i64 o.f.k, .int .i64 o.f.t]

theorem qt_bsR {P : Program} {T : TT} {w : World} {x : Operand} {v : Value} {E n : Nat} {bs : List UInt8} (hx : ev T x = some v) (hr : Rd v E 1 n (bys bs) w) : Qt P (.bs x) T w (.string ⟨bs.toArray⟩) := by
  rcases hr with ⟨⟨a, rfl⟩, rfl, hb⟩ | ⟨b, off, cap, l, rfl, hc, hl, hx', hB⟩
  · have : bs = [] := by
      have := congrArg List.length hb
      simpa using this
    subst this
    exact qt_bs0 hx
  · rw [Nat.mul_one] at hx'
    exact qt_bs hx hB (by omega) hx'
theorem inc8 (b : UInt8) : IntKind.u8.wrap (arv .add (b.toNat : Int) 1) = ((b + 1).toNat : Int) := by
  revert b
  have key : ∀ n : Fin 256, IntKind.u8.wrap (arv .add (n.val : Int) 1) = (((n.val + 1) % 256 : Nat) : Int) := by decide +kernel
  intro b
  have h := key ⟨b.toNat, b.toNat_lt⟩
  rw [h, UInt8.toNat_add]
  rfl
theorem bys_set (bs : List UInt8) (rest : List Value) (i : Nat) (x : UInt8) (h : i < bs.length) : spl (bys bs ++ rest) (0 + i * 1) [.int .u8 (x.toNat : Int)] = bys (bs.set i x) ++ rest := by
  have : spl (bys bs ++ rest) i [.int .u8 (x.toNat : Int)] = (bys bs ++ rest).set i (.int .u8 (x.toNat : Int)) := by
    rw [List.set_eq_take_append_cons_drop, if_pos (by simp; omega)]
    simp [spl]
  rw [Nat.zero_add, Nat.mul_one, this, List.set_append_left _ _ (by simpa using h)]
  simp [bys, List.map_set]
/-- nothing is lost, and one write at most waits more -/
def Fit (D D' : Dev) : Prop := D'.cells.length = D.cells.length ∧ D'.waits.length ≤ D.waits.length + 1
theorem Fit.refl (D : Dev) : Fit D D := ⟨rfl, by omega⟩
theorem crash_fit (D : Dev) (f : Fal) : (D.crash f).cells.length = D.cells.length ∧ (D.crash f).waits.length ≤ D.waits.length := ⟨crashC_len _ _ _ _, Nat.zero_le _⟩
theorem oper_fit (D : Dev) : D.oper.1.cells.length = D.cells.length ∧ D.oper.1.waits.length ≤ D.waits.length := by
  unfold Dev.oper
  split
  · exact crash_fit _ _
  · exact ⟨rfl, Nat.le_refl _⟩
theorem write_fit (D : Dev) (i : Int) (bs : List UInt8) : Fit D (D.write i bs).1 := by
  unfold Dev.write
  split
  · exact Fit.refl D
  · split
    · have := oper_fit (D.wr1 i bs)
      refine ⟨this.1, Nat.le_trans this.2 ?_⟩
      simp [Dev.wr1]
    · exact Fit.refl D
theorem sync_fit (D : Dev) : Fit D D.sync.1 := by
  unfold Dev.sync
  have := oper_fit D
  split
  · exact Fit.refl D
  · split
    · exact ⟨(putAll_len _ _).trans this.1, Nat.zero_le _⟩
    · exact ⟨this.1, by omega⟩
theorem arm_fit (D : Dev) (f : Fal) : Fit D (if D.down then D else D.arm f) := by split <;> exact ⟨rfl, by simp [Dev.arm]⟩
theorem crsh_fit (D : Dev) (f : Fal) : Fit D (if D.down then D else D.crash f) := by
  split
  · exact Fit.refl D
  · exact ⟨(crash_fit D f).1, by have := (crash_fit D f).2; omega⟩

section
variable {w w0 : World} {S0 S S' : Nat → Prop} {K : Value → World → Prop} {p d r : Nat} {D : Dev} {B L : List Res}
set_option maxRecDepth 100000 in
theorem l20 {o : Opd} {E : Nat} (hn : D.waits.length < 1000000) (hl : D.cells.length ≤ 4096) (hb : Rd o.v E 1 o.bs.length (bys o.bs) w0) (hln : o.bs.length ≤ 1000000) (hS : St w0 (fun _ => False) w [cel p [dp d, dp r] 33, DevR S d D, RefR S' r D])
    (h : ∀ w' d' r' S S' D', Fit D D' → St w0 (fun _ => False) w' [cel p [dp d', dp r'] 33, DevR S d' D', RefR S' r' D'] → K (.bool true) w') : CK Try.prog 20 [dp p, .agg ⟨opv o⟩] w K := by
  have hro : ∀ {w' : World} {L' : List Res}, St w0 (fun _ => False) w' L' → Rd o.v E 1 o.bs.length (bys o.bs) w' := fun hS => hS.ro (r := rdR o.v E 1 o.bs.length (bys o.bs)) hb fun x hx => ⟨hb.lt x hx, fun h => h⟩
  have hnew : ∀ {w' : World} {L' : List Res} {i : Nat} {r : Res}, St w0 (fun _ => False) w' L' → L'[i]? = some r → ∀ x, vb o.v x → ¬ r.ids x := fun hS hi x hx hr => by
    have := hb.lt x hx
    rcases hS.src _ _ hi x hr with h | h
    · exact h
    · omega
  obtain ⟨av, cv, ev⟩ := Rd.form hb
  refine call_k Try.func20 k20 Try.ntmps20 (Nat.le_of_ble_eq_true rfl) ?_
  (repeat (first | refine g_sq ?_ | refine g_rg ?_ | refine g_r0 ?_ | refine g_ok rfl rfl ?_ | refine g_no rfl ?_ | refine g_no0 rfl ?_ | refine g_bk ?_ | refine g_b ?_ | refine g_sk ?_ | refine g_cT rfl ?_ | refine g_cF rfl ?_ | refine g_x rfl ?_ | refine g_lb ?_))
  refine g_ef rfl (ef_bx hS rfl fun b3 w hS => ?_)
  (repeat (first | refine g_sq ?_ | refine g_rg ?_ | refine g_r0 ?_ | refine g_ok rfl rfl ?_ | refine g_no rfl ?_ | refine g_no0 rfl ?_ | refine g_bk ?_ | refine g_b ?_ | refine g_sk ?_ | refine g_cT rfl ?_ | refine g_cF rfl ?_ | refine g_x rfl ?_ | refine g_lb ?_))
  refine g_l1 rfl rfl (hS.b  3 rfl) rfl ?_
  (repeat (first | refine g_sq ?_ | refine g_rg ?_ | refine g_r0 ?_ | refine g_ok rfl rfl ?_ | refine g_no rfl ?_ | refine g_no0 rfl ?_ | refine g_bk ?_ | refine g_b ?_ | refine g_sk ?_ | refine g_cT rfl ?_ | refine g_cF rfl ?_ | refine g_x rfl ?_ | refine g_lb ?_))
  refine g_cd rfl (fun hk => ?_) (fun hk => ?_)
  · -- a write
    (repeat (first | refine g_sq ?_ | refine g_rg ?_ | refine g_r0 ?_ | refine g_ok rfl rfl ?_ | refine g_no rfl ?_ | refine g_no0 rfl ?_ | refine g_bk ?_ | refine g_b ?_ | refine g_sk ?_ | refine g_cT rfl ?_ | refine g_cF rfl ?_ | refine g_x rfl ?_ | refine g_lb ?_))
    refine g_l1 rfl rfl (hS.b  3 rfl) rfl ?_
    refine g_cl rfl rfl (b70 (hro hS) (bys_one _) (by omega) fun v1 w1 h' => ?_)
    have hS := hS.call0.2 w1 _ h'
    (repeat (first | refine g_sq ?_ | refine g_rg ?_ | refine g_r0 ?_ | refine g_ok rfl rfl ?_ | refine g_no rfl ?_ | refine g_no0 rfl ?_ | refine g_bk ?_ | refine g_b ?_ | refine g_sk ?_ | refine g_cT rfl ?_ | refine g_cF rfl ?_ | refine g_x rfl ?_ | refine g_lb ?_))
    refine g_dr mixed ?_
    have hS := hS.drew
    (repeat (first | refine d_ok rfl rfl rfl ?_ | refine d_no rfl rfl ?_))
    refine d_l1 rfl rfl rfl (hS.b 0 rfl) rfl ?_
    (repeat (first | refine d_ok rfl rfl rfl ?_ | refine d_no rfl rfl ?_))
    refine d_l1 rfl rfl rfl (hS.b 3 rfl) rfl ?_
    (repeat (first | refine d_ok rfl rfl rfl ?_ | refine d_no rfl rfl ?_))
    refine d_l1 rfl rfl rfl (hS.b 0 rfl) rfl ?_
    (repeat (first | refine d_ok rfl rfl rfl ?_ | refine d_no rfl rfl ?_))
    refine d_l1 rfl rfl rfl (hS.b 3 rfl) rfl ?_
    (repeat (first | refine d_ok rfl rfl rfl ?_ | refine d_no rfl rfl ?_))
    refine d_l1 rfl rfl rfl (hS.b 3 rfl) rfl ?_
    have hS := hS.sel [1, 0, 2, 3, 4] rfl rfl
    refine d_cl rfl rfl rfl (c23 hS (Ow.rd (hS.ok 4 _ rfl)) (fun x hx hs => hS.dis 0 4 _ _ rfl rfl (by decide) x hs (vb_vo hx)) (by omega) fun w1 S1 hS => ⟨rc_1 rfl rfl rfl rfl (hS.b 1 rfl) rfl (rc_1 rfl rfl rfl rfl (hS.b 3 rfl) rfl (rc_1 rfl rfl rfl rfl (hS.b 3 rfl) rfl rc_0)), ?_⟩)
    have hS := hS.sel [2, 0, 1, 3, 4] rfl rfl
    refine d_cl rfl rfl rfl (rc71 hS (hro hS) (fun x hx => hnew hS (i := 0) rfl x hx) (by omega) fun w1 S2 hS => ⟨rc_0, ?_⟩)
    refine d_ok (v := .bool true) rfl rfl (congrArg (fun x => R3.ok (.bool x)) (cmv_self _)) ?_
    (repeat (first | refine d_ok rfl rfl rfl ?_ | refine d_no rfl rfl ?_))
    refine d_qt rfl rfl rfl (qt_bsR rfl (Ow.rd (hS.ok 4 _ rfl))) ?_
    (repeat (first | refine d_ok rfl rfl rfl ?_ | refine d_no rfl rfl ?_))
    refine d_l1 rfl rfl rfl (hS.b 3 rfl) rfl ?_
    refine d_qt rfl rfl rfl (qt_bsR rfl (hro hS)) ?_
    refine d_ok (v := .bool true) rfl rfl (congrArg (fun x => R3.ok (.bool x)) (decide_eq_true rfl)) ?_
    (repeat (first | refine d_ok rfl rfl rfl ?_ | refine d_no rfl rfl ?_))
    refine d_fin ?_
    obtain ⟨a1, c1, rfl⟩ := hS.rlen 4 rfl
    (repeat (first | refine g_sq ?_ | refine g_rg ?_ | refine g_r0 ?_ | refine g_ok rfl rfl ?_ | refine g_no rfl ?_ | refine g_no0 rfl ?_ | refine g_bk ?_ | refine g_b ?_ | refine g_sk ?_ | refine g_cT rfl ?_ | refine g_cF rfl ?_ | refine g_x rfl ?_ | refine g_lb ?_))
    refine g_lp (ι := Nat) (fun k => [(5, .slice a1 o.bs.length c1), (6, .bool true), (49, .int .i64 o.bs.length), (50, .int .i64 k)])
      (fun k w => k ≤ o.bs.length ∧ ∃ bk, bk.length = o.bs.length ∧ St w0 (fun _ => False) w [RefR S2 r (D.write o.a o.bs).1, DevR S1 d (D.write o.a o.bs).1, cel p [dp d, dp r] 33, row (.slice a1 o.bs.length c1) 5 1 o.bs.length (bys bk)]) (fun k => o.bs.length - k) 0 ⟨rfl, rfl, rfl, rfl, trivial⟩ ⟨Nat.zero_le _, o.bs, rfl, hS.sel [0, 1, 2, 4] rfl rfl⟩ ?_
    clear hS
    rintro k w ⟨hkl, bk, hbk, hS⟩
    (repeat (first | refine g_sq ?_ | refine g_rg ?_ | refine g_r0 ?_ | refine g_ok rfl rfl ?_ | refine g_no rfl ?_ | refine g_no0 rfl ?_ | refine g_bk ?_ | refine g_b ?_ | refine g_sk ?_ | refine g_cT rfl ?_ | refine g_cF rfl ?_ | refine g_x rfl ?_ | refine g_lb ?_))
    refine g_cd rfl (fun hc => ?_) (fun hc => ?_)
    all_goals simp only [cmv, decide_eq_true_eq, decide_eq_false_iff_not] at hc
    · have hlt : k < bk.length := by omega
      obtain ⟨b1, cap1, rest1, hv, h1c, h2c, hS⟩ := hS.open_row 3 rfl (hS.rowb 3 rfl (by omega))
      cases hv
      (repeat (first | refine g_sq ?_ | refine g_rg ?_ | refine g_r0 ?_ | refine g_ok rfl rfl ?_ | refine g_no rfl ?_ | refine g_no0 rfl ?_ | refine g_bk ?_ | refine g_b ?_ | refine g_sk ?_ | refine g_cT rfl ?_ | refine g_cF rfl ?_ | refine g_x rfl ?_ | refine g_lb ?_))
      refine g_rq rfl rfl ⟨by omega, by omega⟩ ?_
      refine g_l1 (v := .int .u8 ((bk[k]).toNat : Int)) rfl rfl (hS.b 3 rfl) (by
        show (bys bk ++ rest1)[0 + k * 1]? = _
        rw [Nat.zero_add, Nat.mul_one, List.getElem?_append_left (by simpa using hlt)]
        simp [bys, hlt]) ?_
      (repeat (first | refine g_sq ?_ | refine g_rg ?_ | refine g_r0 ?_ | refine g_ok rfl rfl ?_ | refine g_no rfl ?_ | refine g_no0 rfl ?_ | refine g_bk ?_ | refine g_b ?_ | refine g_sk ?_ | refine g_cT rfl ?_ | refine g_cF rfl ?_ | refine g_x rfl ?_ | refine g_lb ?_))
      refine g_rq rfl rfl ⟨by omega, by omega⟩ ?_
      refine g_ef0 rfl ?_
      refine ef_st (u := .int .u8 ((bk[k] + 1).toNat : Int)) hS 3 rfl rfl (congrArg (fun x => some (Value.int .u8 x)) (inc8 bk[k])) rfl (by
        show 0 + k * 1 + 1 ≤ (bys bk ++ rest1).length
        simp; omega) rfl fun w hS => ?_
      have hS := hS.ceq 3 rfl (bys_set bk rest1 k (bk[k] + 1) hlt)
      have hS := hS.close_row (sz := 1) (n := o.bs.length) (cap := c1) 3 rfl h1c (by simp [hbk]) (List.prefix_append _ _) (by rw [← h2c]; simp)
      (repeat (first | refine g_sq ?_ | refine g_rg ?_ | refine g_r0 ?_ | refine g_ok rfl rfl ?_ | refine g_no rfl ?_ | refine g_no0 rfl ?_ | refine g_bk ?_ | refine g_b ?_ | refine g_sk ?_ | refine g_cT rfl ?_ | refine g_cF rfl ?_ | refine g_x rfl ?_ | refine g_lb ?_))
      refine g_rq rfl rfl (in64 (by simp only [arv]; omega)) ?_
      (repeat (first | refine g_sq ?_ | refine g_rg ?_ | refine g_r0 ?_ | refine g_ok rfl rfl ?_ | refine g_no rfl ?_ | refine g_no0 rfl ?_ | refine g_bk ?_ | refine g_b ?_ | refine g_sk ?_ | refine g_cT rfl ?_ | refine g_cF rfl ?_ | refine g_x rfl ?_ | refine g_lb ?_))
      exact g_l (k + 1) ⟨rfl, rfl, rfl, rfl, trivial⟩ ⟨by omega, bk.set k (bk[k] + 1), by simpa using hbk, hS⟩ (by omega)
    · (repeat (first | refine g_sq ?_ | refine g_rg ?_ | refine g_r0 ?_ | refine g_ok rfl rfl ?_ | refine g_no rfl ?_ | refine g_no0 rfl ?_ | refine g_bk ?_ | refine g_b ?_ | refine g_sk ?_ | refine g_cT rfl ?_ | refine g_cF rfl ?_ | refine g_x rfl ?_ | refine g_lb ?_))
      exact g_ret (q_1 rfl (h _ _ _ _ _ _ (write_fit D o.a o.bs) (hS.sel [2, 1, 0] rfl rfl)))
  (repeat (first | refine g_sq ?_ | refine g_rg ?_ | refine g_r0 ?_ | refine g_ok rfl rfl ?_ | refine g_no rfl ?_ | refine g_no0 rfl ?_ | refine g_bk ?_ | refine g_b ?_ | refine g_sk ?_ | refine g_cT rfl ?_ | refine g_cF rfl ?_ | refine g_x rfl ?_ | refine g_lb ?_))
  refine g_cd rfl (fun hk => ?_) (fun hk => ?_)
  · -- a sync
    (repeat (first | refine g_sq ?_ | refine g_rg ?_ | refine g_r0 ?_ | refine g_ok rfl rfl ?_ | refine g_no rfl ?_ | refine g_no0 rfl ?_ | refine g_bk ?_ | refine g_b ?_ | refine g_sk ?_ | refine g_cT rfl ?_ | refine g_cF rfl ?_ | refine g_x rfl ?_ | refine g_lb ?_))
    refine g_dr mixed ?_
    have hS := hS.drew
    (repeat (first | refine d_ok rfl rfl rfl ?_ | refine d_no rfl rfl ?_))
    refine d_l1 rfl rfl rfl (hS.b 0 rfl) rfl ?_
    (repeat (first | refine d_ok rfl rfl rfl ?_ | refine d_no rfl rfl ?_))
    refine d_l1 rfl rfl rfl (hS.b 0 rfl) rfl ?_
    have hS := hS.sel [1, 0, 2] rfl rfl
    refine d_cl rfl rfl rfl (c24 hS fun w1 S1 hS => ⟨rc_1 rfl rfl rfl rfl (hS.b 1 rfl) rfl rc_0, ?_⟩)
    have hS := hS.sel [2, 0, 1] rfl rfl
    refine d_cl rfl rfl rfl (rc72 hS fun w1 S2 hS => ⟨rc_0, ?_⟩)
    refine d_ok (v := .bool true) rfl rfl (congrArg (fun x => R3.ok (.bool x)) (cmv_self _)) ?_
    (repeat (first | refine d_ok rfl rfl rfl ?_ | refine d_no rfl rfl ?_))
    refine d_fin ?_
    exact g_ret (q_1 rfl (h _ _ _ _ _ _ (sync_fit D) (hS.sel [2, 1, 0] rfl rfl)))
  (repeat (first | refine g_sq ?_ | refine g_rg ?_ | refine g_r0 ?_ | refine g_ok rfl rfl ?_ | refine g_no rfl ?_ | refine g_no0 rfl ?_ | refine g_bk ?_ | refine g_b ?_ | refine g_sk ?_ | refine g_cT rfl ?_ | refine g_cF rfl ?_ | refine g_x rfl ?_ | refine g_lb ?_))
  refine g_cd rfl (fun hk => ?_) (fun hk => ?_)
  · -- a read
    (repeat (first | refine g_sq ?_ | refine g_rg ?_ | refine g_r0 ?_ | refine g_ok rfl rfl ?_ | refine g_no rfl ?_ | refine g_no0 rfl ?_ | refine g_bk ?_ | refine g_b ?_ | refine g_sk ?_ | refine g_cT rfl ?_ | refine g_cF rfl ?_ | refine g_x rfl ?_ | refine g_lb ?_))
    refine g_atx (ι := Value × Int × Nat × List UInt8) 1 (fun x => [(0, dp p), (3, dp b3), (8, x.1), (9, .int .i64 x.2.1)])
      (fun x w => ((D.down = true ∧ x.2.1 = 141 ∧ x.2.2 = (0, [])) ∨ (D.down = false ∧ ¬ (0 ≤ o.a ∧ o.a < D.cells.length) ∧ x.2.1 = 140 ∧ x.2.2 = (0, [])) ∨ (D.down = false ∧ (0 ≤ o.a ∧ o.a < D.cells.length) ∧ x.2.1 = 0 ∧ x.2.2 = (128, D.rd o.a))) ∧
        ∃ S1, St w0 (fun _ => False) w [cel p [dp d, dp r] 33, DevR S1 d D, RefR S' r D, cel b3 (opv o) 39, row x.1 5 1 x.2.2.1 (bys x.2.2.2)]) rfl ?_ ?_
    · refine g_dr mixed ?_
      have hS := hS.drew
      (repeat (first | refine d_ok rfl rfl rfl ?_ | refine d_no rfl rfl ?_))
      refine d_l1 rfl rfl rfl (hS.b 0 rfl) rfl ?_
      (repeat (first | refine d_ok rfl rfl rfl ?_ | refine d_no rfl rfl ?_))
      refine d_l1 rfl rfl rfl (hS.b 3 rfl) rfl ?_
      have hS := hS.sel [1, 0, 2, 3] rfl rfl
      refine d_cl rfl rfl rfl (c33 hS (fun hd => ⟨rc_0, ?_⟩) (fun hd hi => ⟨rc_0, ?_⟩) (fun hd hi w1 S1 v1 hS => ⟨rc_0, ?_⟩))
      · (repeat (first | refine d_ok rfl rfl rfl ?_ | refine d_no rfl rfl ?_))
        refine d_fin (g_jx (.slice none 0 0, 141, 0, []) ⟨rfl, rfl, rfl, rfl, trivial⟩ ⟨.inl ⟨hd, rfl, rfl⟩, S, ?_⟩)
        exact (hS.nilrow 5 1).sel [1, 0, 2, 3, 4] rfl rfl
      · (repeat (first | refine d_ok rfl rfl rfl ?_ | refine d_no rfl rfl ?_))
        refine d_fin (g_jx (.slice none 0 0, 140, 0, []) ⟨rfl, rfl, rfl, rfl, trivial⟩ ⟨.inr (.inl ⟨hd, hi, rfl, rfl⟩), S, ?_⟩)
        exact (hS.nilrow 5 1).sel [1, 0, 2, 3, 4] rfl rfl
      · (repeat (first | refine d_ok rfl rfl rfl ?_ | refine d_no rfl rfl ?_))
        refine d_fin (g_jx (v1, 0, 128, D.rd o.a) ⟨rfl, rfl, rfl, rfl, trivial⟩ ⟨.inr (.inr ⟨hd, hi, rfl, rfl⟩), S1, ?_⟩)
        exact hS.sel [2, 0, 3, 4, 1] rfl rfl
    clear hS
    rintro ⟨v1, e, n1, bs⟩ T w hT ⟨hf, S1, hS⟩
    simp only at hf hS
    refine g_wkc hT ?_
    refine g_sq ?_
    refine g_atx (ι := Value) 1 (fun v2 => [(8, v1), (9, .int .i64 e), (10, v2), (11, .int .i64 e)])
      (fun v2 w => Rd v2 5 1 n1 (bys bs) w ∧ St w0 (fun _ => False) w [cel p [dp d, dp r] 33, DevR S1 d D, RefR S' r D, row v1 5 1 n1 (bys bs)]) rfl ?_ ?_
    · refine g_dr mixed ?_
      have hS := hS.drew
      (repeat (first | refine d_ok rfl rfl rfl ?_ | refine d_no rfl rfl ?_))
      refine d_l1 rfl rfl rfl (hS.b 0 rfl) rfl ?_
      (repeat (first | refine d_ok rfl rfl rfl ?_ | refine d_no rfl rfl ?_))
      refine d_l1 rfl rfl rfl (hS.b 3 rfl) rfl ?_
      have hS := hS.sel [2, 0, 1, 4] rfl rfl
      refine d_cl rfl rfl rfl (rc73 hS (fun hd => ⟨rc_0, ?_⟩) (fun hd hi => ⟨rc_0, ?_⟩) (fun hd hi v2 hr => ⟨rc_0, ?_⟩))
      · have hq : e = 141 ∧ (n1, bs) = (0, []) := by
          rcases hf with ⟨_, h1, h2⟩ | ⟨h1, _⟩ | ⟨h1, _⟩
          · exact ⟨h1, h2⟩
          · rw [hd] at h1; cases h1
          · rw [hd] at h1; cases h1
        obtain ⟨rfl, hq⟩ := hq
        obtain ⟨rfl, rfl⟩ := Prod.mk.inj hq
        (repeat (first | refine d_ok rfl rfl rfl ?_ | refine d_no rfl rfl ?_))
        exact d_fin (g_jx (.slice none 0 0) ⟨rfl, rfl, rfl, rfl, trivial⟩ ⟨.inl ⟨⟨none, rfl⟩, rfl, rfl⟩, hS.sel [1, 2, 0, 3] rfl rfl⟩)
      · have hq : e = 140 ∧ (n1, bs) = (0, []) := by
          rcases hf with ⟨h1, _⟩ | ⟨_, _, h1, h2⟩ | ⟨_, h1, _⟩
          · rw [hd] at h1; cases h1
          · exact ⟨h1, h2⟩
          · exact absurd h1 hi
        obtain ⟨rfl, hq⟩ := hq
        obtain ⟨rfl, rfl⟩ := Prod.mk.inj hq
        (repeat (first | refine d_ok rfl rfl rfl ?_ | refine d_no rfl rfl ?_))
        exact d_fin (g_jx (.slice none 0 0) ⟨rfl, rfl, rfl, rfl, trivial⟩ ⟨.inl ⟨⟨none, rfl⟩, rfl, rfl⟩, hS.sel [1, 2, 0, 3] rfl rfl⟩)
      · have hq : e = 0 ∧ (n1, bs) = (128, D.rd o.a) := by
          rcases hf with ⟨h1, _⟩ | ⟨_, h1, _⟩ | ⟨_, _, h1, h2⟩
          · rw [hd] at h1; cases h1
          · exact absurd hi h1
          · exact ⟨h1, h2⟩
        obtain ⟨rfl, hq⟩ := hq
        obtain ⟨rfl, rfl⟩ := Prod.mk.inj hq
        (repeat (first | refine d_ok rfl rfl rfl ?_ | refine d_no rfl rfl ?_))
        exact d_fin (g_jx v2 ⟨rfl, rfl, rfl, rfl, trivial⟩ ⟨hr, hS.sel [1, 2, 0, 3] rfl rfl⟩)
    have hbl : bs.length = n1 := by have := (Ow.rd (hS.ok 4 _ rfl)).len; simpa using this
    have hn1 : n1 ≤ 128 := by rcases hf with ⟨_, _, h2⟩ | ⟨_, _, _, h2⟩ | ⟨_, _, _, h2⟩ <;> cases h2 <;> decide
    clear hS hf
    rintro v2 T w hT ⟨hr2, hS⟩
    refine g_wkc hT ?_
    (repeat (first | refine g_sq ?_ | refine g_rg ?_ | refine g_r0 ?_ | refine g_ok rfl rfl ?_ | refine g_no rfl ?_ | refine g_no0 rfl ?_ | refine g_bk ?_ | refine g_b ?_ | refine g_sk ?_ | refine g_cT rfl ?_ | refine g_cF rfl ?_ | refine g_x rfl ?_ | refine g_lb ?_))
    refine g_qt rfl (qt_bsR rfl (Ow.rd (hS.ok 3 _ rfl))) ?_
    (repeat (first | refine g_sq ?_ | refine g_rg ?_ | refine g_r0 ?_ | refine g_ok rfl rfl ?_ | refine g_no rfl ?_ | refine g_no0 rfl ?_ | refine g_bk ?_ | refine g_b ?_ | refine g_sk ?_ | refine g_cT rfl ?_ | refine g_cF rfl ?_ | refine g_x rfl ?_ | refine g_lb ?_))
    refine g_qt rfl (qt_bsR rfl hr2) ?_
    refine g_ok (v := .bool true) rfl (congrArg (fun x => R3.ok (.bool x)) (decide_eq_true rfl)) ?_
    obtain ⟨a1, c1, rfl⟩ := hS.rlen 3 rfl
    (repeat (first | refine g_sq ?_ | refine g_rg ?_ | refine g_r0 ?_ | refine g_ok rfl rfl ?_ | refine g_no rfl ?_ | refine g_no0 rfl ?_ | refine g_bk ?_ | refine g_b ?_ | refine g_sk ?_ | refine g_cT rfl ?_ | refine g_cF rfl ?_ | refine g_x rfl ?_ | refine g_lb ?_))
    rw [cmv_self e]
    refine g_lp (ι := Nat) (fun k => [(8, .slice a1 n1 c1), (12, .bool true), (107, .int .i64 n1), (108, .int .i64 k)])
      (fun k w => k ≤ n1 ∧ ∃ bk, bk.length = n1 ∧ St w0 (fun _ => False) w [cel p [dp d, dp r] 33, DevR S1 d D, RefR S' r D, row (.slice a1 n1 c1) 5 1 n1 (bys bk)]) (fun k => n1 - k) 0 ⟨rfl, rfl, rfl, rfl, trivial⟩ ⟨Nat.zero_le _, bs, hbl, hS⟩ ?_
    clear hS hr2
    rintro k w ⟨hkl, bk, hbk, hS⟩
    (repeat (first | refine g_sq ?_ | refine g_rg ?_ | refine g_r0 ?_ | refine g_ok rfl rfl ?_ | refine g_no rfl ?_ | refine g_no0 rfl ?_ | refine g_bk ?_ | refine g_b ?_ | refine g_sk ?_ | refine g_cT rfl ?_ | refine g_cF rfl ?_ | refine g_x rfl ?_ | refine g_lb ?_))
    refine g_cd rfl (fun hc => ?_) (fun hc => ?_)
    all_goals simp only [cmv, decide_eq_true_eq, decide_eq_false_iff_not] at hc
    · have hlt : k < bk.length := by omega
      obtain ⟨b1, cap1, rest1, hv, h1c, h2c, hS⟩ := hS.open_row 3 rfl (hS.rowb 3 rfl (by omega))
      cases hv
      (repeat (first | refine g_sq ?_ | refine g_rg ?_ | refine g_r0 ?_ | refine g_ok rfl rfl ?_ | refine g_no rfl ?_ | refine g_no0 rfl ?_ | refine g_bk ?_ | refine g_b ?_ | refine g_sk ?_ | refine g_cT rfl ?_ | refine g_cF rfl ?_ | refine g_x rfl ?_ | refine g_lb ?_))
      refine g_rq rfl rfl ⟨by omega, by omega⟩ ?_
      refine g_l1 (v := .int .u8 ((bk[k]).toNat : Int)) rfl rfl (hS.b 3 rfl) (by
        show (bys bk ++ rest1)[0 + k * 1]? = _
        rw [Nat.zero_add, Nat.mul_one, List.getElem?_append_left (by simpa using hlt)]
        simp [bys, hlt]) ?_
      (repeat (first | refine g_sq ?_ | refine g_rg ?_ | refine g_r0 ?_ | refine g_ok rfl rfl ?_ | refine g_no rfl ?_ | refine g_no0 rfl ?_ | refine g_bk ?_ | refine g_b ?_ | refine g_sk ?_ | refine g_cT rfl ?_ | refine g_cF rfl ?_ | refine g_x rfl ?_ | refine g_lb ?_))
      refine g_rq rfl rfl ⟨by omega, by omega⟩ ?_
      refine g_ef0 rfl ?_
      refine ef_st (u := .int .u8 ((bk[k] + 1).toNat : Int)) hS 3 rfl rfl (congrArg (fun x => some (Value.int .u8 x)) (inc8 bk[k])) rfl (by
        show 0 + k * 1 + 1 ≤ (bys bk ++ rest1).length
        simp; omega) rfl fun w hS => ?_
      have hS := hS.ceq 3 rfl (bys_set bk rest1 k (bk[k] + 1) hlt)
      have hS := hS.close_row (sz := 1) (n := n1) (cap := c1) 3 rfl h1c (by simp [hbk]) (List.prefix_append _ _) (by rw [← h2c]; simp)
      (repeat (first | refine g_sq ?_ | refine g_rg ?_ | refine g_r0 ?_ | refine g_ok rfl rfl ?_ | refine g_no rfl ?_ | refine g_no0 rfl ?_ | refine g_bk ?_ | refine g_b ?_ | refine g_sk ?_ | refine g_cT rfl ?_ | refine g_cF rfl ?_ | refine g_x rfl ?_ | refine g_lb ?_))
      refine g_rq rfl rfl (in64 (by simp only [arv]; omega)) ?_
      (repeat (first | refine g_sq ?_ | refine g_rg ?_ | refine g_r0 ?_ | refine g_ok rfl rfl ?_ | refine g_no rfl ?_ | refine g_no0 rfl ?_ | refine g_bk ?_ | refine g_b ?_ | refine g_sk ?_ | refine g_cT rfl ?_ | refine g_cF rfl ?_ | refine g_x rfl ?_ | refine g_lb ?_))
      exact g_l (k + 1) ⟨rfl, rfl, rfl, rfl, trivial⟩ ⟨by omega, bk.set k (bk[k] + 1), by simpa using hbk, hS⟩ (by omega)
    · (repeat (first | refine g_sq ?_ | refine g_rg ?_ | refine g_r0 ?_ | refine g_ok rfl rfl ?_ | refine g_no rfl ?_ | refine g_no0 rfl ?_ | refine g_bk ?_ | refine g_b ?_ | refine g_sk ?_ | refine g_cT rfl ?_ | refine g_cF rfl ?_ | refine g_x rfl ?_ | refine g_lb ?_))
      exact g_ret (q_1 rfl (h _ _ _ _ _ _ (Fit.refl D) (hS.sel [0, 1, 2] rfl rfl)))
  (repeat (first | refine g_sq ?_ | refine g_rg ?_ | refine g_r0 ?_ | refine g_ok rfl rfl ?_ | refine g_no rfl ?_ | refine g_no0 rfl ?_ | refine g_bk ?_ | refine g_b ?_ | refine g_sk ?_ | refine g_cT rfl ?_ | refine g_cF rfl ?_ | refine g_x rfl ?_ | refine g_lb ?_))
  refine g_cd rfl (fun hk => ?_) (fun hk => ?_)
  · -- it is armed
    (repeat (first | refine g_sq ?_ | refine g_rg ?_ | refine g_r0 ?_ | refine g_ok rfl rfl ?_ | refine g_no rfl ?_ | refine g_no0 rfl ?_ | refine g_bk ?_ | refine g_b ?_ | refine g_sk ?_ | refine g_cT rfl ?_ | refine g_cF rfl ?_ | refine g_x rfl ?_ | refine g_lb ?_))
    refine g_dr mixed ?_
    have hS := hS.drew
    (repeat (first | refine d_ok rfl rfl rfl ?_ | refine d_no rfl rfl ?_))
    refine d_l1 rfl rfl rfl (hS.b 0 rfl) rfl ?_
    (repeat (first | refine d_ok rfl rfl rfl ?_ | refine d_no rfl rfl ?_))
    refine d_lm rfl rfl rfl (hS.b 3 rfl) (Nat.le_of_ble_eq_true rfl) ?_
    (repeat (first | refine d_ok rfl rfl rfl ?_ | refine d_no rfl rfl ?_))
    refine d_l1 rfl rfl rfl (hS.b 0 rfl) rfl ?_
    (repeat (first | refine d_ok rfl rfl rfl ?_ | refine d_no rfl rfl ?_))
    refine d_lm rfl rfl rfl (hS.b 3 rfl) (Nat.le_of_ble_eq_true rfl) ?_
    have hS := hS.sel [1, 0, 2, 3] rfl rfl
    refine d_cl rfl rfl rfl (c32 (f := o.f) hS fun w1 S1 hS => ⟨rc_1 rfl rfl rfl rfl (hS.b 1 rfl) rfl (rc_m rfl rfl rfl rfl (hS.b 3 rfl) (Nat.le_of_ble_eq_true rfl) rfl rc_0), ?_⟩)
    have hS := hS.sel [2, 0, 1] rfl rfl
    refine d_cl rfl rfl rfl (rc74 (f := o.f) hS fun w1 S2 hS => ⟨rc_0, ?_⟩)
    refine d_ok (v := .bool true) rfl rfl (congrArg (fun x => R3.ok (.bool x)) (cmv_self _)) ?_
    (repeat (first | refine d_ok rfl rfl rfl ?_ | refine d_no rfl rfl ?_))
    refine d_fin ?_
    exact g_ret (q_1 rfl (h _ _ _ _ _ _ (arm_fit D o.f) (hS.sel [2, 1, 0] rfl rfl)))
  (repeat (first | refine g_sq ?_ | refine g_rg ?_ | refine g_r0 ?_ | refine g_ok rfl rfl ?_ | refine g_no rfl ?_ | refine g_no0 rfl ?_ | refine g_bk ?_ | refine g_b ?_ | refine g_sk ?_ | refine g_cT rfl ?_ | refine g_cF rfl ?_ | refine g_x rfl ?_ | refine g_lb ?_))
  refine g_cd rfl (fun hk => ?_) (fun hk => ?_)
  · -- it crashes
    (repeat (first | refine g_sq ?_ | refine g_rg ?_ | refine g_r0 ?_ | refine g_ok rfl rfl ?_ | refine g_no rfl ?_ | refine g_no0 rfl ?_ | refine g_bk ?_ | refine g_b ?_ | refine g_sk ?_ | refine g_cT rfl ?_ | refine g_cF rfl ?_ | refine g_x rfl ?_ | refine g_lb ?_))
    refine g_dr mixed ?_
    have hS := hS.drew
    (repeat (first | refine d_ok rfl rfl rfl ?_ | refine d_no rfl rfl ?_))
    refine d_l1 rfl rfl rfl (hS.b 0 rfl) rfl ?_
    (repeat (first | refine d_ok rfl rfl rfl ?_ | refine d_no rfl rfl ?_))
    refine d_lm rfl rfl rfl (hS.b 3 rfl) (Nat.le_of_ble_eq_true rfl) ?_
    (repeat (first | refine d_ok rfl rfl rfl ?_ | refine d_no rfl rfl ?_))
    refine d_l1 rfl rfl rfl (hS.b 0 rfl) rfl ?_
    (repeat (first | refine d_ok rfl rfl rfl ?_ | refine d_no rfl rfl ?_))
    refine d_lm rfl rfl rfl (hS.b 3 rfl) (Nat.le_of_ble_eq_true rfl) ?_
    have hS := hS.sel [1, 0, 2, 3] rfl rfl
    refine d_cl rfl rfl rfl (c27 (f := o.f) hS fun w1 S1 hS => ⟨rc_1 rfl rfl rfl rfl (hS.b 1 rfl) rfl (rc_m rfl rfl rfl rfl (hS.b 3 rfl) (Nat.le_of_ble_eq_true rfl) rfl rc_0), ?_⟩)
    have hS := hS.sel [2, 0, 1] rfl rfl
    refine d_cl rfl rfl rfl (rc75 (f := o.f) hS fun w1 S2 hS => ⟨rc_0, ?_⟩)
    refine d_ok (v := .bool true) rfl rfl (congrArg (fun x => R3.ok (.bool x)) (cmv_self _)) ?_
    (repeat (first | refine d_ok rfl rfl rfl ?_ | refine d_no rfl rfl ?_))
    refine d_fin ?_
    exact g_ret (q_1 rfl (h _ _ _ _ _ _ (crsh_fit D o.f) (hS.sel [2, 1, 0] rfl rfl)))
  (repeat (first | refine g_sq ?_ | refine g_rg ?_ | refine g_r0 ?_ | refine g_ok rfl rfl ?_ | refine g_no rfl ?_ | refine g_no0 rfl ?_ | refine g_bk ?_ | refine g_b ?_ | refine g_sk ?_ | refine g_cT rfl ?_ | refine g_cF rfl ?_ | refine g_x rfl ?_ | refine g_lb ?_))
  refine g_cd rfl (fun hk => ?_) (fun hk => ?_)
  · -- it boots
    (repeat (first | refine g_sq ?_ | refine g_rg ?_ | refine g_r0 ?_ | refine g_ok rfl rfl ?_ | refine g_no rfl ?_ | refine g_no0 rfl ?_ | refine g_bk ?_ | refine g_b ?_ | refine g_sk ?_ | refine g_cT rfl ?_ | refine g_cF rfl ?_ | refine g_x rfl ?_ | refine g_lb ?_))
    refine g_l1 rfl rfl (hS.b  0 rfl) rfl ?_
    have hS := hS.sel [2, 0, 1, 3] rfl rfl
    refine g_cl rfl rfl (rc76 hS fun w1 S2 hS => ?_)
    (repeat (first | refine g_sq ?_ | refine g_rg ?_ | refine g_r0 ?_ | refine g_ok rfl rfl ?_ | refine g_no rfl ?_ | refine g_no0 rfl ?_ | refine g_bk ?_ | refine g_b ?_ | refine g_sk ?_ | refine g_cT rfl ?_ | refine g_cF rfl ?_ | refine g_x rfl ?_ | refine g_lb ?_))
    refine g_l1 rfl rfl (hS.b  1 rfl) rfl ?_
    have hS := hS.sel [2, 0, 1] rfl rfl
    refine g_cl rfl rfl (c29 hS fun w1 S1 hS => ?_)
    (repeat (first | refine g_sq ?_ | refine g_rg ?_ | refine g_r0 ?_ | refine g_ok rfl rfl ?_ | refine g_no rfl ?_ | refine g_no0 rfl ?_ | refine g_bk ?_ | refine g_b ?_ | refine g_sk ?_ | refine g_cT rfl ?_ | refine g_cF rfl ?_ | refine g_x rfl ?_ | refine g_lb ?_))
    exact g_ret (q_1 rfl (h _ _ _ _ _ D.boot ⟨rfl, by simp [Dev.boot]⟩ (hS.sel [2, 0, 1] rfl rfl)))
  (repeat (first | refine g_sq ?_ | refine g_rg ?_ | refine g_r0 ?_ | refine g_ok rfl rfl ?_ | refine g_no rfl ?_ | refine g_no0 rfl ?_ | refine g_bk ?_ | refine g_b ?_ | refine g_sk ?_ | refine g_cT rfl ?_ | refine g_cF rfl ?_ | refine g_x rfl ?_ | refine g_lb ?_))
  refine g_cd rfl (fun hk => ?_) (fun hk => ?_)
  · -- a copy goes on in its place
    (repeat (first | refine g_sq ?_ | refine g_rg ?_ | refine g_r0 ?_ | refine g_ok rfl rfl ?_ | refine g_no rfl ?_ | refine g_no0 rfl ?_ | refine g_bk ?_ | refine g_b ?_ | refine g_sk ?_ | refine g_cT rfl ?_ | refine g_cF rfl ?_ | refine g_x rfl ?_ | refine g_lb ?_))
    refine g_l1 rfl rfl (hS.b  0 rfl) rfl ?_
    (repeat (first | refine g_sq ?_ | refine g_rg ?_ | refine g_r0 ?_ | refine g_ok rfl rfl ?_ | refine g_no rfl ?_ | refine g_no0 rfl ?_ | refine g_bk ?_ | refine g_b ?_ | refine g_sk ?_ | refine g_cT rfl ?_ | refine g_cF rfl ?_ | refine g_x rfl ?_ | refine g_lb ?_))
    refine g_dr mixed ?_
    have hS := hS.drew
    (repeat (first | refine d_ok rfl rfl rfl ?_ | refine d_no rfl rfl ?_))
    refine d_l1 rfl rfl rfl (hS.b 0 rfl) rfl ?_
    have hS := hS.sel [1, 0, 2] rfl rfl
    refine d_cl rfl rfl rfl (c37 hl hS fun w1 S1 S2 b2 hS => ⟨rc_1 rfl rfl rfl rfl (hS.b 2 rfl) rfl rc_0, ?_⟩)
    have hS := hS.sel [3, 2, 0, 1] rfl rfl
    refine d_cl rfl rfl rfl (rc77 hl hS fun w1 S3 r2 hS => ⟨rc_0, ?_⟩)
    (repeat (first | refine d_ok rfl rfl rfl ?_ | refine d_no rfl rfl ?_))
    refine d_e0 rfl rfl ?_
    refine ef_st hS 1 rfl rfl rfl rfl (Nat.le_of_ble_eq_true rfl) rfl fun w1 hS => ⟨rc_0, ?_⟩
    (repeat (first | refine d_ok rfl rfl rfl ?_ | refine d_no rfl rfl ?_))
    refine d_e0 rfl rfl ?_
    refine ef_st hS 1 rfl rfl rfl rfl (Nat.le_of_ble_eq_true rfl) rfl fun w1 hS => ⟨rc_0, ?_⟩
    refine d_fin ?_
    (repeat (first | refine g_sq ?_ | refine g_rg ?_ | refine g_r0 ?_ | refine g_ok rfl rfl ?_ | refine g_no rfl ?_ | refine g_no0 rfl ?_ | refine g_bk ?_ | refine g_b ?_ | refine g_sk ?_ | refine g_cT rfl ?_ | refine g_cF rfl ?_ | refine g_x rfl ?_ | refine g_lb ?_))
    refine g_ef rfl (ef_bl (rs := bys [111, 116, 104, 101, 114]) hS rfl fun g5 w1 hS => ?_)
    refine g_ef rfl (ef_mb hS 4 rfl rfl fun w1 hS => ?_)
    have hS := hS.sel [2, 0, 1, 3, 4] rfl rfl
    refine g_cl rfl rfl (c23 (E := 5) (n := 5) (bs := [111, 116, 104, 101, 114]) hS (.inr ⟨g5, 0, 5, _, rfl, Nat.le_refl _, Nat.le_refl _, rfl, (hS.b 4 rfl).r⟩) (fun x hx hs => hS.dis 0 4 _ _ rfl rfl (by decide) x hs (vb_vo hx)) (by omega) fun w1 S4 hS => ?_)
    (repeat (first | refine g_sq ?_ | refine g_rg ?_ | refine g_r0 ?_ | refine g_ok rfl rfl ?_ | refine g_no rfl ?_ | refine g_no0 rfl ?_ | refine g_bk ?_ | refine g_b ?_ | refine g_sk ?_ | refine g_cT rfl ?_ | refine g_cF rfl ?_ | refine g_x rfl ?_ | refine g_lb ?_))
    refine g_cl rfl rfl (c27 (f := ⟨0, 99, 0⟩) hS fun w1 S5 hS => ?_)
    (repeat (first | refine g_sq ?_ | refine g_rg ?_ | refine g_r0 ?_ | refine g_ok rfl rfl ?_ | refine g_no rfl ?_ | refine g_no0 rfl ?_ | refine g_bk ?_ | refine g_b ?_ | refine g_sk ?_ | refine g_cT rfl ?_ | refine g_cF rfl ?_ | refine g_x rfl ?_ | refine g_lb ?_))
    exact g_ret (q_1 rfl (h _ _ _ _ _ _ (Fit.refl D) (hS.sel [2, 3, 1] rfl rfl)))
  · (repeat (first | refine g_sq ?_ | refine g_rg ?_ | refine g_r0 ?_ | refine g_ok rfl rfl ?_ | refine g_no rfl ?_ | refine g_no0 rfl ?_ | refine g_bk ?_ | refine g_b ?_ | refine g_sk ?_ | refine g_cT rfl ?_ | refine g_cF rfl ?_ | refine g_x rfl ?_ | refine g_lb ?_))
    exact g_ret (q_1 rfl (h _ _ _ _ _ _ (Fit.refl D) (hS.sel [0, 1, 2] rfl rfl)))
end
end Go.Proofs.Ytegjocpjmfaigaa
