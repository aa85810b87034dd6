/- The statement BlockArmed: the plain law, and the walk. -/
import Derived.Test.YtegjocpjmfaigaaSe
import Derived.Test.YtegjocpjmfaigaaRg
set_option linter.unusedSimpArgs false
set_option linter.unusedVariables false
namespace Go.Proofs.Ytegjocpjmfaigaa
open Go.En

/-- an armed device beside one that is not -/
def ArmI (f : Fal) (N k : Nat) (dn : Int) (A B : Dev) : Prop := A.cells = B.cells ∧ A.waits = B.waits ∧ A.down = false ∧ B.calm ∧ A.fall = f ∧ A.since = dn ∧ B.cells.length = N ∧ B.waits.length ≤ k ∧ 0 ≤ dn ∧ dn < f.a
/-- what an operation of both comes to -/
def ArmJ (f : Fal) (N k : Nat) (dn : Int) (A B : Dev) (x y : Int) : Prop :=
  (y ≠ 0 ∧ x = y ∧ ArmI f N k dn A B) ∨ (y = 0 ∧ x = 0 ∧ dn + 1 < f.a ∧ ArmI f N k (dn + 1) A B) ∨
  (y = 0 ∧ x = 141 ∧ dn + 1 = f.a ∧ A.cells = crashC f 0 B.waits B.cells ∧ B.cells.length = N ∧ B.down = false)
theorem inc_in {n : Int} (h : 0 ≤ n ∧ n ≤ 1000) : inc n = n + 1 := wrap_in (k := .i64) (in64 (by omega))
theorem arm_oper {f : Fal} {N k : Nat} {dn : Int} {A B : Dev} (hf : f.a ≤ 100) (h : ArmI f N k dn A B) :
    (dn + 1 < f.a ∧ A.oper = ({ A with since := dn + 1, many := inc A.many }, 0)) ∨ (dn + 1 = f.a ∧ A.oper = (Dev.crash { A with since := dn + 1 } f, 141)) := by
  obtain ⟨_, _, _, _, h5, h6, _, _, h9, h10⟩ := h
  have e : inc A.since = dn + 1 := by rw [h6]; exact inc_in (by omega)
  unfold Dev.oper
  rw [e, h5]
  by_cases hd : dn + 1 = f.a
  · exact .inr ⟨hd, by rw [if_pos ⟨by omega, hd⟩]⟩
  · exact .inl ⟨by omega, by rw [if_neg fun h => hd h.2]⟩
theorem arm_write {f : Fal} {N k : Nat} {dn : Int} {A B : Dev} (hf : f.a ≤ 100) (h : ArmI f N k dn A B) (i : Int) (bs : List UInt8) :
    ArmJ f N (k + 1) dn (A.write i bs).1 (B.write i bs).1 (A.write i bs).2 (B.write i bs).2 := by
  have h' := h
  obtain ⟨h1, h2, h3, h4, h5, h6, h7, h8, h9, h10⟩ := h'
  by_cases hin : (0 ≤ i ∧ i < (B.cells.length : Int)) ∧ bs.length ≤ 128
  · rw [write_ok h4.1 h4.2 hin]
    have hA : A.write i bs = (A.wr1 i bs).oper := by
      unfold Dev.write
      rw [if_neg (by simp [h3]), if_pos (by rw [h1]; exact hin)]
    have hI : ArmI f N (k + 1) dn (A.wr1 i bs) (B.wr1 i bs) := ⟨h1, by simp [Dev.wr1, h2], h3, h4, h5, h6, h7, by simp [Dev.wr1]; omega, h9, h10⟩
    rw [hA]
    rcases arm_oper hf hI with ⟨hd, e⟩ | ⟨hd, e⟩
    · rw [e]
      exact .inr (.inl ⟨rfl, rfl, hd, hI.1, hI.2.1, h3, h4, h5, rfl, h7, hI.2.2.2.2.2.2.2.1, by omega, hd⟩)
    · rw [e]
      refine .inr (.inr ⟨rfl, rfl, hd, ?_, h7, h4.1⟩)
      show crashC f 0 (A.wr1 i bs).waits (A.wr1 i bs).cells = crashC f 0 (B.wr1 i bs).waits (B.wr1 i bs).cells
      rw [hI.1, hI.2.1]
  · rw [write_no h4.1 hin, write_no h3 (by rw [h1]; exact hin)]
    exact .inl ⟨fun h => absurd h (by decide : (140 : Int) ≠ 0), rfl, h1, h2, h3, h4, h5, h6, h7, Nat.le_succ_of_le h8, h9, h10⟩
theorem arm_sync {f : Fal} {N k : Nat} {dn : Int} {A B : Dev} (hf : f.a ≤ 100) (h : ArmI f N k dn A B) (hd : dn ≠ f.a - 1) : ArmJ f N (k + 1) dn A.sync.1 B.sync.1 A.sync.2 B.sync.2 := by
  have h' := h
  obtain ⟨h1, h2, h3, h4, h5, h6, h7, h8, h9, h10⟩ := h'
  rcases arm_oper hf h with ⟨hd', e⟩ | ⟨hd', e⟩
  · have eA : A.sync = (Dev.sync1 { A with since := dn + 1, many := inc A.many }, 0) := by
      unfold Dev.sync
      rw [if_neg (by simp [h3]), e]
      rfl
    rw [sync_ok h4.1 h4.2, eA]
    refine .inr (.inl ⟨rfl, rfl, hd', ?_, rfl, h3, h4, h5, rfl, (putAll_len _ _).trans h7, Nat.zero_le _, by omega, hd'⟩)
    show putAll A.cells A.waits = putAll B.cells B.waits
    rw [h1, h2]
  · omega
theorem arm_last {f : Fal} {N k : Nat} {dn : Int} {A B : Dev} (hf : f.a ≤ 100) (h : ArmI f N k dn A B) (hd : dn = f.a - 1) : ArmJ f N (k + 1) dn A.sync.1 B A.sync.2 0 := by
  have h' := h
  obtain ⟨h1, h2, h3, h4, h5, h6, h7, h8, h9, h10⟩ := h'
  rcases arm_oper hf h with ⟨hd', e⟩ | ⟨hd', e⟩
  · omega
  · have eA : A.sync = (Dev.crash { A with since := dn + 1 } f, 141) := by
      unfold Dev.sync
      rw [if_neg (by simp [h3]), e]
      rfl
    rw [eA]
    refine .inr (.inr ⟨rfl, rfl, hd', ?_, h7, h4.1⟩)
    show crashC f 0 A.waits A.cells = _
    rw [h1, h2]
section
variable {w w0 : World} {S0 S : Nat → Prop} {K : Value → World → Prop} {E : TypeId} {L : List Res}
set_option maxRecDepth 100000 in
theorem l6 {bl : Int} {v : Value} {ops : List Opd} {f : Fal} (h0 : 0 ≤ bl ∧ bl ≤ 255) (hv : OpsR E v ops w0) (h : ∀ w', Fr w0 (fun _ => False) w' → K (.bool true) w') : CK Try.prog 6 [.int .u8 bl, v, falV f] w0 K := by
  have hS := St.nil w0 (fun _ => False)
  have hfin : ∀ {w' : World} {L : List Res}, St w0 (fun _ => False) w' L → K (.bool true) w' := fun hS => h _ hS.fr
  obtain ⟨N, hN1, hN2, hN⟩ := blocks_of h0
  obtain ⟨a, c, rfl⟩ := Rd.form hv.1
  refine call_k Try.func6 k6 Try.ntmps6 (Nat.le_of_ble_eq_true rfl) ?_
  (repeat (first | refine g_sq ?_ | refine g_rg ?_ | refine g_r0 ?_ | refine g_ok rfl rfl ?_ | refine g_no rfl ?_ | refine g_no0 rfl ?_ | refine g_bk ?_ | refine g_b ?_ | refine g_sk ?_ | refine g_cT rfl ?_ | refine g_cF rfl ?_ | refine g_x rfl ?_ | refine g_lb ?_))
  refine g_ef rfl (ef_bx hS rfl fun b5 w hS => ?_)
  have hS : St w0 (fun _ => False) w [cel b5 (falV f).cells.toList 37] := hS
  (repeat (first | refine g_sq ?_ | refine g_rg ?_ | refine g_r0 ?_ | refine g_ok rfl rfl ?_ | refine g_no rfl ?_ | refine g_no0 rfl ?_ | refine g_bk ?_ | refine g_b ?_ | refine g_sk ?_ | refine g_cT rfl ?_ | refine g_cF rfl ?_ | refine g_x rfl ?_ | refine g_lb ?_))
  refine g_cl rfl rfl (c22 hS fun w hS => ?_)
  (repeat (first | refine g_sq ?_ | refine g_rg ?_ | refine g_r0 ?_ | refine g_ok rfl rfl ?_ | refine g_no rfl ?_ | refine g_no0 rfl ?_ | refine g_bk ?_ | refine g_b ?_ | refine g_sk ?_ | refine g_cT rfl ?_ | refine g_cF rfl ?_ | refine g_x rfl ?_ | refine g_lb ?_))
  refine g_rq rfl rfl (by decide) ?_
  rw [hN]
  refine g_rq rfl rfl (in64 (by simp only [arv]; omega)) ?_
  rw [show arv BinOp.add 1 ((N : Int) - 1) = (N : Int) by simp only [arv]; omega]
  (repeat (first | refine g_sq ?_ | refine g_rg ?_ | refine g_r0 ?_ | refine g_ok rfl rfl ?_ | refine g_no rfl ?_ | refine g_no0 rfl ?_ | refine g_bk ?_ | refine g_b ?_ | refine g_sk ?_ | refine g_cT rfl ?_ | refine g_cF rfl ?_ | refine g_x rfl ?_ | refine g_lb ?_))
  refine g_cl rfl rfl (c18 hS (fun hn => absurd ⟨by omega, by omega⟩ hn) (fun hn w S pa hS => ?_))
  (repeat (first | refine g_sq ?_ | refine g_rg ?_ | refine g_r0 ?_ | refine g_ok rfl rfl ?_ | refine g_no rfl ?_ | refine g_no0 rfl ?_ | refine g_bk ?_ | refine g_b ?_ | refine g_sk ?_ | refine g_cT rfl ?_ | refine g_cF rfl ?_ | refine g_x rfl ?_ | refine g_lb ?_))
  refine g_cl rfl rfl (c18 hS (fun hn => absurd ⟨by omega, by omega⟩ hn) (fun hn w S' pb hS => ?_))
  have hS : St w0 (fun _ => False) w [cel b5 (falV f).cells.toList 37, DevR S pa (Dev.new N), DevR S' pb (Dev.new N)] := hS
  have hS := hS.sel [1, 2, 0] rfl rfl
  (repeat (first | refine g_sq ?_ | refine g_rg ?_ | refine g_r0 ?_ | refine g_ok rfl rfl ?_ | refine g_no rfl ?_ | refine g_no0 rfl ?_ | refine g_bk ?_ | refine g_b ?_ | refine g_sk ?_ | refine g_cT rfl ?_ | refine g_cF rfl ?_ | refine g_x rfl ?_ | refine g_lb ?_))
  have hvw : OpsR E (.slice a ops.length c) ops w := opsR_to hv hS
  refine g_cl rfl rfl (l17 hvw (fun hg => ?_) (fun hg => ?_))
  · (repeat (first | refine g_sq ?_ | refine g_rg ?_ | refine g_r0 ?_ | refine g_ok rfl rfl ?_ | refine g_no rfl ?_ | refine g_no0 rfl ?_ | refine g_bk ?_ | refine g_b ?_ | refine g_sk ?_ | refine g_cT rfl ?_ | refine g_cF rfl ?_ | refine g_x rfl ?_ | refine g_lb ?_))
    exact g_ret (q_1 rfl (hfin hS))
  (repeat (first | refine g_sq ?_ | refine g_rg ?_ | refine g_r0 ?_ | refine g_ok rfl rfl ?_ | refine g_no rfl ?_ | refine g_no0 rfl ?_ | refine g_bk ?_ | refine g_b ?_ | refine g_sk ?_ | refine g_cT rfl ?_ | refine g_cF rfl ?_ | refine g_x rfl ?_ | refine g_lb ?_))
  refine g_l1 rfl rfl (hS.b  2 rfl) rfl ?_
  (repeat (first | refine g_sq ?_ | refine g_rg ?_ | refine g_r0 ?_ | refine g_ok rfl rfl ?_ | refine g_no rfl ?_ | refine g_no0 rfl ?_ | refine g_bk ?_ | refine g_b ?_ | refine g_sk ?_ | refine g_cT rfl ?_ | refine g_cF rfl ?_ | refine g_x rfl ?_ | refine g_lb ?_))
  generalize hq1 : cmv BinOp.lss f.a 1 = q1
  cases q1
  all_goals simp only [cmv, decide_eq_true_eq, decide_eq_false_iff_not] at hq1
  rotate_left
  · (repeat (first | refine g_sq ?_ | refine g_rg ?_ | refine g_r0 ?_ | refine g_ok rfl rfl ?_ | refine g_no rfl ?_ | refine g_no0 rfl ?_ | refine g_bk ?_ | refine g_b ?_ | refine g_sk ?_ | refine g_cT rfl ?_ | refine g_cF rfl ?_ | refine g_x rfl ?_ | refine g_lb ?_))
    exact g_ret (q_1 rfl (hfin hS))
  (repeat (first | refine g_sq ?_ | refine g_rg ?_ | refine g_r0 ?_ | refine g_ok rfl rfl ?_ | refine g_no rfl ?_ | refine g_no0 rfl ?_ | refine g_bk ?_ | refine g_b ?_ | refine g_sk ?_ | refine g_cT rfl ?_ | refine g_cF rfl ?_ | refine g_x rfl ?_ | refine g_lb ?_))
  refine g_l1 rfl rfl (hS.b  2 rfl) rfl ?_
  (repeat (first | refine g_sq ?_ | refine g_rg ?_ | refine g_r0 ?_ | refine g_ok rfl rfl ?_ | refine g_no rfl ?_ | refine g_no0 rfl ?_ | refine g_bk ?_ | refine g_b ?_ | refine g_sk ?_ | refine g_cT rfl ?_ | refine g_cF rfl ?_ | refine g_x rfl ?_ | refine g_lb ?_))
  generalize hq2 : cmv BinOp.gtr f.a 100 = q2
  cases q2
  all_goals simp only [cmv, decide_eq_true_eq, decide_eq_false_iff_not] at hq2
  rotate_left
  · (repeat (first | refine g_sq ?_ | refine g_rg ?_ | refine g_r0 ?_ | refine g_ok rfl rfl ?_ | refine g_no rfl ?_ | refine g_no0 rfl ?_ | refine g_bk ?_ | refine g_b ?_ | refine g_sk ?_ | refine g_cT rfl ?_ | refine g_cF rfl ?_ | refine g_x rfl ?_ | refine g_lb ?_))
    exact g_ret (q_1 rfl (hfin hS))
  (repeat (first | refine g_sq ?_ | refine g_rg ?_ | refine g_r0 ?_ | refine g_ok rfl rfl ?_ | refine g_no rfl ?_ | refine g_no0 rfl ?_ | refine g_bk ?_ | refine g_b ?_ | refine g_sk ?_ | refine g_cT rfl ?_ | refine g_cF rfl ?_ | refine g_x rfl ?_ | refine g_lb ?_))
  refine g_lm rfl rfl (hS.b 2 rfl) (Nat.le_of_ble_eq_true rfl) ?_
  refine g_cl rfl rfl (c32 (f := f) hS fun w S1 hS => ?_)
  have hS : St w0 (fun _ => False) w [DevR S1 pa ((Dev.new N).arm f), DevR S' pb (Dev.new N), cel b5 (falV f).cells.toList 37] := hS
  (repeat (first | refine g_sq ?_ | refine g_rg ?_ | refine g_r0 ?_ | refine g_ok rfl rfl ?_ | refine g_no rfl ?_ | refine g_no0 rfl ?_ | refine g_bk ?_ | refine g_b ?_ | refine g_sk ?_ | refine g_cT rfl ?_ | refine g_cF rfl ?_ | refine g_x rfl ?_ | refine g_lb ?_))
  have h120 := hg.1
  have hf : f.a ≤ 100 := by omega
  have hI : ArmI f N 0 0 ((Dev.new N).arm f) (Dev.new N) := ⟨rfl, rfl, rfl, ⟨rfl, fun h => absurd h (Int.lt_irrefl 0)⟩, rfl, rfl, List.length_replicate, Nat.le_refl _, Int.le_refl _, by omega⟩
  refine g_lp (ι := Nat × Int) (fun x => [(1, .slice a ops.length c), (5, dp b5), (7, .bool true), (8, .int .i64 N), (9, dp pa), (11, dp pb), (13, .int .i64 x.2), (68, .int .i64 ops.length), (69, .int .i64 x.1)])
    (fun x w => x.1 ≤ ops.length ∧ ∃ S S' A B, ArmI f N x.1 x.2 A B ∧ St w0 (fun _ => False) w [DevR S pa A, DevR S' pb B, cel b5 (falV f).cells.toList 37]) (fun x => ops.length - x.1) (0, 0) ⟨rfl, rfl, rfl, rfl, rfl, rfl, rfl, rfl, rfl, trivial⟩
    ⟨Nat.zero_le _, S1, S', _, _, hI, hS⟩ ?_
  clear hS hvw hI
  rintro ⟨k, dn⟩ w ⟨hk, S, S', A, B, hI, hS⟩
  simp only at hk hI
  (repeat (first | refine g_sq ?_ | refine g_rg ?_ | refine g_r0 ?_ | refine g_ok rfl rfl ?_ | refine g_no rfl ?_ | refine g_no0 rfl ?_ | refine g_bk ?_ | refine g_b ?_ | refine g_sk ?_ | refine g_cT rfl ?_ | refine g_cF rfl ?_ | refine g_x rfl ?_ | refine g_lb ?_))
  refine g_cd rfl (fun hq => ?_) (fun hq => ?_)
  all_goals simp only [cmv, decide_eq_true_eq, decide_eq_false_iff_not] at hq
  · -- an operation of both
    obtain ⟨o, bo, off, cap, l, av, cv, ho, hmem, he, hov, hll, hl6, hget, hro⟩ := op_at hv (k := k) (by omega)
    cases he
    have h300 := hg.2 o hmem
    have hwl := hI.2.2.2.2.2.2.2.1
    have hwe := hI.2.1
    have hdn := hI.2.2.2.2.2.2.2.2
    (repeat (first | refine g_sq ?_ | refine g_rg ?_ | refine g_r0 ?_ | refine g_ok rfl rfl ?_ | refine g_no rfl ?_ | refine g_no0 rfl ?_ | refine g_bk ?_ | refine g_b ?_ | refine g_sk ?_ | refine g_cT rfl ?_ | refine g_cF rfl ?_ | refine g_x rfl ?_ | refine g_lb ?_))
    refine g_rq rfl rfl ⟨by omega, by omega⟩ ?_
    (repeat (first | refine g_sq ?_ | refine g_rg ?_ | refine g_r0 ?_ | refine g_ok rfl rfl ?_ | refine g_no rfl ?_ | refine g_no0 rfl ?_ | refine g_bk ?_ | refine g_b ?_ | refine g_sk ?_ | refine g_cT rfl ?_ | refine g_cF rfl ?_ | refine g_x rfl ?_ | refine g_lb ?_))
    refine g_l1r (v := .int .i64 o.k) rfl rfl (hro hS).1 (hget 0 (by decide)) ?_
    refine g_atx (ι := Int × Int) 2 (fun x => [(1, .slice (some ⟨bo, off, none⟩) ops.length c), (5, dp b5), (7, .bool true), (8, .int .i64 N), (9, dp pa), (11, dp pb), (13, .int .i64 dn), (15, .int .i64 x.1), (16, .int .i64 x.2), (68, .int .i64 ops.length), (69, .int .i64 k)])
      (fun x w => ∃ S S' A B, ArmJ f N (k + 1) dn A B x.1 x.2 ∧ St w0 (fun _ => False) w [DevR S pa A, DevR S' pb B, cel b5 (falV f).cells.toList 37]) rfl ?_ ?_
    · (repeat (first | refine g_sq ?_ | refine g_rg ?_ | refine g_r0 ?_ | refine g_ok rfl rfl ?_ | refine g_no rfl ?_ | refine g_no0 rfl ?_ | refine g_bk ?_ | refine g_b ?_ | refine g_sk ?_ | refine g_cT rfl ?_ | refine g_cF rfl ?_ | refine g_x rfl ?_ | refine g_lb ?_))
      refine g_cd rfl (fun hz => ?_) (fun hz => ?_)
      all_goals simp only [cmv, decide_eq_true_eq, decide_eq_false_iff_not] at hz
      · -- a write
        (repeat (first | refine g_sq ?_ | refine g_rg ?_ | refine g_r0 ?_ | refine g_ok rfl rfl ?_ | refine g_no rfl ?_ | refine g_no0 rfl ?_ | refine g_bk ?_ | refine g_b ?_ | refine g_sk ?_ | refine g_cT rfl ?_ | refine g_cF rfl ?_ | refine g_x rfl ?_ | refine g_lb ?_))
        refine g_dr mixed ?_
        have hS := hS.drew
        (repeat (first | refine d_ok rfl rfl rfl ?_ | refine d_no rfl rfl ?_))
        refine d_rq rfl rfl rfl ⟨by omega, by omega⟩ ?_
        (repeat (first | refine d_ok rfl rfl rfl ?_ | refine d_no rfl rfl ?_))
        refine d_l1r (v := .int .i64 o.a) rfl rfl rfl (hro hS).1 (hget 1 (by decide)) ?_
        (repeat (first | refine d_ok rfl rfl rfl ?_ | refine d_no rfl rfl ?_))
        refine d_rq rfl rfl rfl ⟨by omega, by omega⟩ ?_
        (repeat (first | refine d_ok rfl rfl rfl ?_ | refine d_no rfl rfl ?_))
        refine d_l1r (v := o.v) rfl rfl rfl (hro hS).1 (hget 2 (by decide)) ?_
        (repeat (first | refine d_ok rfl rfl rfl ?_ | refine d_no rfl rfl ?_))
        refine d_rq rfl rfl rfl ⟨by omega, by omega⟩ ?_
        (repeat (first | refine d_ok rfl rfl rfl ?_ | refine d_no rfl rfl ?_))
        refine d_l1r (v := .int .i64 o.a) rfl rfl rfl (hro hS).1 (hget 1 (by decide)) ?_
        (repeat (first | refine d_ok rfl rfl rfl ?_ | refine d_no rfl rfl ?_))
        refine d_rq rfl rfl rfl ⟨by omega, by omega⟩ ?_
        (repeat (first | refine d_ok rfl rfl rfl ?_ | refine d_no rfl rfl ?_))
        refine d_l1r (v := o.v) rfl rfl rfl (hro hS).1 (hget 2 (by decide)) ?_
        obtain ⟨hB, ⟨E', hbo⟩, hdis⟩ := hro hS
        refine d_cl rfl rfl rfl (c23 hS hbo (fun x hx => hdis 0 _ rfl x hx) (by rw [hwe]; omega) fun w S1 hS => ⟨rc_1r rfl rfl rfl rfl (hro hS).1 (hget 1 (by decide)) (rc_1r rfl rfl rfl rfl (hro hS).1 (hget 2 (by decide)) rc_0), ?_⟩)
        have hS := hS.sel [1, 0, 2] rfl rfl
        obtain ⟨hB, ⟨E', hbo⟩, hdis⟩ := hro hS
        refine d_cl rfl rfl rfl (c23 hS hbo (fun x hx => hdis 0 _ rfl x hx) (by omega) fun w S2 hS => ⟨rc_0, ?_⟩)
        (repeat (first | refine d_ok rfl rfl rfl ?_ | refine d_no rfl rfl ?_))
        refine d_fin ?_
        (repeat (first | refine g_sq ?_ | refine g_rg ?_ | refine g_r0 ?_ | refine g_ok rfl rfl ?_ | refine g_no rfl ?_ | refine g_no0 rfl ?_ | refine g_bk ?_ | refine g_b ?_ | refine g_sk ?_ | refine g_cT rfl ?_ | refine g_cF rfl ?_ | refine g_x rfl ?_ | refine g_lb ?_))
        exact g_jx (_, _) ⟨rfl, rfl, rfl, rfl, rfl, rfl, rfl, rfl, rfl, rfl, rfl, trivial⟩ ⟨S1, S2, _, _, arm_write hf hI o.a o.bs, hS.sel [1, 0, 2] rfl rfl⟩
      · (repeat (first | refine g_sq ?_ | refine g_rg ?_ | refine g_r0 ?_ | refine g_ok rfl rfl ?_ | refine g_no rfl ?_ | refine g_no0 rfl ?_ | refine g_bk ?_ | refine g_b ?_ | refine g_sk ?_ | refine g_cT rfl ?_ | refine g_cF rfl ?_ | refine g_x rfl ?_ | refine g_lb ?_))
        refine g_cd rfl (fun hz => ?_) (fun hz => ?_)
        all_goals simp only [cmv, decide_eq_true_eq, decide_eq_false_iff_not] at hz
        · -- a sync
          (repeat (first | refine g_sq ?_ | refine g_rg ?_ | refine g_r0 ?_ | refine g_ok rfl rfl ?_ | refine g_no rfl ?_ | refine g_no0 rfl ?_ | refine g_bk ?_ | refine g_b ?_ | refine g_sk ?_ | refine g_cT rfl ?_ | refine g_cF rfl ?_ | refine g_x rfl ?_ | refine g_lb ?_))
          refine g_l1 rfl rfl (hS.b  2 rfl) rfl ?_
          (repeat (first | refine g_sq ?_ | refine g_rg ?_ | refine g_r0 ?_ | refine g_ok rfl rfl ?_ | refine g_no rfl ?_ | refine g_no0 rfl ?_ | refine g_bk ?_ | refine g_b ?_ | refine g_sk ?_ | refine g_cT rfl ?_ | refine g_cF rfl ?_ | refine g_x rfl ?_ | refine g_lb ?_))
          refine g_rq rfl rfl (in64 (by simp only [arv]; omega)) ?_
          (repeat (first | refine g_sq ?_ | refine g_rg ?_ | refine g_r0 ?_ | refine g_ok rfl rfl ?_ | refine g_no rfl ?_ | refine g_no0 rfl ?_ | refine g_bk ?_ | refine g_b ?_ | refine g_sk ?_ | refine g_cT rfl ?_ | refine g_cF rfl ?_ | refine g_x rfl ?_ | refine g_lb ?_))
          refine g_cd rfl (fun hd => ?_) (fun hd => ?_)
          all_goals simp only [cmv, decide_eq_true_eq, decide_eq_false_iff_not] at hd
          all_goals simp only [arv] at hd
          · (repeat (first | refine g_sq ?_ | refine g_rg ?_ | refine g_r0 ?_ | refine g_ok rfl rfl ?_ | refine g_no rfl ?_ | refine g_no0 rfl ?_ | refine g_bk ?_ | refine g_b ?_ | refine g_sk ?_ | refine g_cT rfl ?_ | refine g_cF rfl ?_ | refine g_x rfl ?_ | refine g_lb ?_))
            refine g_cl rfl rfl (c24 hS fun w S1 hS => ?_)
            (repeat (first | refine g_sq ?_ | refine g_rg ?_ | refine g_r0 ?_ | refine g_ok rfl rfl ?_ | refine g_no rfl ?_ | refine g_no0 rfl ?_ | refine g_bk ?_ | refine g_b ?_ | refine g_sk ?_ | refine g_cT rfl ?_ | refine g_cF rfl ?_ | refine g_x rfl ?_ | refine g_lb ?_))
            exact g_jx (_, _) ⟨rfl, rfl, rfl, rfl, rfl, rfl, rfl, rfl, rfl, rfl, rfl, trivial⟩ ⟨S1, S', _, _, arm_last hf hI hd, hS⟩
          · (repeat (first | refine g_sq ?_ | refine g_rg ?_ | refine g_r0 ?_ | refine g_ok rfl rfl ?_ | refine g_no rfl ?_ | refine g_no0 rfl ?_ | refine g_bk ?_ | refine g_b ?_ | refine g_sk ?_ | refine g_cT rfl ?_ | refine g_cF rfl ?_ | refine g_x rfl ?_ | refine g_lb ?_))
            refine g_cl rfl rfl (c24 hS fun w S1 hS => ?_)
            have hS := hS.sel [1, 0, 2] rfl rfl
            (repeat (first | refine g_sq ?_ | refine g_rg ?_ | refine g_r0 ?_ | refine g_ok rfl rfl ?_ | refine g_no rfl ?_ | refine g_no0 rfl ?_ | refine g_bk ?_ | refine g_b ?_ | refine g_sk ?_ | refine g_cT rfl ?_ | refine g_cF rfl ?_ | refine g_x rfl ?_ | refine g_lb ?_))
            refine g_cl rfl rfl (c24 hS fun w S2 hS => ?_)
            (repeat (first | refine g_sq ?_ | refine g_rg ?_ | refine g_r0 ?_ | refine g_ok rfl rfl ?_ | refine g_no rfl ?_ | refine g_no0 rfl ?_ | refine g_bk ?_ | refine g_b ?_ | refine g_sk ?_ | refine g_cT rfl ?_ | refine g_cF rfl ?_ | refine g_x rfl ?_ | refine g_lb ?_))
            exact g_jx (_, _) ⟨rfl, rfl, rfl, rfl, rfl, rfl, rfl, rfl, rfl, rfl, rfl, trivial⟩ ⟨S1, S2, _, _, arm_sync hf hI hd, hS.sel [1, 0, 2] rfl rfl⟩
        · (repeat (first | refine g_sq ?_ | refine g_rg ?_ | refine g_r0 ?_ | refine g_ok rfl rfl ?_ | refine g_no rfl ?_ | refine g_no0 rfl ?_ | refine g_bk ?_ | refine g_b ?_ | refine g_sk ?_ | refine g_cT rfl ?_ | refine g_cF rfl ?_ | refine g_x rfl ?_ | refine g_lb ?_))
          refine g_rq rfl rfl (in64 (by simp only [arv]; omega)) ?_
          (repeat (first | refine g_sq ?_ | refine g_rg ?_ | refine g_r0 ?_ | refine g_ok rfl rfl ?_ | refine g_no rfl ?_ | refine g_no0 rfl ?_ | refine g_bk ?_ | refine g_b ?_ | refine g_sk ?_ | refine g_cT rfl ?_ | refine g_cF rfl ?_ | refine g_x rfl ?_ | refine g_lb ?_))
          obtain ⟨h1, h2, h3, h4, h5, h6, h7, h8, h9⟩ := hI
          exact g_l (k + 1, dn) ⟨rfl, rfl, rfl, rfl, rfl, rfl, rfl, rfl, rfl, trivial⟩ ⟨by simp only; omega, S, S', A, B, ⟨h1, h2, h3, h4, h5, h6, h7, by simp only; omega, h9⟩, hS⟩ (by simp only; omega)
    · clear hS hI hwl hwe
      rintro ⟨x, y⟩ T w hT ⟨S, S', A, B, hJ, hS⟩
      simp only at hJ
      refine g_wkc hT ?_
      (repeat (first | refine g_sq ?_ | refine g_rg ?_ | refine g_r0 ?_ | refine g_ok rfl rfl ?_ | refine g_no rfl ?_ | refine g_no0 rfl ?_ | refine g_bk ?_ | refine g_b ?_ | refine g_sk ?_ | refine g_cT rfl ?_ | refine g_cF rfl ?_ | refine g_x rfl ?_ | refine g_lb ?_))
      rcases hJ with ⟨hy, hxy, hI⟩ | ⟨rfl, rfl, hd, hI⟩ | ⟨rfl, rfl, hd, hcr, hBl, hBd⟩
      · refine g_cd rfl (fun hz => ?_) (fun hz => ?_)
        · (repeat (first | refine g_sq ?_ | refine g_rg ?_ | refine g_r0 ?_ | refine g_ok rfl rfl ?_ | refine g_no rfl ?_ | refine g_no0 rfl ?_ | refine g_bk ?_ | refine g_b ?_ | refine g_sk ?_ | refine g_cT rfl ?_ | refine g_cF rfl ?_ | refine g_x rfl ?_ | refine g_lb ?_))
          refine g_cd rfl (fun hz => ?_) (fun hz => ?_)
          · simp [cmv, hxy] at hz
          · (repeat (first | refine g_sq ?_ | refine g_rg ?_ | refine g_r0 ?_ | refine g_ok rfl rfl ?_ | refine g_no rfl ?_ | refine g_no0 rfl ?_ | refine g_bk ?_ | refine g_b ?_ | refine g_sk ?_ | refine g_cT rfl ?_ | refine g_cF rfl ?_ | refine g_x rfl ?_ | refine g_lb ?_))
            refine g_rq rfl rfl (in64 (by simp only [arv]; omega)) ?_
            (repeat (first | refine g_sq ?_ | refine g_rg ?_ | refine g_r0 ?_ | refine g_ok rfl rfl ?_ | refine g_no rfl ?_ | refine g_no0 rfl ?_ | refine g_bk ?_ | refine g_b ?_ | refine g_sk ?_ | refine g_cT rfl ?_ | refine g_cF rfl ?_ | refine g_x rfl ?_ | refine g_lb ?_))
            exact g_l (k + 1, dn) ⟨rfl, rfl, rfl, rfl, rfl, rfl, rfl, rfl, rfl, trivial⟩ ⟨by simp only; omega, S, S', A, B, hI, hS⟩ (by simp only; omega)
        · simp [cmv] at hz; exact absurd hz hy
      · (repeat (first | refine g_sq ?_ | refine g_rg ?_ | refine g_r0 ?_ | refine g_ok rfl rfl ?_ | refine g_no rfl ?_ | refine g_no0 rfl ?_ | refine g_bk ?_ | refine g_b ?_ | refine g_sk ?_ | refine g_cT rfl ?_ | refine g_cF rfl ?_ | refine g_x rfl ?_ | refine g_lb ?_))
        refine g_rq rfl rfl (in64 (by simp only [arv]; omega)) ?_
        (repeat (first | refine g_sq ?_ | refine g_rg ?_ | refine g_r0 ?_ | refine g_ok rfl rfl ?_ | refine g_no rfl ?_ | refine g_no0 rfl ?_ | refine g_bk ?_ | refine g_b ?_ | refine g_sk ?_ | refine g_cT rfl ?_ | refine g_cF rfl ?_ | refine g_x rfl ?_ | refine g_lb ?_))
        refine g_l1 rfl rfl (hS.b  2 rfl) rfl ?_
        (repeat (first | refine g_sq ?_ | refine g_rg ?_ | refine g_r0 ?_ | refine g_ok rfl rfl ?_ | refine g_no rfl ?_ | refine g_no0 rfl ?_ | refine g_bk ?_ | refine g_b ?_ | refine g_sk ?_ | refine g_cT rfl ?_ | refine g_cF rfl ?_ | refine g_x rfl ?_ | refine g_lb ?_))
        refine g_cd rfl (fun hz => ?_) (fun hz => ?_)
        all_goals simp only [cmv, decide_eq_true_eq, decide_eq_false_iff_not] at hz
        all_goals simp only [arv] at hz
        · (repeat (first | refine g_sq ?_ | refine g_rg ?_ | refine g_r0 ?_ | refine g_ok rfl rfl ?_ | refine g_no rfl ?_ | refine g_no0 rfl ?_ | refine g_bk ?_ | refine g_b ?_ | refine g_sk ?_ | refine g_cT rfl ?_ | refine g_cF rfl ?_ | refine g_x rfl ?_ | refine g_lb ?_))
          refine g_cl rfl rfl (d31 hS ?_)
          have hS2 := hS.sel [1, 0, 2] rfl rfl
          (repeat (first | refine g_sq ?_ | refine g_rg ?_ | refine g_r0 ?_ | refine g_ok rfl rfl ?_ | refine g_no rfl ?_ | refine g_no0 rfl ?_ | refine g_bk ?_ | refine g_b ?_ | refine g_sk ?_ | refine g_cT rfl ?_ | refine g_cF rfl ?_ | refine g_x rfl ?_ | refine g_lb ?_))
          refine g_cl rfl rfl (d31 hS2 ?_)
          rw [hI.2.1]
          refine g_ok (v := .bool false) rfl (congrArg (fun x => R3.ok (.bool x)) (by simp [cmv])) ?_
          (repeat (first | refine g_sq ?_ | refine g_rg ?_ | refine g_r0 ?_ | refine g_ok rfl rfl ?_ | refine g_no rfl ?_ | refine g_no0 rfl ?_ | refine g_bk ?_ | refine g_b ?_ | refine g_sk ?_ | refine g_cT rfl ?_ | refine g_cF rfl ?_ | refine g_x rfl ?_ | refine g_lb ?_))
          refine g_rq rfl rfl (in64 (by simp only [arv]; omega)) ?_
          (repeat (first | refine g_sq ?_ | refine g_rg ?_ | refine g_r0 ?_ | refine g_ok rfl rfl ?_ | refine g_no rfl ?_ | refine g_no0 rfl ?_ | refine g_bk ?_ | refine g_b ?_ | refine g_sk ?_ | refine g_cT rfl ?_ | refine g_cF rfl ?_ | refine g_x rfl ?_ | refine g_lb ?_))
          exact g_l (k + 1, dn + 1) ⟨rfl, rfl, rfl, rfl, rfl, rfl, rfl, rfl, rfl, trivial⟩ ⟨by simp only; omega, S, S', A, B, hI, hS⟩ (by simp only; omega)
        · exact absurd hd hz
      · (repeat (first | refine g_sq ?_ | refine g_rg ?_ | refine g_r0 ?_ | refine g_ok rfl rfl ?_ | refine g_no rfl ?_ | refine g_no0 rfl ?_ | refine g_bk ?_ | refine g_b ?_ | refine g_sk ?_ | refine g_cT rfl ?_ | refine g_cF rfl ?_ | refine g_x rfl ?_ | refine g_lb ?_))
        refine g_rq rfl rfl (in64 (by simp only [arv]; omega)) ?_
        (repeat (first | refine g_sq ?_ | refine g_rg ?_ | refine g_r0 ?_ | refine g_ok rfl rfl ?_ | refine g_no rfl ?_ | refine g_no0 rfl ?_ | refine g_bk ?_ | refine g_b ?_ | refine g_sk ?_ | refine g_cT rfl ?_ | refine g_cF rfl ?_ | refine g_x rfl ?_ | refine g_lb ?_))
        refine g_l1 rfl rfl (hS.b  2 rfl) rfl ?_
        (repeat (first | refine g_sq ?_ | refine g_rg ?_ | refine g_r0 ?_ | refine g_ok rfl rfl ?_ | refine g_no rfl ?_ | refine g_no0 rfl ?_ | refine g_bk ?_ | refine g_b ?_ | refine g_sk ?_ | refine g_cT rfl ?_ | refine g_cF rfl ?_ | refine g_x rfl ?_ | refine g_lb ?_))
        refine g_cd rfl (fun hz => ?_) (fun hz => ?_)
        all_goals simp only [cmv, decide_eq_true_eq, decide_eq_false_iff_not] at hz
        all_goals simp only [arv] at hz
        · omega
        · (repeat (first | refine g_sq ?_ | refine g_rg ?_ | refine g_r0 ?_ | refine g_ok rfl rfl ?_ | refine g_no rfl ?_ | refine g_no0 rfl ?_ | refine g_bk ?_ | refine g_b ?_ | refine g_sk ?_ | refine g_cT rfl ?_ | refine g_cF rfl ?_ | refine g_x rfl ?_ | refine g_lb ?_))
          refine g_lm rfl rfl (hS.b 2 rfl) (Nat.le_of_ble_eq_true rfl) ?_
          have hS := hS.sel [1, 0, 2] rfl rfl
          refine g_cl rfl rfl (c27 (f := f) hS fun w S1 hS => ?_)
          rw [hBd] at hS
          have hS : St w0 (fun _ => False) w [DevR S1 pb (B.crash f), DevR S pa A, cel b5 (falV f).cells.toList 37] := hS
          have hS := hS.sel [1, 0, 2] rfl rfl
          (repeat (first | refine g_sq ?_ | refine g_rg ?_ | refine g_r0 ?_ | refine g_ok rfl rfl ?_ | refine g_no rfl ?_ | refine g_no0 rfl ?_ | refine g_bk ?_ | refine g_b ?_ | refine g_sk ?_ | refine g_cT rfl ?_ | refine g_cF rfl ?_ | refine g_x rfl ?_ | refine g_lb ?_))
          refine g_cl rfl rfl (c29 hS fun w S2 hS => ?_)
          have hS := hS.sel [1, 0, 2] rfl rfl
          (repeat (first | refine g_sq ?_ | refine g_rg ?_ | refine g_r0 ?_ | refine g_ok rfl rfl ?_ | refine g_no rfl ?_ | refine g_no0 rfl ?_ | refine g_bk ?_ | refine g_b ?_ | refine g_sk ?_ | refine g_cT rfl ?_ | refine g_cF rfl ?_ | refine g_x rfl ?_ | refine g_lb ?_))
          refine g_cl rfl rfl (c29 hS fun w S3 hS => ?_)
          have hS := hS.sel [1, 0, 2] rfl rfl
          have hbl : (B.crash f).boot.cells.length = N := (crashC_len _ _ _ _).trans hBl
          have hal : A.boot.cells.length = N := by show A.cells.length = N; rw [hcr, crashC_len]; exact hBl
          have hba : (B.crash f).boot.all = A.cells := by rw [hcr]; exact boot_all _
          have haa : A.boot.all = A.cells := boot_all _
          (repeat (first | refine g_sq ?_ | refine g_rg ?_ | refine g_r0 ?_ | refine g_ok rfl rfl ?_ | refine g_no rfl ?_ | refine g_no0 rfl ?_ | refine g_bk ?_ | refine g_b ?_ | refine g_sk ?_ | refine g_cT rfl ?_ | refine g_cF rfl ?_ | refine g_x rfl ?_ | refine g_lb ?_))
          refine g_cl rfl rfl (c25 hS (by omega) fun w S4 vc hS => ?_)
          obtain ⟨ac, cc, rfl⟩ := hS.rlen 1 rfl
          rw [hal, haa] at hS
          rw [hal]
          have hS := hS.sel [2, 0, 1, 3] rfl rfl
          (repeat (first | refine g_sq ?_ | refine g_rg ?_ | refine g_r0 ?_ | refine g_ok rfl rfl ?_ | refine g_no rfl ?_ | refine g_no0 rfl ?_ | refine g_bk ?_ | refine g_b ?_ | refine g_sk ?_ | refine g_cT rfl ?_ | refine g_cF rfl ?_ | refine g_x rfl ?_ | refine g_lb ?_))
          refine g_cl rfl rfl (c25 hS (by omega) fun w S5 vd hS => ?_)
          obtain ⟨ad, cd, rfl⟩ := hS.rlen 1 rfl
          rw [hbl, hba] at hS
          rw [hbl]
          have hS : St w0 (fun _ => False) w [row (.slice ac N cc) 9 1 N (sts A.cells), row (.slice ad N cd) 9 1 N (sts A.cells)] := hS.sel [3, 1] rfl rfl
          (repeat (first | refine g_sq ?_ | refine g_rg ?_ | refine g_r0 ?_ | refine g_ok rfl rfl ?_ | refine g_no rfl ?_ | refine g_no0 rfl ?_ | refine g_bk ?_ | refine g_b ?_ | refine g_sk ?_ | refine g_cT rfl ?_ | refine g_cF rfl ?_ | refine g_x rfl ?_ | refine g_lb ?_))
          refine g_lp (ι := Nat) (fun i => [(7, .bool true), (8, .int .i64 N), (15, .int .i64 141), (17, .slice ac N cc), (18, .slice ad N cd), (148, .int .i64 N), (149, .int .i64 i)])
            (fun i w => i ≤ N ∧ St w0 (fun _ => False) w [row (.slice ac N cc) 9 1 N (sts A.cells), row (.slice ad N cd) 9 1 N (sts A.cells)]) (fun i => N - i) 0 ⟨rfl, rfl, rfl, rfl, rfl, rfl, rfl, trivial⟩ ⟨Nat.zero_le _, hS⟩ ?_
          clear hS
          rintro i w ⟨hi, hS⟩
          (repeat (first | refine g_sq ?_ | refine g_rg ?_ | refine g_r0 ?_ | refine g_ok rfl rfl ?_ | refine g_no rfl ?_ | refine g_no0 rfl ?_ | refine g_bk ?_ | refine g_b ?_ | refine g_sk ?_ | refine g_cT rfl ?_ | refine g_cF rfl ?_ | refine g_x rfl ?_ | refine g_lb ?_))
          refine g_cd rfl (fun hc => ?_) (fun hc => ?_)
          all_goals simp only [cmv, decide_eq_true_eq, decide_eq_false_iff_not] at hc
          · have hAl : A.cells.length = N := hal
            have hx : A.cells[i]? = some (A.cells[i]'(by omega)) := List.getElem?_eq_getElem _
            obtain ⟨b1, cap1, rest1, he1, _, hB1, _, hg1⟩ := hS.cellr (k := i) 0 rfl (by omega)
            obtain ⟨b2, cap2, rest2, he2, _, hB2, _, hg2⟩ := hS.cellr (k := i) 1 rfl (by omega)
            cases he1; cases he2
            rw [sts_get hx] at hg1 hg2
            (repeat (first | refine g_sq ?_ | refine g_rg ?_ | refine g_r0 ?_ | refine g_ok rfl rfl ?_ | refine g_no rfl ?_ | refine g_no0 rfl ?_ | refine g_bk ?_ | refine g_b ?_ | refine g_sk ?_ | refine g_cT rfl ?_ | refine g_cF rfl ?_ | refine g_x rfl ?_ | refine g_lb ?_))
            refine g_dr mixed ?_
            have hS := hS.drew
            (repeat (first | refine d_ok rfl rfl rfl ?_ | refine d_no rfl rfl ?_))
            refine d_rq rfl rfl rfl ⟨by omega, by omega⟩ ?_
            refine d_l1 rfl rfl rfl hB1 hg1 ?_
            (repeat (first | refine d_ok rfl rfl rfl ?_ | refine d_no rfl rfl ?_))
            refine d_rq rfl rfl rfl ⟨by omega, by omega⟩ ?_
            refine d_l1 rfl rfl rfl hB2 hg2 ?_
            refine d_ok (v := .bool false) rfl rfl (congrArg (fun x => R3.ok (.bool (!x))) (decide_eq_true rfl)) ?_
            (repeat (first | refine d_ok rfl rfl rfl ?_ | refine d_no rfl rfl ?_))
            refine d_fin ?_
            (repeat (first | refine g_sq ?_ | refine g_rg ?_ | refine g_r0 ?_ | refine g_ok rfl rfl ?_ | refine g_no rfl ?_ | refine g_no0 rfl ?_ | refine g_bk ?_ | refine g_b ?_ | refine g_sk ?_ | refine g_cT rfl ?_ | refine g_cF rfl ?_ | refine g_x rfl ?_ | refine g_lb ?_))
            refine g_rq rfl rfl (in64 (by simp only [arv]; omega)) ?_
            (repeat (first | refine g_sq ?_ | refine g_rg ?_ | refine g_r0 ?_ | refine g_ok rfl rfl ?_ | refine g_no rfl ?_ | refine g_no0 rfl ?_ | refine g_bk ?_ | refine g_b ?_ | refine g_sk ?_ | refine g_cT rfl ?_ | refine g_cF rfl ?_ | refine g_x rfl ?_ | refine g_lb ?_))
            exact g_l (i + 1) ⟨rfl, rfl, rfl, rfl, rfl, rfl, rfl, trivial⟩ ⟨by omega, hS⟩ (by omega)
          · (repeat (first | refine g_sq ?_ | refine g_rg ?_ | refine g_r0 ?_ | refine g_ok rfl rfl ?_ | refine g_no rfl ?_ | refine g_no0 rfl ?_ | refine g_bk ?_ | refine g_b ?_ | refine g_sk ?_ | refine g_cT rfl ?_ | refine g_cF rfl ?_ | refine g_x rfl ?_ | refine g_lb ?_))
            refine g_cl rfl rfl (rc19 hS (fun hn => absurd ⟨by omega, by omega⟩ hn) (fun hn w S' pr hS => ?_))
            have hS := hS.sel [2] rfl rfl
            obtain ⟨⟨vC, vL, AA, WW⟩, hx, hS⟩ := RefR.opn hS
            obtain ⟨aC, cC, eC⟩ := hS.rlen 1 rfl
            simp only at eC
            subst eC
            have hAA : AA.length = N := by
              have := hx.cl
              simp only at this
              rw [this]; simp [Dev.new]
            simp only [hAA] at hS
            (repeat (first | refine g_sq ?_ | refine g_rg ?_ | refine g_r0 ?_ | refine g_ok rfl rfl ?_ | refine g_no rfl ?_ | refine g_no0 rfl ?_ | refine g_bk ?_ | refine g_b ?_ | refine g_sk ?_ | refine g_cT rfl ?_ | refine g_cF rfl ?_ | refine g_x rfl ?_ | refine g_lb ?_))
            rw [cmv_self (N : Int)]
            (repeat (first | refine g_sq ?_ | refine g_rg ?_ | refine g_r0 ?_ | refine g_ok rfl rfl ?_ | refine g_no rfl ?_ | refine g_no0 rfl ?_ | refine g_bk ?_ | refine g_b ?_ | refine g_sk ?_ | refine g_cT rfl ?_ | refine g_cF rfl ?_ | refine g_x rfl ?_ | refine g_lb ?_))
            refine g_l1 rfl rfl (hS.b  0 rfl) rfl ?_
            (repeat (first | refine g_sq ?_ | refine g_rg ?_ | refine g_r0 ?_ | refine g_ok rfl rfl ?_ | refine g_no rfl ?_ | refine g_no0 rfl ?_ | refine g_bk ?_ | refine g_b ?_ | refine g_sk ?_ | refine g_cT rfl ?_ | refine g_cF rfl ?_ | refine g_x rfl ?_ | refine g_lb ?_))
            rw [cmv_self (N : Int)]
            (repeat (first | refine g_sq ?_ | refine g_rg ?_ | refine g_r0 ?_ | refine g_ok rfl rfl ?_ | refine g_no rfl ?_ | refine g_no0 rfl ?_ | refine g_bk ?_ | refine g_b ?_ | refine g_sk ?_ | refine g_cT rfl ?_ | refine g_cF rfl ?_ | refine g_x rfl ?_ | refine g_lb ?_))
            exact g_ret (q_1 rfl (hfin hS))
  · -- the end
    (repeat (first | refine g_sq ?_ | refine g_rg ?_ | refine g_r0 ?_ | refine g_ok rfl rfl ?_ | refine g_no rfl ?_ | refine g_no0 rfl ?_ | refine g_bk ?_ | refine g_b ?_ | refine g_sk ?_ | refine g_cT rfl ?_ | refine g_cF rfl ?_ | refine g_x rfl ?_ | refine g_lb ?_))
    refine g_cl rfl rfl (d28 hS ?_)
    rw [hI.2.2.1]
    (repeat (first | refine g_sq ?_ | refine g_rg ?_ | refine g_r0 ?_ | refine g_ok rfl rfl ?_ | refine g_no rfl ?_ | refine g_no0 rfl ?_ | refine g_bk ?_ | refine g_b ?_ | refine g_sk ?_ | refine g_cT rfl ?_ | refine g_cF rfl ?_ | refine g_x rfl ?_ | refine g_lb ?_))
    exact g_ret (q_1 rfl (hfin hS))
end
end Go.Proofs.Ytegjocpjmfaigaa
