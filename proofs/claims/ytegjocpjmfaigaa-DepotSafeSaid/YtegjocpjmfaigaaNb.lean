/- The depot writes an entry, or a snapshot. -/
import Derived.Test.YtegjocpjmfaigaaNa
set_option linter.unusedSimpArgs false
set_option linter.unusedVariables false
namespace Go.Proofs.Ytegjocpjmfaigaa
open Go.En

def Dep.put (P : Dep) (t : Bool) (J : Jou) : Dep := { P with j := fun s => if s = t then J else P.j s }
def Dep.append (P : Dep) (D : Dev) (b : List UInt8) : Dep × Dev × Int :=
  if P.shut then (P, D, 141) else if P.area = 0 then (P, D, 161) else
    let r := (P.j P.liv).append (frm P.liv P.bk) P.bk D b
    ({ P.put P.liv r.1 with shut := decide (r.2.2 = 141) }, r.2.1, r.2.2)
def Dep.tgt (P : Dep) : Bool := P.area == 1
def Dep.top (P : Dep) : Nat := max (P.j false).next (P.j true).next
def Dep.compact (P : Dep) (D : Dev) (b : List UInt8) : Dep × Dev × Int :=
  if P.shut then (P, D, 141) else if P.bk < needs [b.length] then (P, D, 150) else
    if maxN < P.top then (P, D, 151) else
      let r := ((P.j P.tgt).begin P.top).append (frm P.tgt P.bk) P.bk D b
      if r.2.2 ≠ 0 then ({ P.put P.tgt r.1 with shut := decide (r.2.2 = 141) }, r.2.1, r.2.2)
      else ({ P.put P.tgt r.1 with area := if P.tgt then 2 else 1 }, r.2.1, 0)
theorem Dep.put_same (P : Dep) (t : Bool) (J : Jou) : (P.put t J).j t = J := if_pos rfl
theorem Dep.put_other (P : Dep) (t : Bool) (J : Jou) : (P.put t J).j (!t) = P.j !t := if_neg (by cases t <;> decide)
theorem append_l (J : Jou) (fr bk : Nat) (D : Dev) (b : List UInt8) : ((J.append fr bk D b).2.2 = 0 ∧ (J.append fr bk D b).1.l = J.l ++ [⟨J.next, b⟩]) ∨ ((J.append fr bk D b).2.2 ≠ 0 ∧ (J.append fr bk D b).1.l = J.l) := by
  unfold Jou.append
  split
  · exact .inr ⟨by simp, rfl⟩
  · split
    · exact .inr ⟨by simp, rfl⟩
    · simp only
      split
      · rename_i h; exact .inr ⟨h, rfl⟩
      · exact .inl ⟨rfl, rfl⟩
section
variable {w w0 : World} {S0 S S1 S2 : Nat → Prop} {K : Value → World → Prop} {pb d : Nat} {P : Dep} {D : Dev} {B L : List Res}
theorem src_out {v : Value} {E n : Nat} {xs : List Value} (hb : Rd v E 1 n xs w) (hd : ∀ x, vb v x → ¬ S0 x) {w' : World} {i : Nat} {r : Res} (hS : St w S0 w' L) (hi : L[i]? = some r) : ∀ x, vb v x → ¬ r.ids x := fun x hx hr => by
  rcases hS.src i r hi x hr with h | h
  · exact hd x hx h
  · have := hb.lt x hx; omega
theorem src_rd {v : Value} {E n : Nat} {xs : List Value} (hb : Rd v E 1 n xs w) (hd : ∀ x, vb v x → ¬ S0 x) {w' : World} (hS : St w S0 w' L) : Rd v E 1 n xs w' :=
  hS.ro (r := rdR v E 1 n xs) hb fun x hx => ⟨hb.lt x hx, hd x hx⟩
theorem b63 {v : Value} {E : Nat} {bs : List UInt8} (hl : bs.length ≤ 1000000) (hwt : D.waits.length ≤ 1000000) (hb : Rd v E 1 bs.length (bys bs) w) (hd : ∀ x, vb v x → ¬ S0 x) (hS : St w S0 w [DepR S pb d P, DevR S1 d D])
    (h : ∀ w' S' S1', St w S0 w' [DepR S' pb d (P.append D bs).1, DevR S1' d (P.append D bs).2.1] → K (.int .i64 (P.append D bs).2.2) w') : CK Try.prog 63 [dp pb, v] w K := by
  obtain ⟨h1, ⟨p0, hB⟩, _⟩ := DepR.blk hS
  refine call_k Try.func63 k63 Try.ntmps63 (Nat.le_of_ble_eq_true rfl) ?_
  (repeat (first | refine g_sq ?_ | refine g_rg ?_ | refine g_r0 ?_ | refine g_ok rfl rfl ?_ | refine g_no rfl ?_ | refine g_no0 rfl ?_ | refine g_bk ?_ | refine g_b ?_ | refine g_sk ?_ | refine g_cT rfl ?_ | refine g_cF rfl ?_ | refine g_x rfl ?_ | refine g_lb ?_))
  refine g_cl rfl rfl (b100 hB rfl h1.1 ?_)
  (repeat (first | refine g_sq ?_ | refine g_rg ?_ | refine g_r0 ?_ | refine g_ok rfl rfl ?_ | refine g_no rfl ?_ | refine g_no0 rfl ?_ | refine g_bk ?_ | refine g_b ?_ | refine g_sk ?_ | refine g_cT rfl ?_ | refine g_cF rfl ?_ | refine g_x rfl ?_ | refine g_lb ?_))
  refine g_l1 rfl rfl hB rfl ?_
  (repeat (first | refine g_sq ?_ | refine g_rg ?_ | refine g_r0 ?_ | refine g_ok rfl rfl ?_ | refine g_no rfl ?_ | refine g_no0 rfl ?_ | refine g_bk ?_ | refine g_b ?_ | refine g_sk ?_ | refine g_cT rfl ?_ | refine g_cF rfl ?_ | refine g_x rfl ?_ | refine g_lb ?_))
  refine g_cd rfl (fun hsh => ?_) (fun hsh => ?_)
  · (repeat (first | refine g_sq ?_ | refine g_rg ?_ | refine g_r0 ?_ | refine g_ok rfl rfl ?_ | refine g_no rfl ?_ | refine g_no0 rfl ?_ | refine g_bk ?_ | refine g_b ?_ | refine g_sk ?_ | refine g_cT rfl ?_ | refine g_cF rfl ?_ | refine g_x rfl ?_ | refine g_lb ?_))
    have h := h w S S1
    rw [show P.append D bs = (P, D, 141) by unfold Dep.append; rw [if_pos hsh]] at h
    exact g_ret (q_1 rfl (h hS))
  (repeat (first | refine g_sq ?_ | refine g_rg ?_ | refine g_r0 ?_ | refine g_ok rfl rfl ?_ | refine g_no rfl ?_ | refine g_no0 rfl ?_ | refine g_bk ?_ | refine g_b ?_ | refine g_sk ?_ | refine g_cT rfl ?_ | refine g_cF rfl ?_ | refine g_x rfl ?_ | refine g_lb ?_))
  refine g_l1 rfl rfl hB rfl ?_
  (repeat (first | refine g_sq ?_ | refine g_rg ?_ | refine g_r0 ?_ | refine g_ok rfl rfl ?_ | refine g_no rfl ?_ | refine g_no0 rfl ?_ | refine g_bk ?_ | refine g_b ?_ | refine g_sk ?_ | refine g_cT rfl ?_ | refine g_cF rfl ?_ | refine g_x rfl ?_ | refine g_lb ?_))
  refine g_cd rfl (fun hz => ?_) (fun hz => ?_)
  all_goals simp only [cmv, decide_eq_true_eq, decide_eq_false_iff_not] at hz
  · (repeat (first | refine g_sq ?_ | refine g_rg ?_ | refine g_r0 ?_ | refine g_ok rfl rfl ?_ | refine g_no rfl ?_ | refine g_no0 rfl ?_ | refine g_bk ?_ | refine g_b ?_ | refine g_sk ?_ | refine g_cT rfl ?_ | refine g_cF rfl ?_ | refine g_x rfl ?_ | refine g_lb ?_))
    have h := h w S S1
    rw [show P.append D bs = (P, D, 161) by unfold Dep.append; rw [if_neg (by simp [hsh]), if_pos (by omega)]] at h
    exact g_ret (q_1 rfl (h hS))
  have ha : P.area ≠ 0 := by omega
  obtain ⟨p, T1, T2, _, hS⟩ := DepR.opn P.liv hS
  (repeat (first | refine g_sq ?_ | refine g_rg ?_ | refine g_r0 ?_ | refine g_ok rfl rfl ?_ | refine g_no rfl ?_ | refine g_no0 rfl ?_ | refine g_bk ?_ | refine g_b ?_ | refine g_sk ?_ | refine g_cT rfl ?_ | refine g_cF rfl ?_ | refine g_x rfl ?_ | refine g_lb ?_))
  refine g_l1 rfl rfl (hS.b  0 rfl) rfl ?_
  rw [if_neg ha]
  (repeat (first | refine g_sq ?_ | refine g_rg ?_ | refine g_r0 ?_ | refine g_ok rfl rfl ?_ | refine g_no rfl ?_ | refine g_no0 rfl ?_ | refine g_bk ?_ | refine g_b ?_ | refine g_sk ?_ | refine g_cT rfl ?_ | refine g_cF rfl ?_ | refine g_x rfl ?_ | refine g_lb ?_))
  have hS := hS.sel [1, 3, 0, 2] rfl rfl
  refine g_cl rfl rfl (c42 hl hwt hb (fun x hx => ⟨src_out hb hd hS (i := 0) rfl x hx, src_out hb hd hS (i := 1) rfl x hx⟩) hS fun w' T1 S1 hS => ?_)
  have e0 : P.append D bs = ({ P.put P.liv ((P.j P.liv).append (frm P.liv P.bk) P.bk D bs).1 with shut := decide (((P.j P.liv).append (frm P.liv P.bk) P.bk D bs).2.2 = 141) }, ((P.j P.liv).append (frm P.liv P.bk) P.bk D bs).2.1, ((P.j P.liv).append (frm P.liv P.bk) P.bk D bs).2.2) := by
    unfold Dep.append
    rw [if_neg (by simp [hsh]), if_neg ha]
  have hal := append_l (P.j P.liv) (frm P.liv P.bk) P.bk D bs
  rw [e0] at h
  generalize (P.j P.liv).append (frm P.liv P.bk) P.bk D bs = R at hS h hal
  have hS := hS.sel [2, 0, 3, 1] rfl rfl
  (repeat (first | refine g_sq ?_ | refine g_rg ?_ | refine g_r0 ?_ | refine g_ok rfl rfl ?_ | refine g_no rfl ?_ | refine g_no0 rfl ?_ | refine g_bk ?_ | refine g_b ?_ | refine g_sk ?_ | refine g_cT rfl ?_ | refine g_cF rfl ?_ | refine g_x rfl ?_ | refine g_lb ?_))
  refine g_ef0 rfl (ef_st hS 0 rfl rfl rfl rfl (Nat.le_of_ble_eq_true rfl) rfl fun w' hS => ?_)
  (repeat (first | refine g_sq ?_ | refine g_rg ?_ | refine g_r0 ?_ | refine g_ok rfl rfl ?_ | refine g_no rfl ?_ | refine g_no0 rfl ?_ | refine g_bk ?_ | refine g_b ?_ | refine g_sk ?_ | refine g_cT rfl ?_ | refine g_cF rfl ?_ | refine g_x rfl ?_ | refine g_lb ?_))
  obtain ⟨S', hS⟩ := DepR.cls (B := [DevR S1 d R.2.1]) (P := { P.put P.liv R.1 with shut := decide (R.2.2 = 141) }) P.liv ⟨h1.1, h1.2.1, h1.2.2.1, fun _ => by
      show ((P.put P.liv R.1).j P.liv).l ≠ []
      rw [Dep.put_same]
      rcases hal with ⟨_, e⟩ | ⟨_, e⟩
      · rw [e]; simp
      · rw [e]; exact h1.2.2.2 ha⟩ (Dep.put_same _ _ _) (Dep.put_other _ _ _) rfl hS
  exact g_ret (q_1 rfl (h _ _ _ hS))
theorem c63 {v : Value} {E : Nat} {bs : List UInt8} (hl : bs.length ≤ 1000000) (hwt : D.waits.length ≤ 1000000) (hb : Rd v E 1 bs.length (bys bs) w) (hd : ∀ x, vb v x → ¬ S x ∧ ¬ S1 x) (hS : St w0 S0 w (DepR S pb d P :: DevR S1 d D :: B))
    (h : ∀ w' S' S1', St w0 S0 w' (DepR S' pb d (P.append D bs).1 :: DevR S1' d (P.append D bs).2.1 :: B) → K (.int .i64 (P.append D bs).2.2) w') : CK Try.prog 63 [dp pb, v] w K := by
  have hf := St.frame (A := [DepR S pb d P, DevR S1 d D]) (B := B) hS
  refine b63 hl hwt hb (fun x hx => ?_) hf.1 fun w' S' S1' h' => h w' S' S1' (hf.2 w' _ h')
  rintro ⟨j, r, hj, hr⟩
  match j, hj with
  | 0, hj => cases hj; exact (hd x hx).1 hr
  | 1, hj => cases hj; exact (hd x hx).2 hr
theorem tgt_at (p : Bool → Nat) (h : P.area ≤ 2) : ∃ m : Nat, (P.area : Int).tmod 2 = (m : Int) ∧ m < 2 ∧ (DepC P p)[2 + m * 1]? = some (dp (p P.tgt)) ∧ m + 1 = if P.tgt then 2 else 1 := by
  have : P.area = 0 ∨ P.area = 1 ∨ P.area = 2 := by omega
  rcases this with e | e | e
  · exact ⟨0, by rw [e]; rfl, by decide, by unfold Dep.tgt; rw [e]; rfl, by unfold Dep.tgt; rw [e]; rfl⟩
  · exact ⟨1, by rw [e]; rfl, by decide, by unfold Dep.tgt; rw [e]; rfl, by unfold Dep.tgt; rw [e]; rfl⟩
  · exact ⟨0, by rw [e]; rfl, by decide, by unfold Dep.tgt; rw [e]; rfl, by unfold Dep.tgt; rw [e]; rfl⟩
theorem next_at {p : Bool → Nat} {T1 T2 : Nat → Prop} {R : Res} (t s : Bool) (hS : St w0 S0 w (R :: JouR T1 (p t) d (frm t P.bk) P.bk (P.j t) :: JouR T2 (p !t) d (frm (!t) P.bk) P.bk (P.j !t) :: B)) (h : K (.int .i64 (P.j s).next) w) : CK Try.prog 45 [dp (p s)] w K := by
  have a1 := hS.tail
  have a2 := a1.tail
  cases t <;> cases s
  · exact c45 a1 h
  · exact c45 a2 h
  · exact c45 a2 h
  · exact c45 a1 h
set_option maxRecDepth 100000 in
theorem b65 {v : Value} {E : Nat} {bs : List UInt8} (hl : bs.length ≤ 1000000) (hwt : D.waits.length ≤ 1000000) (hb : Rd v E 1 bs.length (bys bs) w) (hd : ∀ x, vb v x → ¬ S0 x) (hS : St w S0 w [DepR S pb d P, DevR S1 d D])
    (h : ∀ w' S' S1', St w S0 w' [DepR S' pb d (P.compact D bs).1, DevR S1' d (P.compact D bs).2.1] → K (.int .i64 (P.compact D bs).2.2) w') : CK Try.prog 65 [dp pb, v] w K := by
  obtain ⟨h1, ⟨p0, hB⟩, _⟩ := DepR.blk hS
  obtain ⟨av, cv, rfl⟩ := Rd.form hb
  refine call_k Try.func65 k65 Try.ntmps65 (Nat.le_of_ble_eq_true rfl) ?_
  (repeat (first | refine g_sq ?_ | refine g_rg ?_ | refine g_r0 ?_ | refine g_ok rfl rfl ?_ | refine g_no rfl ?_ | refine g_no0 rfl ?_ | refine g_bk ?_ | refine g_b ?_ | refine g_sk ?_ | refine g_cT rfl ?_ | refine g_cF rfl ?_ | refine g_x rfl ?_ | refine g_lb ?_))
  refine g_cl rfl rfl (b100 hB rfl h1.1 ?_)
  (repeat (first | refine g_sq ?_ | refine g_rg ?_ | refine g_r0 ?_ | refine g_ok rfl rfl ?_ | refine g_no rfl ?_ | refine g_no0 rfl ?_ | refine g_bk ?_ | refine g_b ?_ | refine g_sk ?_ | refine g_cT rfl ?_ | refine g_cF rfl ?_ | refine g_x rfl ?_ | refine g_lb ?_))
  refine g_l1 rfl rfl hB rfl ?_
  (repeat (first | refine g_sq ?_ | refine g_rg ?_ | refine g_r0 ?_ | refine g_ok rfl rfl ?_ | refine g_no rfl ?_ | refine g_no0 rfl ?_ | refine g_bk ?_ | refine g_b ?_ | refine g_sk ?_ | refine g_cT rfl ?_ | refine g_cF rfl ?_ | refine g_x rfl ?_ | refine g_lb ?_))
  refine g_cd rfl (fun hsh => ?_) (fun hsh => ?_)
  · (repeat (first | refine g_sq ?_ | refine g_rg ?_ | refine g_r0 ?_ | refine g_ok rfl rfl ?_ | refine g_no rfl ?_ | refine g_no0 rfl ?_ | refine g_bk ?_ | refine g_b ?_ | refine g_sk ?_ | refine g_cT rfl ?_ | refine g_cF rfl ?_ | refine g_x rfl ?_ | refine g_lb ?_))
    have h := h w S S1
    rw [show P.compact D bs = (P, D, 141) by unfold Dep.compact; rw [if_pos hsh]] at h
    exact g_ret (q_1 rfl (h hS))
  (repeat (first | refine g_sq ?_ | refine g_rg ?_ | refine g_r0 ?_ | refine g_ok rfl rfl ?_ | refine g_no rfl ?_ | refine g_no0 rfl ?_ | refine g_bk ?_ | refine g_b ?_ | refine g_sk ?_ | refine g_cT rfl ?_ | refine g_cF rfl ?_ | refine g_x rfl ?_ | refine g_lb ?_))
  refine g_ef rfl (ef_bl (rs := [.int .i64 (bs.length : Int)]) hS rfl fun g w1 hS => ?_)
  have hr : Rd (.slice (some ⟨g, 0, none⟩) 1 1) 3 1 [bs.length].length (nts [bs.length]) w1 := .inr ⟨g, 0, 1, _, rfl, Nat.le_refl _, Nat.le_refl _, rfl, (hS.b 2 rfl).r⟩
  refine g_cl rfl rfl (c64 hr (by simpa using hl) (by simp) hS fun w2 hS => ?_)
  clear hr
  (repeat (first | refine g_sq ?_ | refine g_rg ?_ | refine g_r0 ?_ | refine g_ok rfl rfl ?_ | refine g_no rfl ?_ | refine g_no0 rfl ?_ | refine g_bk ?_ | refine g_b ?_ | refine g_sk ?_ | refine g_cT rfl ?_ | refine g_cF rfl ?_ | refine g_x rfl ?_ | refine g_lb ?_))
  refine g_cd rfl (fun hz => ?_) (fun hz => ?_)
  all_goals simp only [Bool.not_eq_true', Bool.not_eq_false', decide_eq_true_eq, decide_eq_false_iff_not] at hz
  · (repeat (first | refine g_sq ?_ | refine g_rg ?_ | refine g_r0 ?_ | refine g_ok rfl rfl ?_ | refine g_no rfl ?_ | refine g_no0 rfl ?_ | refine g_bk ?_ | refine g_b ?_ | refine g_sk ?_ | refine g_cT rfl ?_ | refine g_cF rfl ?_ | refine g_x rfl ?_ | refine g_lb ?_))
    have h := h w2 S S1
    rw [show P.compact D bs = (P, D, 150) by unfold Dep.compact; rw [if_neg (by simp [hsh]), if_pos (by omega)]] at h
    exact g_ret (q_1 rfl (h (hS.sel [0, 1] rfl rfl)))
  obtain ⟨p, T1, T2, _, hS⟩ := DepR.opn P.tgt hS
  obtain ⟨m, hm, hm2, hget, hm1⟩ := tgt_at p h1.2.2.1
  (repeat (first | refine g_sq ?_ | refine g_rg ?_ | refine g_r0 ?_ | refine g_ok rfl rfl ?_ | refine g_no rfl ?_ | refine g_no0 rfl ?_ | refine g_bk ?_ | refine g_b ?_ | refine g_sk ?_ | refine g_cT rfl ?_ | refine g_cF rfl ?_ | refine g_x rfl ?_ | refine g_lb ?_))
  refine g_dr mixed ?_
  have hS := hS.drew
  (repeat (first | refine d_ok rfl rfl rfl ?_ | refine d_no rfl rfl ?_))
  refine d_l1 rfl rfl rfl (hS.b 0 rfl) rfl ?_
  refine d_rq rfl rfl rfl (by decide) ?_
  rw [hm]
  (repeat (first | refine d_ok rfl rfl rfl ?_ | refine d_no rfl rfl ?_))
  refine d_rq rfl rfl rfl ⟨by omega, by omega⟩ ?_
  refine d_l1 rfl rfl rfl (hS.b 0 rfl) hget ?_
  (repeat (first | refine d_ok rfl rfl rfl ?_ | refine d_no rfl rfl ?_))
  refine d_l1 rfl rfl rfl (hS.b 0 rfl) rfl ?_
  refine d_rq rfl rfl rfl (by decide) ?_
  rw [hm]
  refine d_rq rfl rfl rfl (in64 (by simp only [arv]; omega)) ?_
  (repeat (first | refine d_ok rfl rfl rfl ?_ | refine d_no rfl rfl ?_))
  refine d_e rfl rfl ?_
  refine ef_al hS fun g5 w3 hS => ⟨rc_1 rfl rfl rfl rfl (hS.b 0 rfl) rfl (rc_1 rfl rfl rfl rfl (hS.b 0 rfl) hget (rc_1 rfl rfl rfl rfl (hS.b 0 rfl) rfl rc_0)), ?_⟩
  refine d_e0 rfl rfl ?_
  refine ef_st hS 5 rfl rfl rfl rfl (Nat.le_of_ble_eq_true rfl) rfl fun w4 hS => ⟨rc_0, ?_⟩
  have hS : St w S0 w4 (cel pb (DepC P p) 113 :: JouR T1 (p P.tgt) d (frm P.tgt P.bk) P.bk (P.j P.tgt) :: JouR T2 (p !P.tgt) d (frm (!P.tgt) P.bk) P.bk (P.j !P.tgt) :: [DevR S1 d D, cel g [.int .i64 (bs.length : Int)] 3, cel g5 [dp (p P.tgt), .int .i64 (arv BinOp.add (m : Int) 1)] 110]) := hS
  refine d_fin ?_
  (repeat (first | refine g_sq ?_ | refine g_rg ?_ | refine g_r0 ?_ | refine g_ok rfl rfl ?_ | refine g_no rfl ?_ | refine g_no0 rfl ?_ | refine g_bk ?_ | refine g_b ?_ | refine g_sk ?_ | refine g_cT rfl ?_ | refine g_cF rfl ?_ | refine g_x rfl ?_ | refine g_lb ?_))
  refine g_dr mixed ?_
  have hS := hS.drew
  (repeat (first | refine d_ok rfl rfl rfl ?_ | refine d_no rfl rfl ?_))
  refine d_l1 rfl rfl rfl (hS.b 5 rfl) rfl ?_
  (repeat (first | refine d_ok rfl rfl rfl ?_ | refine d_no rfl rfl ?_))
  refine d_rq rfl rfl rfl (by decide) ?_
  refine d_l1 rfl rfl rfl (hS.b 0 rfl) rfl ?_
  (repeat (first | refine d_ok rfl rfl rfl ?_ | refine d_no rfl rfl ?_))
  refine d_rq rfl rfl rfl (by decide) ?_
  refine d_l1 rfl rfl rfl (hS.b 0 rfl) rfl ?_
  refine d_cl rfl rfl rfl (next_at P.tgt false hS ⟨rc_1 rfl rfl rfl rfl (hS.b 5 rfl) rfl (rc_1 rfl rfl rfl rfl (hS.b 0 rfl) rfl rc_0), ?_⟩)
  refine d_cl rfl rfl rfl (next_at P.tgt true hS ⟨rc_1 rfl rfl rfl rfl (hS.b 5 rfl) rfl rc_0, ?_⟩)
  (repeat (first | refine d_ok rfl rfl rfl ?_ | refine d_no rfl rfl ?_))
  have htop : max ((P.j false).next : Int) ((P.j true).next : Int) = (P.top : Int) := by unfold Dep.top; omega
  rw [htop]
  have hge : ¬ (P.top : Int) < (P.j P.tgt).next := by
    unfold Dep.top
    cases P.tgt <;> omega
  have hc0 : P.compact D bs = if maxN < P.top then (P, D, 151) else
      if (((P.j P.tgt).begin P.top).append (frm P.tgt P.bk) P.bk D bs).2.2 ≠ 0 then ({ P.put P.tgt (((P.j P.tgt).begin P.top).append (frm P.tgt P.bk) P.bk D bs).1 with shut := decide ((((P.j P.tgt).begin P.top).append (frm P.tgt P.bk) P.bk D bs).2.2 = 141) }, (((P.j P.tgt).begin P.top).append (frm P.tgt P.bk) P.bk D bs).2.1, (((P.j P.tgt).begin P.top).append (frm P.tgt P.bk) P.bk D bs).2.2)
      else ({ P.put P.tgt (((P.j P.tgt).begin P.top).append (frm P.tgt P.bk) P.bk D bs).1 with area := if P.tgt then 2 else 1 }, (((P.j P.tgt).begin P.top).append (frm P.tgt P.bk) P.bk D bs).2.1, 0) := by
    unfold Dep.compact
    rw [if_neg (by simp [hsh]), if_neg (by omega)]
  have hS := hS.sel [1, 0, 2, 3, 4, 5] rfl rfl
  refine d_cl rfl rfl rfl (c48 hS (fun hbad => ⟨rc_0, ?_⟩) (fun hbad w5 T1 hS => ⟨rc_0, ?_⟩))
  · have hmx : maxN < P.top := by rcases hbad with h | h <;> omega
    rw [if_pos hmx] at hc0
    rw [hc0] at h
    have hS := hS.sel [1, 0, 2, 3, 4, 5] rfl rfl
    (repeat (first | refine d_ok rfl rfl rfl ?_ | refine d_no rfl rfl ?_))
    refine d_fin ?_
    (repeat (first | refine g_sq ?_ | refine g_rg ?_ | refine g_r0 ?_ | refine g_ok rfl rfl ?_ | refine g_no rfl ?_ | refine g_no0 rfl ?_ | refine g_bk ?_ | refine g_b ?_ | refine g_sk ?_ | refine g_cT rfl ?_ | refine g_cF rfl ?_ | refine g_x rfl ?_ | refine g_lb ?_))
    refine g_ef0 rfl (ef_st hS 0 rfl rfl rfl rfl (Nat.le_of_ble_eq_true rfl) rfl fun w6 hS => ?_)
    (repeat (first | refine g_sq ?_ | refine g_rg ?_ | refine g_r0 ?_ | refine g_ok rfl rfl ?_ | refine g_no rfl ?_ | refine g_no0 rfl ?_ | refine g_bk ?_ | refine g_b ?_ | refine g_sk ?_ | refine g_cT rfl ?_ | refine g_cF rfl ?_ | refine g_x rfl ?_ | refine g_lb ?_))
    have hS : St w S0 w6 (cel pb (DepC { P with shut := false } p) 113 :: JouR T1 (p P.tgt) d (frm P.tgt P.bk) P.bk (P.j P.tgt) :: JouR T2 (p !P.tgt) d (frm (!P.tgt) P.bk) P.bk (P.j !P.tgt) :: [DevR S1 d D, cel g [.int .i64 (bs.length : Int)] 3, cel g5 [dp (p P.tgt), .int .i64 (arv BinOp.add (m : Int) 1)] 110]) := hS
    rw [show ({ P with shut := false } : Dep) = P by cases P; simp only at hsh; rw [hsh]] at hS
    obtain ⟨S', hS⟩ := DepR.cls P.tgt h1 rfl rfl rfl hS
    exact g_ret (q_1 rfl (h _ _ _ (hS.sel [0, 1] rfl rfl)))
  · have hmx : ¬ maxN < P.top := fun hh => hbad (.inr (by exact_mod_cast hh))
    rw [if_neg hmx] at hc0
    rw [Int.toNat_natCast] at hS
    (repeat (first | refine d_ok rfl rfl rfl ?_ | refine d_no rfl rfl ?_))
    refine d_fin ?_
    (repeat (first | refine g_sq ?_ | refine g_rg ?_ | refine g_r0 ?_ | refine g_ok rfl rfl ?_ | refine g_no rfl ?_ | refine g_no0 rfl ?_ | refine g_bk ?_ | refine g_b ?_ | refine g_sk ?_ | refine g_cT rfl ?_ | refine g_cF rfl ?_ | refine g_x rfl ?_ | refine g_lb ?_))
    refine g_l1 rfl rfl (hS.b  5 rfl) rfl ?_
    (repeat (first | refine g_sq ?_ | refine g_rg ?_ | refine g_r0 ?_ | refine g_ok rfl rfl ?_ | refine g_no rfl ?_ | refine g_no0 rfl ?_ | refine g_bk ?_ | refine g_b ?_ | refine g_sk ?_ | refine g_cT rfl ?_ | refine g_cF rfl ?_ | refine g_x rfl ?_ | refine g_lb ?_))
    have hS := hS.sel [0, 3, 1, 2, 4, 5] rfl rfl
    refine g_cl rfl rfl (c42 hl hwt (src_rd hb hd hS) (fun x hx => ⟨src_out hb hd hS (i := 0) rfl x hx, src_out hb hd hS (i := 1) rfl x hx⟩) hS fun w6 T1 S1 hS => ?_)
    have hal := append_l ((P.j P.tgt).begin P.top) (frm P.tgt P.bk) P.bk D bs
    generalize ((P.j P.tgt).begin P.top).append (frm P.tgt P.bk) P.bk D bs = R at hS hc0 hal
    have hS := hS.sel [2, 0, 3, 1, 4, 5] rfl rfl
    (repeat (first | refine g_sq ?_ | refine g_rg ?_ | refine g_r0 ?_ | refine g_ok rfl rfl ?_ | refine g_no rfl ?_ | refine g_no0 rfl ?_ | refine g_bk ?_ | refine g_b ?_ | refine g_sk ?_ | refine g_cT rfl ?_ | refine g_cF rfl ?_ | refine g_x rfl ?_ | refine g_lb ?_))
    refine g_ef0 rfl (ef_st hS 0 rfl rfl rfl rfl (Nat.le_of_ble_eq_true rfl) rfl fun w7 hS => ?_)
    have hS : St w S0 w7 (cel pb (DepC { P with shut := decide (R.2.2 = 141) } p) 113 :: JouR T1 (p P.tgt) d (frm P.tgt P.bk) P.bk R.1 :: JouR T2 (p !P.tgt) d (frm (!P.tgt) P.bk) P.bk (P.j !P.tgt) :: [DevR S1 d R.2.1, cel g [.int .i64 (bs.length : Int)] 3, cel g5 [dp (p P.tgt), .int .i64 (arv BinOp.add (m : Int) 1)] 110]) := hS
    (repeat (first | refine g_sq ?_ | refine g_rg ?_ | refine g_r0 ?_ | refine g_ok rfl rfl ?_ | refine g_no rfl ?_ | refine g_no0 rfl ?_ | refine g_bk ?_ | refine g_b ?_ | refine g_sk ?_ | refine g_cT rfl ?_ | refine g_cF rfl ?_ | refine g_x rfl ?_ | refine g_lb ?_))
    refine g_cd rfl (fun hy => ?_) (fun hy => ?_)
    all_goals simp only [cmv, Bool.not_eq_true', Bool.not_eq_false', decide_eq_true_eq, decide_eq_false_iff_not] at hy
    · rw [if_pos hy] at hc0
      rw [hc0] at h
      (repeat (first | refine g_sq ?_ | refine g_rg ?_ | refine g_r0 ?_ | refine g_ok rfl rfl ?_ | refine g_no rfl ?_ | refine g_no0 rfl ?_ | refine g_bk ?_ | refine g_b ?_ | refine g_sk ?_ | refine g_cT rfl ?_ | refine g_cF rfl ?_ | refine g_x rfl ?_ | refine g_lb ?_))
      obtain ⟨S', hS⟩ := DepR.cls (P := { P.put P.tgt R.1 with shut := decide (R.2.2 = 141) }) P.tgt ⟨h1.1, h1.2.1, h1.2.2.1, fun ha => by
          have ha : P.area ≠ 0 := ha
          have e : P.liv = !P.tgt := by
            have : P.area = 1 ∨ P.area = 2 := by have := h1.2.2.1; omega
            unfold Dep.liv Dep.tgt
            rcases this with e | e <;> rw [e] <;> rfl
          show ((P.put P.tgt R.1).j P.liv).l ≠ []
          rw [e, Dep.put_other, ← e]
          exact h1.2.2.2 ha⟩ (Dep.put_same _ _ _) (Dep.put_other _ _ _) rfl hS
      exact g_ret (q_1 rfl (h _ _ _ (hS.sel [0, 1] rfl rfl)))
    · rw [if_neg (by simpa using hy)] at hc0
      rw [hc0] at h
      (repeat (first | refine g_sq ?_ | refine g_rg ?_ | refine g_r0 ?_ | refine g_ok rfl rfl ?_ | refine g_no rfl ?_ | refine g_no0 rfl ?_ | refine g_bk ?_ | refine g_b ?_ | refine g_sk ?_ | refine g_cT rfl ?_ | refine g_cF rfl ?_ | refine g_x rfl ?_ | refine g_lb ?_))
      refine g_lm rfl rfl (hS.b 5 rfl) (Nat.le_of_ble_eq_true rfl) ?_
      (repeat (first | refine g_sq ?_ | refine g_rg ?_ | refine g_r0 ?_ | refine g_ok rfl rfl ?_ | refine g_no rfl ?_ | refine g_no0 rfl ?_ | refine g_bk ?_ | refine g_b ?_ | refine g_sk ?_ | refine g_cT rfl ?_ | refine g_cF rfl ?_ | refine g_x rfl ?_ | refine g_lb ?_))
      refine g_ef0 rfl (ef_st hS 0 rfl rfl rfl rfl (Nat.le_of_ble_eq_true rfl) rfl fun w8 hS => ?_)
      (repeat (first | refine g_sq ?_ | refine g_rg ?_ | refine g_r0 ?_ | refine g_ok rfl rfl ?_ | refine g_no rfl ?_ | refine g_no0 rfl ?_ | refine g_bk ?_ | refine g_b ?_ | refine g_sk ?_ | refine g_cT rfl ?_ | refine g_cF rfl ?_ | refine g_x rfl ?_ | refine g_lb ?_))
      have hlv : ({ P.put P.tgt R.1 with area := if P.tgt then 2 else 1 } : Dep).liv = P.tgt := by
        show ((if P.tgt then 2 else 1 : Nat) == 2) = P.tgt
        cases P.tgt <;> rfl
      have hC : DepC ({ P.put P.tgt R.1 with area := if P.tgt then 2 else 1 } : Dep) p = [dp (p P.tgt), .int .i64 (arv BinOp.add (m : Int) 1), dp (p false), dp (p true), .int .i64 P.bk, .bool (decide (R.2.2 = 141))] := by
        rw [DepC1 _ (by show (if P.tgt then 2 else 1) ≠ 0; split <;> decide), hlv]
        rw [show ({ P.put P.tgt R.1 with area := if P.tgt then 2 else 1 } : Dep).shut = decide (R.2.2 = 141) by rw [hy]; exact hsh]
        rw [show ((({ P.put P.tgt R.1 with area := if P.tgt then 2 else 1 } : Dep).area : Nat) : Int) = arv BinOp.add (m : Int) 1 by
          show ((if P.tgt then 2 else 1 : Nat) : Int) = (m : Int) + 1
          rw [← hm1]; rfl]
        rfl
      have hS : St w S0 w8 (cel pb [dp (p P.tgt), .int .i64 (arv BinOp.add (m : Int) 1), dp (p false), dp (p true), .int .i64 P.bk, .bool (decide (R.2.2 = 141))] 113 :: JouR T1 (p P.tgt) d (frm P.tgt P.bk) P.bk R.1 :: JouR T2 (p !P.tgt) d (frm (!P.tgt) P.bk) P.bk (P.j !P.tgt) :: [DevR S1 d R.2.1, cel g [.int .i64 (bs.length : Int)] 3, cel g5 [dp (p P.tgt), .int .i64 (arv BinOp.add (m : Int) 1)] 110]) := hS
      rw [← hC] at hS
      obtain ⟨S', hS⟩ := DepR.cls (P := { P.put P.tgt R.1 with area := if P.tgt then 2 else 1 }) P.tgt ⟨h1.1, h1.2.1, by show (if P.tgt then 2 else 1) ≤ 2; split <;> decide, fun _ => by
          rw [hlv]
          show ((P.put P.tgt R.1).j P.tgt).l ≠ []
          rw [Dep.put_same]
          rcases hal with ⟨_, e⟩ | ⟨e, _⟩
          · rw [e]; simp
          · exact absurd hy e⟩ (Dep.put_same _ _ _) (Dep.put_other _ _ _) rfl hS
      exact g_ret (q_1 rfl (h _ _ _ (hS.sel [0, 1] rfl rfl)))
theorem c65 {v : Value} {E : Nat} {bs : List UInt8} (hl : bs.length ≤ 1000000) (hwt : D.waits.length ≤ 1000000) (hb : Rd v E 1 bs.length (bys bs) w) (hd : ∀ x, vb v x → ¬ S x ∧ ¬ S1 x) (hS : St w0 S0 w (DepR S pb d P :: DevR S1 d D :: B))
    (h : ∀ w' S' S1', St w0 S0 w' (DepR S' pb d (P.compact D bs).1 :: DevR S1' d (P.compact D bs).2.1 :: B) → K (.int .i64 (P.compact D bs).2.2) w') : CK Try.prog 65 [dp pb, v] w K := by
  have hf := St.frame (A := [DepR S pb d P, DevR S1 d D]) (B := B) hS
  refine b65 hl hwt hb (fun x hx => ?_) hf.1 fun w' S' S1' h' => h w' S' S1' (hf.2 w' _ h')
  rintro ⟨j, r, hj, hr⟩
  match j, hj with
  | 0, hj => cases hj; exact (hd x hx).1 hr
  | 1, hj => cases hj; exact (hd x hx).2 hr
end
end Go.Proofs.Ytegjocpjmfaigaa
