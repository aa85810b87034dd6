/- The depot as one resource; what can be asked of it. -/
import Derived.Test.YtegjocpjmfaigaaKa
import Derived.Test.YtegjocpjmfaigaaMg
set_option linter.unusedSimpArgs false
set_option linter.unusedVariables false
namespace Go.Proofs.Ytegjocpjmfaigaa
open Go.En

structure Dep where
  j : Bool → Jou
  area : Nat
  bk : Nat
  shut : Bool
def frm (t : Bool) (bk : Nat) : Nat := if t then bk else 0
def Dep.liv (P : Dep) : Bool := P.area == 2
def Dep.wf (P : Dep) : Prop := 2 ≤ P.bk ∧ P.bk ≤ 2048 ∧ P.area ≤ 2 ∧ (P.area ≠ 0 → (P.j P.liv).l ≠ [])
abbrev DX := (Bool → Nat) × (Bool → Nat → Prop)
def DepC (P : Dep) (p : Bool → Nat) : List Value := [if P.area = 0 then .pointer none else dp (p P.liv), .int .i64 P.area, dp (p false), dp (p true), .int .i64 P.bk, .bool P.shut]
def DepB (pb d : Nat) (P : Dep) (x : DX) : Res := ((cel pb (DepC P x.1) 113).and ((JouR (x.2 false) (x.1 false) d (frm false P.bk) P.bk (P.j false)).and (JouR (x.2 true) (x.1 true) d (frm true P.bk) P.bk (P.j true)))).when P.wf
def DepR (S : Nat → Prop) (pb d : Nat) (P : Dep) : Res := Ex S (DepB pb d P)
def Dep.number (P : Dep) : Nat := if P.area = 0 then 0 else (P.j P.liv).last
def Dep.left (P : Dep) : Nat := if P.area = 0 then P.bk else P.bk - (P.j P.liv).used
def needs (l : List Nat) : Nat := (l.map fun n => min (blk n) 4096).sum
def nts (l : List Nat) : List Value := l.map fun n : Nat => .int .i64 (n : Int)
theorem needs_app (a b : List Nat) : needs (a ++ b) = needs a + needs b := by simp [needs]
section
variable {w w0 : World} {S0 S S1 : Nat → Prop} {K : Value → World → Prop} {pb d : Nat} {P : Dep} {D : Dev} {B L : List Res}
theorem DepC0 (p : Bool → Nat) (h : P.area = 0) : DepC P p = [.pointer none, .int .i64 P.area, dp (p false), dp (p true), .int .i64 P.bk, .bool P.shut] := by unfold DepC; rw [if_pos h]
theorem DepC1 (p : Bool → Nat) (h : P.area ≠ 0) : DepC P p = [dp (p P.liv), .int .i64 P.area, dp (p false), dp (p true), .int .i64 P.bk, .bool P.shut] := by unfold DepC; rw [if_neg h]
theorem DepR.opn (t : Bool) (hS : St w0 S0 w (DepR S pb d P :: B)) : ∃ (p : Bool → Nat) (S1 S2 : Nat → Prop), P.wf ∧ St w0 S0 w (cel pb (DepC P p) 113 :: JouR S1 (p t) d (frm t P.bk) P.bk (P.j t) :: JouR S2 (p !t) d (frm (!t) P.bk) P.bk (P.j !t) :: B) := by
  obtain ⟨⟨p, T⟩, hS⟩ := hS.ex 0 rfl
  obtain ⟨h1, hS⟩ := hS.cond 0 rfl
  have hS := (hS.split 0 rfl).front
  have hS := (hS.split 0 rfl).front
  have hS : St w0 S0 w (JouR (T true) (p true) d (frm true P.bk) P.bk (P.j true) :: JouR (T false) (p false) d (frm false P.bk) P.bk (P.j false) :: cel pb (DepC P p) 113 :: B) := hS
  refine ⟨p, T t, T !t, h1, ?_⟩
  cases t
  · exact hS.selB (A := [_, _, _]) (B := B) [2, 1, 0] rfl rfl
  · exact hS.selB (A := [_, _, _]) (B := B) [2, 0, 1] rfl rfl
theorem DepR.cls (t : Bool) {p : Bool → Nat} {S1 S2 : Nat → Prop} {J J2 : Jou} {n : Nat} (h1 : P.wf) (hj : P.j t = J) (hk : (P.j !t) = J2) (hn : P.bk = n) (hS : St w0 S0 w (cel pb (DepC P p) 113 :: JouR S1 (p t) d (frm t n) n J :: JouR S2 (p !t) d (frm (!t) n) n J2 :: B)) : ∃ S', St w0 S0 w (DepR S' pb d P :: B) := by
  subst hj hk hn
  obtain ⟨T, hS⟩ : ∃ T : Bool → Nat → Prop, St w0 S0 w (cel pb (DepC P p) 113 :: JouR (T false) (p false) d (frm false P.bk) P.bk (P.j false) :: JouR (T true) (p true) d (frm true P.bk) P.bk (P.j true) :: B) := by
    cases t
    · exact ⟨fun b => if b then S2 else S1, hS⟩
    · exact ⟨fun b => if b then S1 else S2, hS.selB (A := [_, _, _]) (B := B) [0, 2, 1] rfl rfl⟩
  have hS := hS.merge 1 2 rfl rfl (by decide)
  have hS : St w0 S0 w (cel pb (DepC P p) 113 :: (JouR (T false) (p false) d (frm false P.bk) P.bk (P.j false)).and (JouR (T true) (p true) d (frm true P.bk) P.bk (P.j true)) :: emp :: B) := hS
  have hS := hS.merge 0 1 rfl rfl (by decide)
  have hS := hS.toWhen (p := P.wf) 0 rfl h1
  obtain ⟨S', hS⟩ := hS.toEx (F := DepB pb d P) (x := (p, T)) 0 rfl
  refine ⟨S', ?_⟩
  have hS : St w0 S0 w (DepR S' pb d P :: emp :: emp :: B) := hS
  exact St.sub (A := [DepR S' pb d P]) ((List.sublist_cons_self _ _).trans (List.sublist_cons_self _ _)) hS
theorem DepR.blk (hS : St w0 S0 w (DepR S pb d P :: B)) : P.wf ∧ (∃ p, Blk w pb (DepC P p) 113) ∧ ∀ t, (P.j t).wf P.bk := by
  obtain ⟨p, S1, S2, h1, hT⟩ := DepR.opn false hS
  refine ⟨h1, ⟨p, hT.b 0 rfl⟩, fun t => ?_⟩
  obtain ⟨p, S1, S2, h1, hT⟩ := DepR.opn t hS
  exact (JouR.blk (hT.tail)).1
theorem b100 {l : List Value} {n : Nat} (hB : Blk w pb l 113) (h4 : l[4]? = some (.int .i64 (n : Int))) (hn : 2 ≤ n) (h : K (.bool false) w) : CK Try.prog 100 [dp pb] w K := by
  refine call_k Try.func100 k100 Try.ntmps100 (Nat.le_of_ble_eq_true rfl) ?_
  (repeat (first | refine g_sq ?_ | refine g_rg ?_ | refine g_r0 ?_ | refine g_ok rfl rfl ?_ | refine g_no rfl ?_ | refine g_no0 rfl ?_ | refine g_bk ?_ | refine g_b ?_ | refine g_sk ?_ | refine g_cT rfl ?_ | refine g_cF rfl ?_ | refine g_x rfl ?_ | refine g_lb ?_))
  refine g_l1 rfl rfl hB h4 ?_
  have hc : cmv BinOp.eql (n : Int) 0 = false := by simp only [cmv, decide_eq_false_iff_not]; omega
  (repeat (first | refine g_sq ?_ | refine g_rg ?_ | refine g_r0 ?_ | refine g_ok rfl rfl ?_ | refine g_no rfl ?_ | refine g_no0 rfl ?_ | refine g_bk ?_ | refine g_b ?_ | refine g_sk ?_ | refine g_cT rfl ?_ | refine g_cF rfl ?_ | refine g_x rfl ?_ | refine g_lb ?_))
  rw [hc]
  (repeat (first | refine g_sq ?_ | refine g_rg ?_ | refine g_r0 ?_ | refine g_ok rfl rfl ?_ | refine g_no rfl ?_ | refine g_no0 rfl ?_ | refine g_bk ?_ | refine g_b ?_ | refine g_sk ?_ | refine g_cT rfl ?_ | refine g_cF rfl ?_ | refine g_x rfl ?_ | refine g_lb ?_))
  exact g_ret (q_1 rfl h)
theorem c59 (hS : St w0 S0 w (DepR S pb d P :: B)) (h : ∀ w' S', St w0 S0 w' (DepR S' pb d P :: B) → K (.int .i64 P.number) w') : CK Try.prog 59 [dp pb] w K := by
  obtain ⟨p, S1, S2, h1, hS⟩ := DepR.opn P.liv hS
  refine call_k Try.func59 k59 Try.ntmps59 (Nat.le_of_ble_eq_true rfl) ?_
  (repeat (first | refine g_sq ?_ | refine g_rg ?_ | refine g_r0 ?_ | refine g_ok rfl rfl ?_ | refine g_no rfl ?_ | refine g_no0 rfl ?_ | refine g_bk ?_ | refine g_b ?_ | refine g_sk ?_ | refine g_cT rfl ?_ | refine g_cF rfl ?_ | refine g_x rfl ?_ | refine g_lb ?_))
  refine g_cl rfl rfl (b100 (hS.b 0 rfl) rfl h1.1 ?_)
  (repeat (first | refine g_sq ?_ | refine g_rg ?_ | refine g_r0 ?_ | refine g_ok rfl rfl ?_ | refine g_no rfl ?_ | refine g_no0 rfl ?_ | refine g_bk ?_ | refine g_b ?_ | refine g_sk ?_ | refine g_cT rfl ?_ | refine g_cF rfl ?_ | refine g_x rfl ?_ | refine g_lb ?_))
  refine g_l1 rfl rfl (hS.b  0 rfl) rfl ?_
  by_cases ha : P.area = 0
  · rw [if_pos ha]
    refine g_cl rfl rfl (v44 hS (.inl rfl) ?_)
    (repeat (first | refine g_sq ?_ | refine g_rg ?_ | refine g_r0 ?_ | refine g_ok rfl rfl ?_ | refine g_no rfl ?_ | refine g_no0 rfl ?_ | refine g_bk ?_ | refine g_b ?_ | refine g_sk ?_ | refine g_cT rfl ?_ | refine g_cF rfl ?_ | refine g_x rfl ?_ | refine g_lb ?_))
    obtain ⟨S', hS⟩ := DepR.cls P.liv h1 rfl rfl rfl hS
    have h := h _ _ hS
    rw [Dep.number, if_pos ha] at h
    exact g_ret (q_1 rfl h)
  · rw [if_neg ha]
    have hS := hS.selB (A := [_, _, _]) (B := B) [1, 0, 2] rfl rfl
    refine g_cl rfl rfl (c44 hS fun w S1 hS => ?_)
    have hS := hS.selB (A := [_, _, _]) (B := B) [1, 0, 2] rfl rfl
    (repeat (first | refine g_sq ?_ | refine g_rg ?_ | refine g_r0 ?_ | refine g_ok rfl rfl ?_ | refine g_no rfl ?_ | refine g_no0 rfl ?_ | refine g_bk ?_ | refine g_b ?_ | refine g_sk ?_ | refine g_cT rfl ?_ | refine g_cF rfl ?_ | refine g_x rfl ?_ | refine g_lb ?_))
    obtain ⟨S', hS⟩ := DepR.cls P.liv h1 rfl rfl rfl hS
    have h := h _ _ hS
    rw [Dep.number, if_neg ha] at h
    exact g_ret (q_1 rfl h)
theorem c60 (hS : St w0 S0 w (DepR S pb d P :: B)) (h : K (.int .i64 P.area) w) : CK Try.prog 60 [dp pb] w K := by
  obtain ⟨h1, ⟨p, hB⟩, _⟩ := DepR.blk hS
  refine call_k Try.func60 k60 Try.ntmps60 (Nat.le_of_ble_eq_true rfl) ?_
  (repeat (first | refine g_sq ?_ | refine g_rg ?_ | refine g_r0 ?_ | refine g_ok rfl rfl ?_ | refine g_no rfl ?_ | refine g_no0 rfl ?_ | refine g_bk ?_ | refine g_b ?_ | refine g_sk ?_ | refine g_cT rfl ?_ | refine g_cF rfl ?_ | refine g_x rfl ?_ | refine g_lb ?_))
  refine g_cl rfl rfl (b100 hB rfl h1.1 ?_)
  (repeat (first | refine g_sq ?_ | refine g_rg ?_ | refine g_r0 ?_ | refine g_ok rfl rfl ?_ | refine g_no rfl ?_ | refine g_no0 rfl ?_ | refine g_bk ?_ | refine g_b ?_ | refine g_sk ?_ | refine g_cT rfl ?_ | refine g_cF rfl ?_ | refine g_x rfl ?_ | refine g_lb ?_))
  refine g_l1 rfl rfl hB rfl ?_
  (repeat (first | refine g_sq ?_ | refine g_rg ?_ | refine g_r0 ?_ | refine g_ok rfl rfl ?_ | refine g_no rfl ?_ | refine g_no0 rfl ?_ | refine g_bk ?_ | refine g_b ?_ | refine g_sk ?_ | refine g_cT rfl ?_ | refine g_cF rfl ?_ | refine g_x rfl ?_ | refine g_lb ?_))
  exact g_ret (q_1 rfl h)
theorem c61 (hS : St w0 S0 w (DepR S pb d P :: B)) (h : ∀ w' S', St w0 S0 w' (DepR S' pb d P :: B) → K (.int .i64 (P.left : Nat)) w') : CK Try.prog 61 [dp pb] w K := by
  obtain ⟨p, S1, S2, h1, hS⟩ := DepR.opn P.liv hS
  refine call_k Try.func61 k61 Try.ntmps61 (Nat.le_of_ble_eq_true rfl) ?_
  (repeat (first | refine g_sq ?_ | refine g_rg ?_ | refine g_r0 ?_ | refine g_ok rfl rfl ?_ | refine g_no rfl ?_ | refine g_no0 rfl ?_ | refine g_bk ?_ | refine g_b ?_ | refine g_sk ?_ | refine g_cT rfl ?_ | refine g_cF rfl ?_ | refine g_x rfl ?_ | refine g_lb ?_))
  refine g_cl rfl rfl (b100 (hS.b 0 rfl) rfl h1.1 ?_)
  (repeat (first | refine g_sq ?_ | refine g_rg ?_ | refine g_r0 ?_ | refine g_ok rfl rfl ?_ | refine g_no rfl ?_ | refine g_no0 rfl ?_ | refine g_bk ?_ | refine g_b ?_ | refine g_sk ?_ | refine g_cT rfl ?_ | refine g_cF rfl ?_ | refine g_x rfl ?_ | refine g_lb ?_))
  refine g_l1 rfl rfl (hS.b  0 rfl) rfl ?_
  (repeat (first | refine g_sq ?_ | refine g_rg ?_ | refine g_r0 ?_ | refine g_ok rfl rfl ?_ | refine g_no rfl ?_ | refine g_no0 rfl ?_ | refine g_bk ?_ | refine g_b ?_ | refine g_sk ?_ | refine g_cT rfl ?_ | refine g_cF rfl ?_ | refine g_x rfl ?_ | refine g_lb ?_))
  refine g_cd rfl (fun hz => ?_) (fun hz => ?_)
  all_goals simp only [cmv, decide_eq_true_eq, decide_eq_false_iff_not] at hz
  · have ha : P.area = 0 := by omega
    (repeat (first | refine g_sq ?_ | refine g_rg ?_ | refine g_r0 ?_ | refine g_ok rfl rfl ?_ | refine g_no rfl ?_ | refine g_no0 rfl ?_ | refine g_bk ?_ | refine g_b ?_ | refine g_sk ?_ | refine g_cT rfl ?_ | refine g_cF rfl ?_ | refine g_x rfl ?_ | refine g_lb ?_))
    refine g_l1 rfl rfl (hS.b  0 rfl) rfl ?_
    (repeat (first | refine g_sq ?_ | refine g_rg ?_ | refine g_r0 ?_ | refine g_ok rfl rfl ?_ | refine g_no rfl ?_ | refine g_no0 rfl ?_ | refine g_bk ?_ | refine g_b ?_ | refine g_sk ?_ | refine g_cT rfl ?_ | refine g_cF rfl ?_ | refine g_x rfl ?_ | refine g_lb ?_))
    obtain ⟨S', hS⟩ := DepR.cls P.liv h1 rfl rfl rfl hS
    have h := h _ _ hS
    rw [Dep.left, if_pos ha] at h
    exact g_ret (q_1 rfl h)
  · have ha : P.area ≠ 0 := by omega
    (repeat (first | refine g_sq ?_ | refine g_rg ?_ | refine g_r0 ?_ | refine g_ok rfl rfl ?_ | refine g_no rfl ?_ | refine g_no0 rfl ?_ | refine g_bk ?_ | refine g_b ?_ | refine g_sk ?_ | refine g_cT rfl ?_ | refine g_cF rfl ?_ | refine g_x rfl ?_ | refine g_lb ?_))
    refine g_l1 rfl rfl (hS.b  0 rfl) rfl ?_
    rw [if_neg ha]
    have hS := hS.selB (A := [_, _, _]) (B := B) [1, 0, 2] rfl rfl
    refine g_cl rfl rfl (c41 hS fun w S1 hS => ?_)
    have hS := hS.selB (A := [_, _, _]) (B := B) [1, 0, 2] rfl rfl
    (repeat (first | refine g_sq ?_ | refine g_rg ?_ | refine g_r0 ?_ | refine g_ok rfl rfl ?_ | refine g_no rfl ?_ | refine g_no0 rfl ?_ | refine g_bk ?_ | refine g_b ?_ | refine g_sk ?_ | refine g_cT rfl ?_ | refine g_cF rfl ?_ | refine g_x rfl ?_ | refine g_lb ?_))
    obtain ⟨S', hS⟩ := DepR.cls P.liv h1 rfl rfl rfl hS
    have h := h _ _ hS
    rw [Dep.left, if_neg ha] at h
    exact g_ret (q_1 rfl h)
theorem c101 {n : Nat} (hn : n ≤ 1000000000000) (h : K (.int .i64 ((min (blk n) 4096 : Nat) : Int)) w) : CK Try.prog 101 [.int .i64 n] w K := by
  refine call_k Try.func101 k101 Try.ntmps101 (Nat.le_of_ble_eq_true rfl) ?_
  (repeat (first | refine g_sq ?_ | refine g_rg ?_ | refine g_r0 ?_ | refine g_ok rfl rfl ?_ | refine g_no rfl ?_ | refine g_no0 rfl ?_ | refine g_bk ?_ | refine g_b ?_ | refine g_sk ?_ | refine g_cT rfl ?_ | refine g_cF rfl ?_ | refine g_x rfl ?_ | refine g_lb ?_))
  refine g_cl rfl rfl (c40 hn ?_)
  (repeat (first | refine g_sq ?_ | refine g_rg ?_ | refine g_r0 ?_ | refine g_ok rfl rfl ?_ | refine g_no rfl ?_ | refine g_no0 rfl ?_ | refine g_bk ?_ | refine g_b ?_ | refine g_sk ?_ | refine g_cT rfl ?_ | refine g_cF rfl ?_ | refine g_x rfl ?_ | refine g_lb ?_))
  have e : ((min (blk n) 4096 : Nat) : Int) = min ((blk n : Nat) : Int) 4096 := by omega
  rw [e] at h
  exact g_ret (q_1 rfl h)
theorem needs_le : ∀ (l : List Nat), needs l ≤ l.length * 4096
  | [] => Nat.le_refl _
  | n :: l => by
    have := needs_le l
    have e : needs (n :: l) = min (blk n) 4096 + needs l := by simp [needs]
    rw [e, List.length_cons]
    omega
theorem c102 {v : Value} {l : List Nat} (hr : Rd v 3 1 l.length (nts l) w) (hl : ∀ n ∈ l, n ≤ 1000000) (hn : l.length ≤ 1000000) (h : K (.int .i64 (needs l)) w) : CK Try.prog 102 [.func (.func 101) #[] #[], v] w K := by
  have hr' := hr
  obtain ⟨a, c, rfl⟩ := Rd.form hr'
  refine call_k Try.func102 k102 Try.ntmps102 (Nat.le_of_ble_eq_true rfl) ?_
  (repeat (first | refine g_sq ?_ | refine g_rg ?_ | refine g_r0 ?_ | refine g_ok rfl rfl ?_ | refine g_no rfl ?_ | refine g_no0 rfl ?_ | refine g_bk ?_ | refine g_b ?_ | refine g_sk ?_ | refine g_cT rfl ?_ | refine g_cF rfl ?_ | refine g_x rfl ?_ | refine g_lb ?_))
  refine g_lp (ι := Nat) (fun k => [(0, .func (.func 101) #[] #[]), (5, .int .i64 (needs (l.take k))), (8, .slice a l.length c), (9, .int .i64 l.length), (10, .int .i64 k)])
    (fun k w' => k ≤ l.length ∧ w = w') (fun k => l.length - k) 0 ⟨rfl, rfl, rfl, rfl, rfl, trivial⟩ ⟨Nat.zero_le _, rfl⟩ ?_
  rintro k _ ⟨hk, rfl⟩
  (repeat (first | refine g_sq ?_ | refine g_rg ?_ | refine g_r0 ?_ | refine g_ok rfl rfl ?_ | refine g_no rfl ?_ | refine g_no0 rfl ?_ | refine g_bk ?_ | refine g_b ?_ | refine g_sk ?_ | refine g_cT rfl ?_ | refine g_cF rfl ?_ | refine g_x rfl ?_ | refine g_lb ?_))
  refine g_cd rfl (fun hc => ?_) (fun hc => ?_)
  all_goals simp only [cmv, decide_eq_true_eq, decide_eq_false_iff_not] at hc
  · have hlt : k < l.length := by omega
    obtain ⟨b, off, cap, cs, hv, _, hB, hx⟩ := hr.cellr (k := k) hlt
    cases hv
    have hz : l[k]? = some l[k] := List.getElem?_eq_getElem hlt
    have hzm : l[k] ∈ l := List.getElem_mem hlt
    generalize l[k] = z at hz hzm
    have hzb := hl z hzm
    have hst : needs (l.take (k + 1)) = needs (l.take k) + min (blk z) 4096 := by
      rw [List.take_add_one, hz, needs_app]; simp [needs]
    have hnl := needs_le (l.take k)
    have htl : (l.take k).length = k := by rw [List.length_take]; omega
    rw [htl] at hnl
    (repeat (first | refine g_sq ?_ | refine g_rg ?_ | refine g_r0 ?_ | refine g_ok rfl rfl ?_ | refine g_no rfl ?_ | refine g_no0 rfl ?_ | refine g_bk ?_ | refine g_b ?_ | refine g_sk ?_ | refine g_cT rfl ?_ | refine g_cF rfl ?_ | refine g_x rfl ?_ | refine g_lb ?_))
    refine g_rq rfl rfl ⟨by omega, by omega⟩ ?_
    (repeat (first | refine g_sq ?_ | refine g_rg ?_ | refine g_r0 ?_ | refine g_ok rfl rfl ?_ | refine g_no rfl ?_ | refine g_no0 rfl ?_ | refine g_bk ?_ | refine g_b ?_ | refine g_sk ?_ | refine g_cT rfl ?_ | refine g_cF rfl ?_ | refine g_x rfl ?_ | refine g_lb ?_))
    refine g_l1r (v := .int .i64 (z : Int)) rfl rfl hB (by
      show cs[off + k * 1]? = _
      rw [hx, nts, List.getElem?_map, hz]; rfl) ?_
    (repeat (first | refine g_sq ?_ | refine g_rg ?_ | refine g_r0 ?_ | refine g_ok rfl rfl ?_ | refine g_no rfl ?_ | refine g_no0 rfl ?_ | refine g_bk ?_ | refine g_b ?_ | refine g_sk ?_ | refine g_cT rfl ?_ | refine g_cF rfl ?_ | refine g_x rfl ?_ | refine g_lb ?_))
    refine g_ef rfl (ef_cv (first := []) (cap := []) rfl rfl (callFunc_of Try.func101 rfl rfl) (c101 (by omega) ?_))
    refine g_rq rfl rfl (in64 (by simp only [arv]; omega)) ?_
    (repeat (first | refine g_sq ?_ | refine g_rg ?_ | refine g_r0 ?_ | refine g_ok rfl rfl ?_ | refine g_no rfl ?_ | refine g_no0 rfl ?_ | refine g_bk ?_ | refine g_b ?_ | refine g_sk ?_ | refine g_cT rfl ?_ | refine g_cF rfl ?_ | refine g_x rfl ?_ | refine g_lb ?_))
    refine g_rq rfl rfl (in64 (by simp only [arv]; omega)) ?_
    (repeat (first | refine g_sq ?_ | refine g_rg ?_ | refine g_r0 ?_ | refine g_ok rfl rfl ?_ | refine g_no rfl ?_ | refine g_no0 rfl ?_ | refine g_bk ?_ | refine g_b ?_ | refine g_sk ?_ | refine g_cT rfl ?_ | refine g_cF rfl ?_ | refine g_x rfl ?_ | refine g_lb ?_))
    refine g_l (k + 1) ⟨rfl, ?_, rfl, rfl, rfl, trivial⟩ ⟨by omega, rfl⟩ (by omega)
    rw [hst]
    simp only [arv]
    rfl
  · have hk2 : k = l.length := by omega
    subst hk2
    rw [List.take_length]
    (repeat (first | refine g_sq ?_ | refine g_rg ?_ | refine g_r0 ?_ | refine g_ok rfl rfl ?_ | refine g_no rfl ?_ | refine g_no0 rfl ?_ | refine g_bk ?_ | refine g_b ?_ | refine g_sk ?_ | refine g_cT rfl ?_ | refine g_cF rfl ?_ | refine g_x rfl ?_ | refine g_lb ?_))
    exact g_ret (q_1 rfl h)
theorem c64 {v : Value} {l : List Nat} (hr : Rd v 3 1 l.length (nts l) w) (hl : ∀ n ∈ l, n ≤ 1000000) (hn : l.length ≤ 1000000) (hS : St w0 S0 w (DepR S pb d P :: B)) (h : ∀ w', St w0 S0 w' (DepR S pb d P :: B) → K (.bool (decide (needs l ≤ P.bk))) w') : CK Try.prog 64 [dp pb, v] w K := by
  obtain ⟨h1, ⟨p, hB⟩, _⟩ := DepR.blk hS
  refine call_k Try.func64 k64 Try.ntmps64 (Nat.le_of_ble_eq_true rfl) ?_
  (repeat (first | refine g_sq ?_ | refine g_rg ?_ | refine g_r0 ?_ | refine g_ok rfl rfl ?_ | refine g_no rfl ?_ | refine g_no0 rfl ?_ | refine g_bk ?_ | refine g_b ?_ | refine g_sk ?_ | refine g_cT rfl ?_ | refine g_cF rfl ?_ | refine g_x rfl ?_ | refine g_lb ?_))
  refine g_cl rfl rfl (b100 hB rfl h1.1 ?_)
  (repeat (first | refine g_sq ?_ | refine g_rg ?_ | refine g_r0 ?_ | refine g_ok rfl rfl ?_ | refine g_no rfl ?_ | refine g_no0 rfl ?_ | refine g_bk ?_ | refine g_b ?_ | refine g_sk ?_ | refine g_cT rfl ?_ | refine g_cF rfl ?_ | refine g_x rfl ?_ | refine g_lb ?_))
  refine g_dr mixed ?_
  have hS := hS.drew
  have hr : Rd v 3 1 l.length (nts l) w.drew := hr.same fun _ _ => rfl
  obtain ⟨_, ⟨p, hB⟩, _⟩ := DepR.blk hS
  (repeat (first | refine d_ok rfl rfl rfl ?_ | refine d_no rfl rfl ?_))
  refine d_l1 rfl rfl rfl hB rfl ?_
  refine d_cl rfl rfl rfl (c102 hr hl hn ⟨rc_1 rfl rfl rfl rfl hB rfl rc_0, ?_⟩)
  (repeat (first | refine d_ok rfl rfl rfl ?_ | refine d_no rfl rfl ?_))
  refine d_fin ?_
  (repeat (first | refine g_sq ?_ | refine g_rg ?_ | refine g_r0 ?_ | refine g_ok rfl rfl ?_ | refine g_no rfl ?_ | refine g_no0 rfl ?_ | refine g_bk ?_ | refine g_b ?_ | refine g_sk ?_ | refine g_cT rfl ?_ | refine g_cF rfl ?_ | refine g_x rfl ?_ | refine g_lb ?_))
  have h := h _ hS
  have e : cmv BinOp.leq (needs l : Int) (P.bk : Int) = decide (needs l ≤ P.bk) := by simp only [cmv]; congr 1; simp
  rw [← e] at h
  exact g_ret (q_1 rfl h)
end
end Go.Proofs.Ytegjocpjmfaigaa
