/- The document's device: blocks of bytes that are shared, and never turned. -/
import Derived.Test.YtegjocpjmfaigaaLz
import Derived.Test.YtegjocpjmfaigaaMb
set_option linter.unusedSimpArgs false
set_option linter.unusedVariables false
namespace Go.Proofs.Ytegjocpjmfaigaa
open Go.En

section
variable {w w0 : World} {S0 S : Nat → Prop} {K : Value → World → Prop} {b : Nat} {D : Dev} {B L : List Res}
theorem b70 {v : Value} {E n : Nat} {xs : List Value} (hr : Rd v E 1 n xs w) (h1 : xs.all (·.oneCell') = true) (hn : n ≤ 140737488355328) (h : ∀ v' w', St w (fun _ => False) w' [row v' 5 1 n xs] → K v' w') : CK Try.prog 70 [v] w K := by
  refine call_k Try.func70 k70 Try.ntmps70 (Nat.le_of_ble_eq_true rfl) ?_
  (repeat (first | refine g_sq ?_ | refine g_rg ?_ | refine g_r0 ?_ | refine g_ok rfl rfl ?_ | refine g_no rfl ?_ | refine g_no0 rfl ?_ | refine g_bk ?_ | refine g_b ?_ | refine g_sk ?_ | refine g_cT rfl ?_ | refine g_cF rfl ?_ | refine g_x rfl ?_ | refine g_lb ?_))
  refine g_ef rfl (ef_ap (n := 0) (m := n) (xs := []) (ys := xs) ((St.nil w (fun _ => False)).nilrow 5 1) 0 rfl rfl rfl (.inl ⟨E, hr⟩) h1 (by omega) (by omega) fun v' w1 hS => ?_)
  rw [Nat.zero_add] at hS
  (repeat (first | refine g_sq ?_ | refine g_rg ?_ | refine g_r0 ?_ | refine g_ok rfl rfl ?_ | refine g_no rfl ?_ | refine g_no0 rfl ?_ | refine g_bk ?_ | refine g_b ?_ | refine g_sk ?_ | refine g_cT rfl ?_ | refine g_cF rfl ?_ | refine g_x rfl ?_ | refine g_lb ?_))
  exact g_ret (q_1 rfl (h _ _ hS))

theorem b120 {va vc : Value} {x y : List UInt8} {m : Int} (ha : Rd va 5 1 128 (bys x) w) (hc : Rd vc 5 1 128 (bys y) w) (hm : 0 ≤ m ∧ m ≤ 128) (h : ∀ v' w', St w (fun _ => False) w' [row v' 5 1 128 (bys (x.take m.toNat ++ y.drop m.toNat))] → K v' w') : CK Try.prog 120 [va, vc, .int .i64 m] w K := by
  have hxl : x.length = 128 := by have := ha.len; simpa using this
  have hyl : y.length = 128 := by have := hc.len; simpa using this
  obtain ⟨ba, oa, ca, la, rfl, a1, _⟩ := Rd.block ha (by decide)
  obtain ⟨bc, oc, cc, lc, rfl, c1, _⟩ := Rd.block hc (by decide)
  refine call_k Try.func120 k120 Try.ntmps120 (Nat.le_of_ble_eq_true rfl) ?_
  (repeat (first | refine g_sq ?_ | refine g_rg ?_ | refine g_r0 ?_ | refine g_ok rfl rfl ?_ | refine g_no rfl ?_ | refine g_no0 rfl ?_ | refine g_bk ?_ | refine g_b ?_ | refine g_sk ?_ | refine g_cT rfl ?_ | refine g_cF rfl ?_ | refine g_x rfl ?_ | refine g_lb ?_))
  refine g_rq rfl rfl ⟨Int.le_refl _, hm.1, by omega, by omega⟩ ?_
  have ta := Rd.take (k := m.toNat) ha (by omega)
  refine g_ef rfl (ef_ap (n := 0) (m := m.toNat) (xs := []) ((St.nil w (fun _ => False)).nilrow 5 1) 0 rfl rfl rfl (.inl ⟨5, ta⟩) (by rw [bys_take]; exact bys_one _) (by omega) (by omega) fun v1 w1 hS => ?_)
  rw [Nat.zero_add, List.nil_append] at hS
  (repeat (first | refine g_sq ?_ | refine g_rg ?_ | refine g_r0 ?_ | refine g_ok rfl rfl ?_ | refine g_no rfl ?_ | refine g_no0 rfl ?_ | refine g_bk ?_ | refine g_b ?_ | refine g_sk ?_ | refine g_cT rfl ?_ | refine g_cF rfl ?_ | refine g_x rfl ?_ | refine g_lb ?_))
  refine g_rq rfl rfl ⟨hm.1, by omega, by omega, by omega⟩ ?_
  have hc' := hS.ro (r := rdR _ 5 1 128 (bys y)) hc fun x hx => ⟨hc.lt x hx, fun h => h⟩
  have tc := Rd.drop (x := .tmp 15) (k := m.toNat) hc' (by omega)
  refine g_ef rfl (ef_ap (n := m.toNat) (m := 128 - m.toNat) hS 0 rfl rfl rfl (.inl ⟨5, tc⟩) (by rw [bys_drop]; exact bys_one _) (by omega) (by omega) fun v2 w2 hS => ?_)
  (repeat (first | refine g_sq ?_ | refine g_rg ?_ | refine g_r0 ?_ | refine g_ok rfl rfl ?_ | refine g_no rfl ?_ | refine g_no0 rfl ?_ | refine g_bk ?_ | refine g_b ?_ | refine g_sk ?_ | refine g_cT rfl ?_ | refine g_cF rfl ?_ | refine g_x rfl ?_ | refine g_lb ?_))
  refine g_ret (q_1 rfl (h _ _ ?_))
  rw [bys_append, ← bys_take, ← bys_drop]
  rw [show m.toNat + (128 - m.toNat) = 128 by omega] at hS
  exact hS
end
end Go.Proofs.Ytegjocpjmfaigaa
namespace Go.Proofs.Ytegjocpjmfaigaa
open Go.En

structure RI where
  vC : Value
  vL : Value
  A : List (Value × List UInt8)
  W : List (Int × Value × List UInt8)
def lw (W : List (Int × Value × List UInt8)) : List Value := (W.map fun x => [.int .i64 x.1, x.2.1]).flatten
def RefC (vC vL : Value) (D : Dev) : List Value := [vC, vL, .bool D.down, .int .i64 D.many, .int .i64 D.since, .int .i64 D.fall.a, .int .i64 D.fall.k, .int .i64 D.fall.t]
def RI.fits (x : RI) (D : Dev) : Prop := D.wf ∧ x.A.map (·.2) = D.cells ∧ x.W.map (fun y => (y.1, y.2.2)) = D.waits
def RefB (b : Nat) (D : Dev) (x : RI) : Res := ((cel b (RefC x.vC x.vL D) 57).and ((row x.vC 35 1 x.A.length (x.A.map (·.1))).and ((row x.vL 147 2 x.W.length (lw x.W)).and (pool (x.A ++ x.W.map (·.2)))))).when (x.fits D)
def RefR (S : Nat → Prop) (b : Nat) (D : Dev) : Res := Ex S (RefB b D)
theorem lw_len (W : List (Int × Value × List UInt8)) : (lw W).length = W.length * 2 := by
  rw [lw, flat_len (k := 2) (fun l hl => by simp only [List.mem_map] at hl; obtain ⟨x, _, rfl⟩ := hl; rfl), List.length_map]
theorem RI.fits.cl {x : RI} {D : Dev} (h : x.fits D) : x.A.length = D.cells.length := by rw [← h.2.1, List.length_map]
theorem RI.fits.wl {x : RI} {D : Dev} (h : x.fits D) : x.W.length = D.waits.length := by rw [← h.2.2, List.length_map]

section
variable {w w0 : World} {S0 S : Nat → Prop} {K : Value → World → Prop} {b : Nat} {D : Dev} {B L : List Res}
theorem RefR.opn (hS : St w0 S0 w (RefR S b D :: B)) : ∃ x : RI, x.fits D ∧ St w0 S0 w (cel b (RefC x.vC x.vL D) 57 :: row x.vC 35 1 x.A.length (x.A.map (·.1)) :: row x.vL 147 2 x.W.length (lw x.W) :: pool (x.A ++ x.W.map (·.2)) :: B) := by
  obtain ⟨x, hS⟩ := hS.ex 0 rfl
  obtain ⟨hw, hS⟩ := hS.cond 0 rfl
  refine ⟨x, hw, ?_⟩
  have hS := (hS.split 0 rfl).front
  have hS := (hS.split 0 rfl).front
  have hS := (hS.split 0 rfl).front
  exact hS.selB (A := [_, _, _, _]) (B := B) [3, 2, 1, 0] rfl rfl
theorem RefR.cls {x : RI} (hw : x.fits D) (hS : St w0 S0 w (cel b (RefC x.vC x.vL D) 57 :: row x.vC 35 1 x.A.length (x.A.map (·.1)) :: row x.vL 147 2 x.W.length (lw x.W) :: pool (x.A ++ x.W.map (·.2)) :: B)) : ∃ S', St w0 S0 w (RefR S' b D :: B) := by
  have hS := hS.merge 2 3 rfl rfl (by decide)
  have hS := hS.merge 1 2 rfl rfl (by decide)
  have hS := hS.merge 0 1 rfl rfl (by decide)
  have hS := hS.toWhen (p := x.fits D) 0 rfl hw
  obtain ⟨S', hS⟩ := hS.toEx (F := RefB b D) (x := x) 0 rfl
  refine ⟨S', ?_⟩
  have hS : St w0 S0 w (RefR S' b D :: emp :: emp :: emp :: B) := hS
  exact St.sub (A := [RefR S' b D]) ((List.sublist_cons_self _ _).trans ((List.sublist_cons_self _ _).trans (List.sublist_cons_self _ _))) hS
theorem RefR.blk (hS : St w0 S0 w (RefR S b D :: B)) : D.wf ∧ ∃ aC cC aL cL, Blk w b (RefC (.slice aC D.cells.length cC) (.slice aL D.waits.length cL) D) 57 := by
  obtain ⟨x, hw, hS⟩ := RefR.opn hS
  obtain ⟨aC, cC, e1⟩ := hS.rlen 1 rfl
  obtain ⟨aL, cL, e2⟩ := hS.rlen 2 rfl
  refine ⟨hw.1, aC, cC, aL, cL, ?_⟩
  have := hS.b 0 rfl
  rw [e1, e2, hw.cl, hw.wl] at this
  exact this
theorem CK.ref {f : FuncId} {args : List Value} {v : Value} {D' : Dev} (hS : St w0 S0 w (RefR S b D :: B)) (base : ∀ {w1 : World} {S1 : Nat → Prop} {K : Value → World → Prop}, St w1 S1 w [RefR S b D] → (∀ w' S', St w1 S1 w' [RefR S' b D'] → K v w') → CK Try.prog f args w K)
    (h : ∀ w' S', St w0 S0 w' (RefR S' b D' :: B) → K v w') : CK Try.prog f args w K :=
  base (St.frame (A := [RefR S b D]) (B := B) hS).1 fun w' S' h' => h w' S' ((St.frame (A := [RefR S b D]) (B := B) hS).2 w' [RefR S' b D'] h')

theorem rb76 (hS : St w0 S0 w [RefR S b D]) (h : ∀ w' S', St w0 S0 w' [RefR S' b D.boot] → K (.tuple ⟨[]⟩) w') : CK Try.prog 76 [dp b] w K := by
  obtain ⟨x, hw, hS⟩ := RefR.opn hS
  refine call_k Try.func76 k76 Try.ntmps76 (Nat.le_of_ble_eq_true rfl) ?_
  (repeat (first | refine g_sq ?_ | refine g_rg ?_ | refine g_r0 ?_ | refine g_ok rfl rfl ?_ | refine g_no rfl ?_ | refine g_no0 rfl ?_ | refine g_bk ?_ | refine g_b ?_ | refine g_sk ?_ | refine g_cT rfl ?_ | refine g_cF rfl ?_ | refine g_x rfl ?_ | refine g_lb ?_))
  refine g_ef0 rfl (ef_st hS 0 rfl rfl rfl rfl (Nat.le_of_ble_eq_true rfl) rfl fun w hS => ?_)
  (repeat (first | refine g_sq ?_ | refine g_rg ?_ | refine g_r0 ?_ | refine g_ok rfl rfl ?_ | refine g_no rfl ?_ | refine g_no0 rfl ?_ | refine g_bk ?_ | refine g_b ?_ | refine g_sk ?_ | refine g_cT rfl ?_ | refine g_cF rfl ?_ | refine g_x rfl ?_ | refine g_lb ?_))
  refine g_ef0 rfl (ef_st hS 0 rfl rfl rfl rfl (Nat.le_of_ble_eq_true rfl) rfl fun w hS => ?_)
  (repeat (first | refine g_sq ?_ | refine g_rg ?_ | refine g_r0 ?_ | refine g_ok rfl rfl ?_ | refine g_no rfl ?_ | refine g_no0 rfl ?_ | refine g_bk ?_ | refine g_b ?_ | refine g_sk ?_ | refine g_cT rfl ?_ | refine g_cF rfl ?_ | refine g_x rfl ?_ | refine g_lb ?_))
  refine q_n ?_
  have hS := (hS.pool_sub (M' := x.A ++ []) 3 rfl (fun p hp => List.mem_append_left _ (by simpa using hp))).nilrow 147 2
  have hS := hS.sel [0, 1, 4, 3] rfl rfl
  obtain ⟨S', hS⟩ := RefR.cls (x := ⟨x.vC, .slice none 0 0, x.A, []⟩) (D := D.boot) (B := []) (b := b) ⟨hw.1.boot, hw.2.1, rfl⟩ hS
  exact h _ _ hS
theorem rc76 (hS : St w0 S0 w (RefR S b D :: B)) (h : ∀ w' S', St w0 S0 w' (RefR S' b D.boot :: B) → K (.tuple ⟨[]⟩) w') : CK Try.prog 76 [dp b] w K := CK.ref hS rb76 h
end
end Go.Proofs.Ytegjocpjmfaigaa
namespace Go.Proofs.Ytegjocpjmfaigaa
open Go.En

theorem lw_get {W : List (Int × Value × List UInt8)} {k : Nat} {y : Int × Value × List UInt8} (rest : List Value) (hy : W[k]? = some y) : (lw W ++ rest)[k * 2]? = some (.int .i64 y.1) ∧ (lw W ++ rest)[k * 2 + 1]? = some y.2.1 := by
  have hlt := (List.getElem?_eq_some_iff.1 hy).1
  have hf := flat_get (ls := W.map fun x => [Value.int .i64 x.1, x.2.1]) (k := 2) (i := k) (fun l hl => by simp only [List.mem_map] at hl; obtain ⟨x, _, rfl⟩ := hl; rfl) (by simpa using hlt) rest
  have hW := (List.getElem?_eq_some_iff.1 hy).2
  simp only [List.getElem_map, hW] at hf
  have g : ∀ j, j < 2 → (lw W ++ rest)[k * 2 + j]? = [Value.int .i64 y.1, y.2.1][j]? := by
    intro j hj
    rw [← hf, List.getElem?_take_of_lt hj, List.getElem?_drop]
    rfl
  exact ⟨g 0 (by decide), g 1 (by decide)⟩
theorem cA_get {A : List (Value × List UInt8)} {i : Nat} {p : Value × List UInt8} (rest : List Value) (hp : A[i]? = some p) : (A.map (·.1) ++ rest)[i * 1]? = some p.1 := by
  have hlt := (List.getElem?_eq_some_iff.1 hp).1
  rw [Nat.mul_one, List.getElem?_append_left (by simpa using hlt), List.getElem?_map, hp]
  rfl
/-- which row is read -/
def RI.pk (x : RI) (i : Int) (k : Nat) : Value × List UInt8 := (x.W.take k).foldl (fun c y => if y.1 = i then y.2 else c) (x.A.getD i.toNat (.nilFunc, []))
theorem RI.pk_step {x : RI} {i : Int} {k : Nat} {y : Int × Value × List UInt8} (hy : x.W[k]? = some y) : x.pk i (k + 1) = if y.1 = i then y.2 else x.pk i k := by
  unfold RI.pk
  rw [List.take_add_one, hy, List.foldl_append]
  rfl
theorem RI.pk_ok {x : RI} {D : Dev} (hx : x.fits D) {i : Int} (hi : 0 ≤ i ∧ i < D.cells.length) : ∀ k, x.pk i k ∈ x.A ++ x.W.map (·.2) ∧ (x.pk i k).2 = D.rdK i k
  | 0 => by
    have hlt : i.toNat < x.A.length := by rw [hx.cl]; omega
    have e : x.pk i 0 = x.A[i.toNat] := by
      show x.A.getD i.toNat _ = _
      rw [List.getD_eq_getElem?_getD, List.getElem?_eq_getElem hlt]; rfl
    rw [e]
    refine ⟨List.mem_append_left _ (List.getElem_mem hlt), ?_⟩
    show _ = D.cells.getD i.toNat []
    rw [← hx.2.1, List.getD_eq_getElem?_getD, List.getElem?_map, List.getElem?_eq_getElem hlt]
    rfl
  | k + 1 => by
    have ih := RI.pk_ok hx hi k
    by_cases h : k < x.W.length
    · have hy : x.W[k]? = some x.W[k] := List.getElem?_eq_getElem h
      have hd : D.waits[k]? = some (x.W[k].1, x.W[k].2.2) := by rw [← hx.2.2, List.getElem?_map, hy]; rfl
      rw [RI.pk_step hy, Dev.rdK_step hd]
      split
      · exact ⟨List.mem_append_right _ (List.mem_map.2 ⟨_, List.getElem_mem h, rfl⟩), rfl⟩
      · exact ih
    · have e1 : x.pk i (k + 1) = x.pk i k := by unfold RI.pk; rw [List.take_of_length_le (by omega), List.take_of_length_le (by omega)]
      have hwl := hx.wl
      have e2 : D.rdK i (k + 1) = D.rdK i k := by unfold Dev.rdK; rw [List.take_of_length_le (by omega), List.take_of_length_le (by omega)]
      rw [e1, e2]; exact ih

section
variable {w w0 : World} {S0 S : Nat → Prop} {K : Value → World → Prop} {b : Nat} {D : Dev} {B L : List Res}
theorem rb74 {f : Fal} (hS : St w0 S0 w [RefR S b D]) (h : ∀ w' S', St w0 S0 w' [RefR S' b (if D.down then D else D.arm f)] → K (.int .i64 (if D.down then 141 else 0)) w') : CK Try.prog 74 [dp b, falV f] w K := by
  refine call_k Try.func74 k74 Try.ntmps74 (Nat.le_of_ble_eq_true rfl) ?_
  (repeat (first | refine g_sq ?_ | refine g_rg ?_ | refine g_r0 ?_ | refine g_ok rfl rfl ?_ | refine g_no rfl ?_ | refine g_no0 rfl ?_ | refine g_bk ?_ | refine g_b ?_ | refine g_sk ?_ | refine g_cT rfl ?_ | refine g_cF rfl ?_ | refine g_x rfl ?_ | refine g_lb ?_))
  refine g_ef rfl (ef_bx hS rfl fun b3 w hS => ?_)
  obtain ⟨x, hw, hS⟩ := RefR.opn (B := [_]) hS
  (repeat (first | refine g_sq ?_ | refine g_rg ?_ | refine g_r0 ?_ | refine g_ok rfl rfl ?_ | refine g_no rfl ?_ | refine g_no0 rfl ?_ | refine g_bk ?_ | refine g_b ?_ | refine g_sk ?_ | refine g_cT rfl ?_ | refine g_cF rfl ?_ | refine g_x rfl ?_ | refine g_lb ?_))
  refine g_l1 rfl rfl (hS.b  0 rfl) rfl ?_
  (repeat (first | refine g_sq ?_ | refine g_rg ?_ | refine g_r0 ?_ | refine g_ok rfl rfl ?_ | refine g_no rfl ?_ | refine g_no0 rfl ?_ | refine g_bk ?_ | refine g_b ?_ | refine g_sk ?_ | refine g_cT rfl ?_ | refine g_cF rfl ?_ | refine g_x rfl ?_ | refine g_lb ?_))
  generalize hd : D.down = dn
  rw [hd] at h
  cases dn
  · simp only [Bool.false_eq_true, if_false] at h ⊢
    (repeat (first | refine g_sq ?_ | refine g_rg ?_ | refine g_r0 ?_ | refine g_ok rfl rfl ?_ | refine g_no rfl ?_ | refine g_no0 rfl ?_ | refine g_bk ?_ | refine g_b ?_ | refine g_sk ?_ | refine g_cT rfl ?_ | refine g_cF rfl ?_ | refine g_x rfl ?_ | refine g_lb ?_))
    refine g_lm rfl rfl (hS.b 4 rfl) (Nat.le_of_ble_eq_true rfl) ?_
    (repeat (first | refine g_sq ?_ | refine g_rg ?_ | refine g_r0 ?_ | refine g_ok rfl rfl ?_ | refine g_no rfl ?_ | refine g_no0 rfl ?_ | refine g_bk ?_ | refine g_b ?_ | refine g_sk ?_ | refine g_cT rfl ?_ | refine g_cF rfl ?_ | refine g_x rfl ?_ | refine g_lb ?_))
    refine g_ef0 rfl (ef_st hS 0 rfl rfl rfl rfl (Nat.le_of_ble_eq_true rfl) rfl fun w hS => ?_)
    (repeat (first | refine g_sq ?_ | refine g_rg ?_ | refine g_r0 ?_ | refine g_ok rfl rfl ?_ | refine g_no rfl ?_ | refine g_no0 rfl ?_ | refine g_bk ?_ | refine g_b ?_ | refine g_sk ?_ | refine g_cT rfl ?_ | refine g_cF rfl ?_ | refine g_x rfl ?_ | refine g_lb ?_))
    refine g_ef0 rfl (ef_st hS 0 rfl rfl rfl rfl (Nat.le_of_ble_eq_true rfl) rfl fun w hS => ?_)
    (repeat (first | refine g_sq ?_ | refine g_rg ?_ | refine g_r0 ?_ | refine g_ok rfl rfl ?_ | refine g_no rfl ?_ | refine g_no0 rfl ?_ | refine g_bk ?_ | refine g_b ?_ | refine g_sk ?_ | refine g_cT rfl ?_ | refine g_cF rfl ?_ | refine g_x rfl ?_ | refine g_lb ?_))
    refine g_ret (q_1 rfl ?_)
    obtain ⟨S', hS⟩ := RefR.cls (x := x) (D := D.arm f) (B := [_]) (b := b) hw hS
    exact h _ _ (hS.sel [0] rfl rfl)
  · simp only [if_true] at h ⊢
    (repeat (first | refine g_sq ?_ | refine g_rg ?_ | refine g_r0 ?_ | refine g_ok rfl rfl ?_ | refine g_no rfl ?_ | refine g_no0 rfl ?_ | refine g_bk ?_ | refine g_b ?_ | refine g_sk ?_ | refine g_cT rfl ?_ | refine g_cF rfl ?_ | refine g_x rfl ?_ | refine g_lb ?_))
    obtain ⟨S', hS⟩ := RefR.cls (x := x) (D := D) (B := [_]) (b := b) hw hS
    exact g_ret (q_1 rfl (h _ _ (hS.sel [0] rfl rfl)))
theorem rc74 {f : Fal} (hS : St w0 S0 w (RefR S b D :: B)) (h : ∀ w' S', St w0 S0 w' (RefR S' b (if D.down then D else D.arm f) :: B) → K (.int .i64 (if D.down then 141 else 0)) w') : CK Try.prog 74 [dp b, falV f] w K := CK.ref hS rb74 h

theorem rc73 {i : Int} (hS : St w0 S0 w (RefR S b D :: B)) (h1 : D.down = true → K (.tuple ⟨[.slice none 0 0, .int .i64 141]⟩) w) (h2 : D.down = false → ¬ (0 ≤ i ∧ i < D.cells.length) → K (.tuple ⟨[.slice none 0 0, .int .i64 140]⟩) w)
    (h3 : D.down = false → (0 ≤ i ∧ i < D.cells.length) → ∀ v, Rd v 5 1 128 (bys (D.rd i)) w → K (.tuple ⟨[v, .int .i64 0]⟩) w) : CK Try.prog 73 [dp b, .int .i64 i] w K := by
  obtain ⟨x, hx, hS⟩ := RefR.opn hS
  obtain ⟨vC, vL, A, W⟩ := x
  obtain ⟨aC, cC, rfl⟩ : ∃ aC cC, vC = .slice aC A.length cC := hS.rlen 1 rfl
  obtain ⟨aL, cL, rfl⟩ : ∃ aL cL, vL = .slice aL W.length cL := hS.rlen 2 rfl
  have hcl : A.length = D.cells.length := hx.cl
  have hwl : W.length = D.waits.length := hx.wl
  refine call_k Try.func73 k73 Try.ntmps73 (Nat.le_of_ble_eq_true rfl) ?_
  (repeat (first | refine g_sq ?_ | refine g_rg ?_ | refine g_r0 ?_ | refine g_ok rfl rfl ?_ | refine g_no rfl ?_ | refine g_no0 rfl ?_ | refine g_bk ?_ | refine g_b ?_ | refine g_sk ?_ | refine g_cT rfl ?_ | refine g_cF rfl ?_ | refine g_x rfl ?_ | refine g_lb ?_))
  refine g_l1 rfl rfl (hS.b  0 rfl) rfl ?_
  (repeat (first | refine g_sq ?_ | refine g_rg ?_ | refine g_r0 ?_ | refine g_ok rfl rfl ?_ | refine g_no rfl ?_ | refine g_no0 rfl ?_ | refine g_bk ?_ | refine g_b ?_ | refine g_sk ?_ | refine g_cT rfl ?_ | refine g_cF rfl ?_ | refine g_x rfl ?_ | refine g_lb ?_))
  generalize hd : D.down = dn at h1 h2 h3
  cases dn
  · (repeat (first | refine g_sq ?_ | refine g_rg ?_ | refine g_r0 ?_ | refine g_ok rfl rfl ?_ | refine g_no rfl ?_ | refine g_no0 rfl ?_ | refine g_bk ?_ | refine g_b ?_ | refine g_sk ?_ | refine g_cT rfl ?_ | refine g_cF rfl ?_ | refine g_x rfl ?_ | refine g_lb ?_))
    generalize hg : cmv BinOp.lss i 0 = g
    cases g
    all_goals simp only [cmv, decide_eq_true_eq, decide_eq_false_iff_not] at hg
    · (repeat (first | refine g_sq ?_ | refine g_rg ?_ | refine g_r0 ?_ | refine g_ok rfl rfl ?_ | refine g_no rfl ?_ | refine g_no0 rfl ?_ | refine g_bk ?_ | refine g_b ?_ | refine g_sk ?_ | refine g_cT rfl ?_ | refine g_cF rfl ?_ | refine g_x rfl ?_ | refine g_lb ?_))
      refine g_l1 rfl rfl (hS.b  0 rfl) rfl ?_
      (repeat (first | refine g_sq ?_ | refine g_rg ?_ | refine g_r0 ?_ | refine g_ok rfl rfl ?_ | refine g_no rfl ?_ | refine g_no0 rfl ?_ | refine g_bk ?_ | refine g_b ?_ | refine g_sk ?_ | refine g_cT rfl ?_ | refine g_cF rfl ?_ | refine g_x rfl ?_ | refine g_lb ?_))
      refine g_cd rfl (fun hq => ?_) (fun hq => ?_)
      all_goals simp only [cmv, decide_eq_true_eq, decide_eq_false_iff_not] at hq
      · (repeat (first | refine g_sq ?_ | refine g_rg ?_ | refine g_r0 ?_ | refine g_ok rfl rfl ?_ | refine g_no rfl ?_ | refine g_no0 rfl ?_ | refine g_bk ?_ | refine g_b ?_ | refine g_sk ?_ | refine g_cT rfl ?_ | refine g_cF rfl ?_ | refine g_x rfl ?_ | refine g_lb ?_))
        exact g_ret (q_2 rfl rfl (h2 rfl (by omega)))
      · have hin : 0 ≤ i ∧ i < D.cells.length := by omega
        have hlt : i.toNat < A.length := by omega
        have hpk := RI.pk_ok hx hin
        (repeat (first | refine g_sq ?_ | refine g_rg ?_ | refine g_r0 ?_ | refine g_ok rfl rfl ?_ | refine g_no rfl ?_ | refine g_no0 rfl ?_ | refine g_bk ?_ | refine g_b ?_ | refine g_sk ?_ | refine g_cT rfl ?_ | refine g_cF rfl ?_ | refine g_x rfl ?_ | refine g_lb ?_))
        refine g_l1 rfl rfl (hS.b  0 rfl) rfl ?_
        (repeat (first | refine g_sq ?_ | refine g_rg ?_ | refine g_r0 ?_ | refine g_ok rfl rfl ?_ | refine g_no rfl ?_ | refine g_no0 rfl ?_ | refine g_bk ?_ | refine g_b ?_ | refine g_sk ?_ | refine g_cT rfl ?_ | refine g_cF rfl ?_ | refine g_x rfl ?_ | refine g_lb ?_))
        rcases hS.ok 1 _ rfl with ⟨_, hv, _⟩ | ⟨bC, capC, restC, hv, hcapC, hxlC, hlC, hBC⟩
        · have : A.length = 0 := hv
          omega
        cases hv
        refine g_rq rfl rfl ⟨hin.1, by omega⟩ ?_
        refine g_l1 (v := (RI.pk ⟨.slice (some ⟨bC, 0, none⟩) A.length cC, .slice aL W.length cL, A, W⟩ i 0).1) rfl rfl hBC ?_ ?_
        · show (A.map (·.1) ++ restC)[0 + i.toNat * 1]? = some (A.getD i.toNat (.nilFunc, [])).1
          rw [Nat.zero_add, cA_get restC (List.getElem?_eq_getElem hlt), List.getD_eq_getElem?_getD, List.getElem?_eq_getElem hlt]
          rfl
        (repeat (first | refine g_sq ?_ | refine g_rg ?_ | refine g_r0 ?_ | refine g_ok rfl rfl ?_ | refine g_no rfl ?_ | refine g_no0 rfl ?_ | refine g_bk ?_ | refine g_b ?_ | refine g_sk ?_ | refine g_cT rfl ?_ | refine g_cF rfl ?_ | refine g_x rfl ?_ | refine g_lb ?_))
        refine g_lp (ι := Nat) (fun k => [(0, dp b), (1, .int .i64 i), (6, (RI.pk ⟨.slice (some ⟨bC, 0, none⟩) A.length cC, .slice aL W.length cL, A, W⟩ i k).1), (7, .int .i64 k)])
          (fun k w' => k ≤ W.length ∧ w = w') (fun k => W.length - k) 0 ⟨rfl, rfl, rfl, rfl, trivial⟩ ⟨Nat.zero_le _, rfl⟩ ?_
        rintro k _ ⟨hk, rfl⟩
        (repeat (first | refine g_sq ?_ | refine g_rg ?_ | refine g_r0 ?_ | refine g_ok rfl rfl ?_ | refine g_no rfl ?_ | refine g_no0 rfl ?_ | refine g_bk ?_ | refine g_b ?_ | refine g_sk ?_ | refine g_cT rfl ?_ | refine g_cF rfl ?_ | refine g_x rfl ?_ | refine g_lb ?_))
        refine g_l1 rfl rfl (hS.b  0 rfl) rfl ?_
        (repeat (first | refine g_sq ?_ | refine g_rg ?_ | refine g_r0 ?_ | refine g_ok rfl rfl ?_ | refine g_no rfl ?_ | refine g_no0 rfl ?_ | refine g_bk ?_ | refine g_b ?_ | refine g_sk ?_ | refine g_cT rfl ?_ | refine g_cF rfl ?_ | refine g_x rfl ?_ | refine g_lb ?_))
        refine g_cd rfl (fun hc => ?_) (fun hc => ?_)
        all_goals simp only [cmv, decide_eq_true_eq, decide_eq_false_iff_not] at hc
        · have hltk : k < W.length := by omega
          have hy : W[k]? = some W[k] := List.getElem?_eq_getElem hltk
          have hst := RI.pk_step (x := ⟨.slice (some ⟨bC, 0, none⟩) A.length cC, .slice aL W.length cL, A, W⟩) (i := i) hy
          generalize W[k] = y at hy hst
          have hwn := hx.1.2.2.2
          rcases hS.ok 2 _ rfl with ⟨_, hv, _⟩ | ⟨bL, capL, restL, hv, hcapL, hxlL, hlL, hBL⟩
          · have : W.length = 0 := hv
            omega
          cases hv
          obtain ⟨g1, g2⟩ := lw_get restL hy
          (repeat (first | refine g_sq ?_ | refine g_rg ?_ | refine g_r0 ?_ | refine g_ok rfl rfl ?_ | refine g_no rfl ?_ | refine g_no0 rfl ?_ | refine g_bk ?_ | refine g_b ?_ | refine g_sk ?_ | refine g_cT rfl ?_ | refine g_cF rfl ?_ | refine g_x rfl ?_ | refine g_lb ?_))
          refine g_l1 rfl rfl (hS.b  0 rfl) rfl ?_
          (repeat (first | refine g_sq ?_ | refine g_rg ?_ | refine g_r0 ?_ | refine g_ok rfl rfl ?_ | refine g_no rfl ?_ | refine g_no0 rfl ?_ | refine g_bk ?_ | refine g_b ?_ | refine g_sk ?_ | refine g_cT rfl ?_ | refine g_cF rfl ?_ | refine g_x rfl ?_ | refine g_lb ?_))
          refine g_rq rfl rfl ⟨by omega, by omega⟩ ?_
          (repeat (first | refine g_sq ?_ | refine g_rg ?_ | refine g_r0 ?_ | refine g_ok rfl rfl ?_ | refine g_no rfl ?_ | refine g_no0 rfl ?_ | refine g_bk ?_ | refine g_b ?_ | refine g_sk ?_ | refine g_cT rfl ?_ | refine g_cF rfl ?_ | refine g_x rfl ?_ | refine g_lb ?_))
          refine g_l1 (v := .int .i64 y.1) rfl rfl hBL (by rw [Nat.zero_add, Nat.add_zero]; exact g1) ?_
          (repeat (first | refine g_sq ?_ | refine g_rg ?_ | refine g_r0 ?_ | refine g_ok rfl rfl ?_ | refine g_no rfl ?_ | refine g_no0 rfl ?_ | refine g_bk ?_ | refine g_b ?_ | refine g_sk ?_ | refine g_cT rfl ?_ | refine g_cF rfl ?_ | refine g_x rfl ?_ | refine g_lb ?_))
          refine g_at 1 [(0, dp b), (1, .int .i64 i), (6, (RI.pk ⟨.slice (some ⟨bC, 0, none⟩) A.length cC, .slice (some ⟨bL, 0, none⟩) W.length cL, A, W⟩ i (k + 1)).1), (7, .int .i64 k)] (fun w' => w = w') rfl ?_ ?_
          · refine g_cd rfl (fun hq => ?_) (fun hq => ?_)
            all_goals simp only [cmv, decide_eq_true_eq, decide_eq_false_iff_not] at hq
            · rw [if_pos hq] at hst
              (repeat (first | refine g_sq ?_ | refine g_rg ?_ | refine g_r0 ?_ | refine g_ok rfl rfl ?_ | refine g_no rfl ?_ | refine g_no0 rfl ?_ | refine g_bk ?_ | refine g_b ?_ | refine g_sk ?_ | refine g_cT rfl ?_ | refine g_cF rfl ?_ | refine g_x rfl ?_ | refine g_lb ?_))
              refine g_l1 rfl rfl (hS.b  0 rfl) rfl ?_
              (repeat (first | refine g_sq ?_ | refine g_rg ?_ | refine g_r0 ?_ | refine g_ok rfl rfl ?_ | refine g_no rfl ?_ | refine g_no0 rfl ?_ | refine g_bk ?_ | refine g_b ?_ | refine g_sk ?_ | refine g_cT rfl ?_ | refine g_cF rfl ?_ | refine g_x rfl ?_ | refine g_lb ?_))
              refine g_rq rfl rfl ⟨by omega, by omega⟩ ?_
              (repeat (first | refine g_sq ?_ | refine g_rg ?_ | refine g_r0 ?_ | refine g_ok rfl rfl ?_ | refine g_no rfl ?_ | refine g_no0 rfl ?_ | refine g_bk ?_ | refine g_b ?_ | refine g_sk ?_ | refine g_cT rfl ?_ | refine g_cF rfl ?_ | refine g_x rfl ?_ | refine g_lb ?_))
              refine g_l1 (v := y.2.1) rfl rfl hBL (by rw [Nat.zero_add]; exact g2) ?_
              (repeat (first | refine g_sq ?_ | refine g_rg ?_ | refine g_r0 ?_ | refine g_ok rfl rfl ?_ | refine g_no rfl ?_ | refine g_no0 rfl ?_ | refine g_bk ?_ | refine g_b ?_ | refine g_sk ?_ | refine g_cT rfl ?_ | refine g_cF rfl ?_ | refine g_x rfl ?_ | refine g_lb ?_))
              refine g_j ⟨rfl, rfl, ?_, rfl, trivial⟩ rfl
              rw [hst]; rfl
            · rw [if_neg hq] at hst
              refine g_sk (g_j ⟨rfl, rfl, ?_, rfl, trivial⟩ rfl)
              rw [hst]; rfl
          · rintro T _ hT rfl
            refine g_b (g_wkc hT ?_)
            (repeat (first | refine g_sq ?_ | refine g_rg ?_ | refine g_r0 ?_ | refine g_ok rfl rfl ?_ | refine g_no rfl ?_ | refine g_no0 rfl ?_ | refine g_bk ?_ | refine g_b ?_ | refine g_sk ?_ | refine g_cT rfl ?_ | refine g_cF rfl ?_ | refine g_x rfl ?_ | refine g_lb ?_))
            refine g_rq rfl rfl (in64 (by simp only [arv]; omega)) ?_
            (repeat (first | refine g_sq ?_ | refine g_rg ?_ | refine g_r0 ?_ | refine g_ok rfl rfl ?_ | refine g_no rfl ?_ | refine g_no0 rfl ?_ | refine g_bk ?_ | refine g_b ?_ | refine g_sk ?_ | refine g_cT rfl ?_ | refine g_cF rfl ?_ | refine g_x rfl ?_ | refine g_lb ?_))
            exact g_l (k + 1) ⟨rfl, rfl, rfl, rfl, trivial⟩ ⟨by omega, rfl⟩ (by omega)
        · have : k = W.length := by omega
          subst this
          (repeat (first | refine g_sq ?_ | refine g_rg ?_ | refine g_r0 ?_ | refine g_ok rfl rfl ?_ | refine g_no rfl ?_ | refine g_no0 rfl ?_ | refine g_bk ?_ | refine g_b ?_ | refine g_sk ?_ | refine g_cT rfl ?_ | refine g_cF rfl ?_ | refine g_x rfl ?_ | refine g_lb ?_))
          refine g_ret (q_2 rfl rfl (h3 rfl hin _ ?_))
          have hk := hpk W.length
          have hr : Rd _ 5 1 _ _ w := hS.ok 3 _ rfl _ hk.1
          have e : (RI.pk ⟨.slice (some ⟨bC, 0, none⟩) A.length cC, .slice aL W.length cL, A, W⟩ i W.length).2 = D.rd i := by
            rw [hk.2, Dev.rdK, hwl, List.take_length]; rfl
          have hl : (D.rd i).length = 128 := by
            have := Dev.rdK_len hx.1 hin D.waits.length
            rw [Dev.rdK, List.take_length] at this
            exact this
          rw [e, hl] at hr
          exact hr
    · (repeat (first | refine g_sq ?_ | refine g_rg ?_ | refine g_r0 ?_ | refine g_ok rfl rfl ?_ | refine g_no rfl ?_ | refine g_no0 rfl ?_ | refine g_bk ?_ | refine g_b ?_ | refine g_sk ?_ | refine g_cT rfl ?_ | refine g_cF rfl ?_ | refine g_x rfl ?_ | refine g_lb ?_))
      exact g_ret (q_2 rfl rfl (h2 rfl (by omega)))
  · (repeat (first | refine g_sq ?_ | refine g_rg ?_ | refine g_r0 ?_ | refine g_ok rfl rfl ?_ | refine g_no rfl ?_ | refine g_no0 rfl ?_ | refine g_bk ?_ | refine g_b ?_ | refine g_sk ?_ | refine g_cT rfl ?_ | refine g_cF rfl ?_ | refine g_x rfl ?_ | refine g_lb ?_))
    exact g_ret (q_2 rfl rfl (h1 rfl))
end
end Go.Proofs.Ytegjocpjmfaigaa
namespace Go.Proofs.Ytegjocpjmfaigaa
open Go.En

/-- the document's way: over all writes -/
def fallC (f : Fal) : Nat → List (Int × List UInt8) → List (List UInt8) → List (List UInt8)
  | _, [], cs => cs
  | i, x :: xs, cs => fallC f (i + 1) xs (putB cs x (mny f i).toNat)
theorem putB_0 {cs : List (List UInt8)} {x : Int × List UInt8} : putB cs x 0 = cs := by
  rw [putB, List.take_zero, List.nil_append, List.drop_zero]
  apply List.ext_getElem?
  intro j
  by_cases e : x.1.toNat = j
  · subst e
    by_cases h : x.1.toNat < cs.length
    · rw [List.getElem?_set_self h, List.getD_eq_getElem?_getD, List.getElem?_eq_getElem h]; rfl
    · rw [List.getElem?_eq_none (by simpa using h), List.getElem?_eq_none (by simpa using h)]
  · rw [List.getElem?_set_ne e]
theorem mny_0 {f : Fal} {i : Nat} (h : mny f i = 0) (j : Nat) (hj : i ≤ j) : mny f j = 0 := by
  by_cases e : i = j
  · subst e; exact h
  · unfold mny at h ⊢
    split at h
    · omega
    · rw [if_neg (by omega), if_neg (by omega)]
theorem fallC_0 {f : Fal} : ∀ (ws : List (Int × List UInt8)) (i : Nat) (cs : List (List UInt8)), mny f i = 0 → fallC f i ws cs = cs
  | [], i, cs, _ => rfl
  | x :: xs, i, cs, h => by
    rw [fallC, h, show (0 : Int).toNat = 0 from rfl, putB_0]
    exact fallC_0 xs (i + 1) cs (mny_0 h _ (by omega))
theorem fall_crash {f : Fal} : ∀ (ws : List (Int × List UInt8)) (i : Nat) (cs : List (List UInt8)), fallC f i ws cs = crashC f i ws cs
  | [], i, cs => rfl
  | x :: xs, i, cs => by
    by_cases h : mny f i = 0
    · rw [fallC_0 _ _ _ h, crashC, if_pos h]
    · rw [fallC, crashC, if_neg h, fall_crash xs]
theorem fall_app (f : Fal) : ∀ (xs ys : List (Int × List UInt8)) (i : Nat) (cs : List (List UInt8)), fallC f i (xs ++ ys) cs = fallC f (i + xs.length) ys (fallC f i xs cs)
  | [], ys, i, cs => rfl
  | x :: xs, ys, i, cs => by
    simp only [List.cons_append, fallC, List.length_cons]
    rw [fall_app f xs ys (i + 1)]
    congr 1
    omega
theorem fall_step {f : Fal} {ws : List (Int × List UInt8)} {cs : List (List UInt8)} {k : Nat} {x : Int × List UInt8} (hx : ws[k]? = some x) : fallC f 0 (ws.take (k + 1)) cs = putB (fallC f 0 (ws.take k) cs) x (mny f k).toNat := by
  have hlt := (List.getElem?_eq_some_iff.1 hx).1
  have hl : (ws.take k).length = k := by rw [List.length_take]; omega
  rw [List.take_add_one, hx, fall_app f _ _ 0 cs, hl]
  simp [fallC]
def mn1 (f : Fal) (k : Nat) : Int := if (k : Int) < f.k then 128 else if (k : Int) = 0 ∨ (k : Int) = f.k then f.t else 0
def mn2 (f : Fal) (k : Nat) : Int := if mn1 f k < 0 ∨ ((k : Int) > f.k ∧ (k : Int) > 0) then 0 else mn1 f k
theorem mn3 (f : Fal) (k : Nat) : mny f k = if mn2 f k > 128 then 128 else mn2 f k := by
  unfold mny mn2 mn1
  repeat' split
  all_goals omega

section
variable {w w0 : World} {S0 S : Nat → Prop} {K : Value → World → Prop} {b : Nat} {D : Dev} {B L : List Res}
theorem rb104 {f : Fal} (hS : St w0 S0 w [RefR S b D]) (h : ∀ w' S', St w0 S0 w' [RefR S' b (D.crash f)] → K (.tuple ⟨[]⟩) w') : CK Try.prog 104 [dp b, falV f] w K := by
  refine call_k Try.func104 k104 Try.ntmps104 (Nat.le_of_ble_eq_true rfl) ?_
  (repeat (first | refine g_sq ?_ | refine g_rg ?_ | refine g_r0 ?_ | refine g_ok rfl rfl ?_ | refine g_no rfl ?_ | refine g_no0 rfl ?_ | refine g_bk ?_ | refine g_b ?_ | refine g_sk ?_ | refine g_cT rfl ?_ | refine g_cF rfl ?_ | refine g_x rfl ?_ | refine g_lb ?_))
  refine g_ef rfl (ef_bx hS rfl fun b3 w hS => ?_)
  obtain ⟨x, hx, hS⟩ := RefR.opn (B := [_]) hS
  obtain ⟨vC, vL, A0, W⟩ := x
  have hcl : A0.length = D.cells.length := hx.cl
  have hwl : W.length = D.waits.length := hx.wl
  have hwn := hx.1.2.2.2
  have hc0 := List.length_pos_iff.2 hx.1.1
  obtain ⟨aC, mC, cC, rfl⟩ := hS.rowb 1 rfl (by show 0 < A0.length; omega)
  obtain ⟨aL, cL, rfl⟩ : ∃ aL cL, vL = .slice aL W.length cL := hS.rlen 2 rfl
  (repeat (first | refine g_sq ?_ | refine g_rg ?_ | refine g_r0 ?_ | refine g_ok rfl rfl ?_ | refine g_no rfl ?_ | refine g_no0 rfl ?_ | refine g_bk ?_ | refine g_b ?_ | refine g_sk ?_ | refine g_cT rfl ?_ | refine g_cF rfl ?_ | refine g_x rfl ?_ | refine g_lb ?_))
  have inv : ∀ (k : Nat), St w0 S0 w [cel b (RefC (.slice (some aC) mC cC) (.slice aL W.length cL) D) 57, row (.slice (some aC) mC cC) 35 1 A0.length (A0.map (·.1)), row (.slice aL W.length cL) 147 2 W.length (lw W), pool (A0 ++ W.map (·.2)), cel b3 (falV f).cells.toList 37] := fun _ => hS
  clear inv
  refine g_at 2 [(0, dp b)] (fun w => ∃ A, A.length = D.cells.length ∧ A.map (·.2) = fallC f 0 D.waits D.cells ∧ St w0 S0 w [cel b (RefC (.slice (some aC) mC cC) (.slice aL W.length cL) D) 57, row (.slice (some aC) mC cC) 35 1 A.length (A.map (·.1)), row (.slice aL W.length cL) 147 2 W.length (lw W), pool (A ++ W.map (·.2)), cel b3 (falV f).cells.toList 37]) rfl ?_ ?_
  · refine g_lp (ι := Nat) (fun k => [(0, dp b), (3, dp b3), (4, .int .i64 k)])
      (fun k w => k ≤ W.length ∧ ∃ A, A.length = D.cells.length ∧ A.map (·.2) = fallC f 0 (D.waits.take k) D.cells ∧ St w0 S0 w [cel b (RefC (.slice (some aC) mC cC) (.slice aL W.length cL) D) 57, row (.slice (some aC) mC cC) 35 1 A.length (A.map (·.1)), row (.slice aL W.length cL) 147 2 W.length (lw W), pool (A ++ W.map (·.2)), cel b3 (falV f).cells.toList 37]) (fun k => W.length - k) 0 ⟨rfl, rfl, rfl, trivial⟩ ⟨Nat.zero_le _, A0, hcl, by rw [List.take_zero]; exact hx.2.1, hS⟩ ?_
    clear hS
    rintro k w ⟨hk, A, hA, hAc, hS⟩
    (repeat (first | refine g_sq ?_ | refine g_rg ?_ | refine g_r0 ?_ | refine g_ok rfl rfl ?_ | refine g_no rfl ?_ | refine g_no0 rfl ?_ | refine g_bk ?_ | refine g_b ?_ | refine g_sk ?_ | refine g_cT rfl ?_ | refine g_cF rfl ?_ | refine g_x rfl ?_ | refine g_lb ?_))
    refine g_l1 rfl rfl (hS.b  0 rfl) rfl ?_
    (repeat (first | refine g_sq ?_ | refine g_rg ?_ | refine g_r0 ?_ | refine g_ok rfl rfl ?_ | refine g_no rfl ?_ | refine g_no0 rfl ?_ | refine g_bk ?_ | refine g_b ?_ | refine g_sk ?_ | refine g_cT rfl ?_ | refine g_cF rfl ?_ | refine g_x rfl ?_ | refine g_lb ?_))
    refine g_cd rfl (fun hc => ?_) (fun hc => ?_)
    all_goals simp only [cmv, decide_eq_true_eq, decide_eq_false_iff_not] at hc
    · have hltk : k < W.length := by omega
      have hy : W[k]? = some W[k] := List.getElem?_eq_getElem hltk
      generalize W[k] = y at hy
      have hyd : D.waits[k]? = some (y.1, y.2.2) := by rw [← hx.2.2, List.getElem?_map, hy]; rfl
      have hyw := hx.1.2.2.1 _ (List.mem_of_getElem? hyd)
      rcases hS.ok 2 _ rfl with ⟨_, hv, _⟩ | ⟨bL, capL, restL, hv, hcapL, hxlL, hlL, hBL⟩
      · have : W.length = 0 := hv
        omega
      cases hv
      clear hBL
      refine g_sk ?_
      refine g_sq ?_
      refine g_bk ?_
      refine g_sq ?_
      refine g_rg ?_
      (first | refine g_sq ?_ | refine g_rg ?_ | refine g_r0 ?_ | refine g_ok rfl rfl ?_ | refine g_no rfl ?_ | refine g_no0 rfl ?_ | refine g_bk ?_ | refine g_b ?_ | refine g_sk ?_ | refine g_cT rfl ?_ | refine g_cF rfl ?_ | refine g_x rfl ?_ | refine g_lb ?_)
      refine g_r0 ?_
      refine g_sq ?_
      refine g_at 1 [(0, dp b), (3, dp b3), (4, .int .i64 k), (5, .int .i64 (mn1 f k))] (fun w' => w = w') rfl ?_ ?_
      · (repeat (first | refine g_sq ?_ | refine g_rg ?_ | refine g_r0 ?_ | refine g_ok rfl rfl ?_ | refine g_no rfl ?_ | refine g_no0 rfl ?_ | refine g_bk ?_ | refine g_b ?_ | refine g_sk ?_ | refine g_cT rfl ?_ | refine g_cF rfl ?_ | refine g_x rfl ?_ | refine g_lb ?_))
        refine g_l1 rfl rfl (hS.b  4 rfl) rfl ?_
        (repeat (first | refine g_sq ?_ | refine g_rg ?_ | refine g_r0 ?_ | refine g_ok rfl rfl ?_ | refine g_no rfl ?_ | refine g_no0 rfl ?_ | refine g_bk ?_ | refine g_b ?_ | refine g_sk ?_ | refine g_cT rfl ?_ | refine g_cF rfl ?_ | refine g_x rfl ?_ | refine g_lb ?_))
        refine g_cd rfl (fun h1 => ?_) (fun h1 => ?_)
        all_goals simp only [cmv, decide_eq_true_eq, decide_eq_false_iff_not] at h1
        · (repeat (first | refine g_sq ?_ | refine g_rg ?_ | refine g_r0 ?_ | refine g_ok rfl rfl ?_ | refine g_no rfl ?_ | refine g_no0 rfl ?_ | refine g_bk ?_ | refine g_b ?_ | refine g_sk ?_ | refine g_cT rfl ?_ | refine g_cF rfl ?_ | refine g_x rfl ?_ | refine g_lb ?_))
          refine g_j ⟨rfl, rfl, rfl, ?_, trivial⟩ rfl
          simp only [mn1, if_pos h1]; rfl
        · (repeat (first | refine g_sq ?_ | refine g_rg ?_ | refine g_r0 ?_ | refine g_ok rfl rfl ?_ | refine g_no rfl ?_ | refine g_no0 rfl ?_ | refine g_bk ?_ | refine g_b ?_ | refine g_sk ?_ | refine g_cT rfl ?_ | refine g_cF rfl ?_ | refine g_x rfl ?_ | refine g_lb ?_))
          generalize hg : cmv BinOp.eql k 0 = g
          cases g
          all_goals simp only [cmv, decide_eq_true_eq, decide_eq_false_iff_not] at hg
          · (repeat (first | refine g_sq ?_ | refine g_rg ?_ | refine g_r0 ?_ | refine g_ok rfl rfl ?_ | refine g_no rfl ?_ | refine g_no0 rfl ?_ | refine g_bk ?_ | refine g_b ?_ | refine g_sk ?_ | refine g_cT rfl ?_ | refine g_cF rfl ?_ | refine g_x rfl ?_ | refine g_lb ?_))
            refine g_l1 rfl rfl (hS.b  4 rfl) rfl ?_
            (repeat (first | refine g_sq ?_ | refine g_rg ?_ | refine g_r0 ?_ | refine g_ok rfl rfl ?_ | refine g_no rfl ?_ | refine g_no0 rfl ?_ | refine g_bk ?_ | refine g_b ?_ | refine g_sk ?_ | refine g_cT rfl ?_ | refine g_cF rfl ?_ | refine g_x rfl ?_ | refine g_lb ?_))
            refine g_cd rfl (fun h2 => ?_) (fun h2 => ?_)
            all_goals simp only [cmv, decide_eq_true_eq, decide_eq_false_iff_not] at h2
            · (repeat (first | refine g_sq ?_ | refine g_rg ?_ | refine g_r0 ?_ | refine g_ok rfl rfl ?_ | refine g_no rfl ?_ | refine g_no0 rfl ?_ | refine g_bk ?_ | refine g_b ?_ | refine g_sk ?_ | refine g_cT rfl ?_ | refine g_cF rfl ?_ | refine g_x rfl ?_ | refine g_lb ?_))
              refine g_l1 rfl rfl (hS.b  4 rfl) rfl ?_
              (repeat (first | refine g_sq ?_ | refine g_rg ?_ | refine g_r0 ?_ | refine g_ok rfl rfl ?_ | refine g_no rfl ?_ | refine g_no0 rfl ?_ | refine g_bk ?_ | refine g_b ?_ | refine g_sk ?_ | refine g_cT rfl ?_ | refine g_cF rfl ?_ | refine g_x rfl ?_ | refine g_lb ?_))
              refine g_j ⟨rfl, rfl, rfl, ?_, trivial⟩ rfl
              simp only [mn1, if_neg h1, if_pos (Or.inr h2)]; rfl
            · (repeat (first | refine g_sq ?_ | refine g_rg ?_ | refine g_r0 ?_ | refine g_ok rfl rfl ?_ | refine g_no rfl ?_ | refine g_no0 rfl ?_ | refine g_bk ?_ | refine g_b ?_ | refine g_sk ?_ | refine g_cT rfl ?_ | refine g_cF rfl ?_ | refine g_x rfl ?_ | refine g_lb ?_))
              refine g_j ⟨rfl, rfl, rfl, ?_, trivial⟩ rfl
              have : ¬ ((k : Int) = 0 ∨ (k : Int) = f.k) := by omega
              simp only [mn1, if_neg h1, if_neg this]; rfl
          · (repeat (first | refine g_sq ?_ | refine g_rg ?_ | refine g_r0 ?_ | refine g_ok rfl rfl ?_ | refine g_no rfl ?_ | refine g_no0 rfl ?_ | refine g_bk ?_ | refine g_b ?_ | refine g_sk ?_ | refine g_cT rfl ?_ | refine g_cF rfl ?_ | refine g_x rfl ?_ | refine g_lb ?_))
            refine g_l1 rfl rfl (hS.b  4 rfl) rfl ?_
            (repeat (first | refine g_sq ?_ | refine g_rg ?_ | refine g_r0 ?_ | refine g_ok rfl rfl ?_ | refine g_no rfl ?_ | refine g_no0 rfl ?_ | refine g_bk ?_ | refine g_b ?_ | refine g_sk ?_ | refine g_cT rfl ?_ | refine g_cF rfl ?_ | refine g_x rfl ?_ | refine g_lb ?_))
            refine g_j ⟨rfl, rfl, rfl, ?_, trivial⟩ rfl
            simp only [mn1, if_neg h1, if_pos (Or.inl hg)]; rfl
      · rintro T _ hT rfl
        refine g_wkc hT ?_
        refine g_sq ?_
        refine g_at 1 [(0, dp b), (3, dp b3), (4, .int .i64 k), (5, .int .i64 (mn2 f k))] (fun w' => w = w') rfl ?_ ?_
        · (repeat (first | refine g_sq ?_ | refine g_rg ?_ | refine g_r0 ?_ | refine g_ok rfl rfl ?_ | refine g_no rfl ?_ | refine g_no0 rfl ?_ | refine g_bk ?_ | refine g_b ?_ | refine g_sk ?_ | refine g_cT rfl ?_ | refine g_cF rfl ?_ | refine g_x rfl ?_ | refine g_lb ?_))
          generalize hg : cmv BinOp.lss (mn1 f k) 0 = g
          cases g
          all_goals simp only [cmv, decide_eq_true_eq, decide_eq_false_iff_not] at hg
          · (repeat (first | refine g_sq ?_ | refine g_rg ?_ | refine g_r0 ?_ | refine g_ok rfl rfl ?_ | refine g_no rfl ?_ | refine g_no0 rfl ?_ | refine g_bk ?_ | refine g_b ?_ | refine g_sk ?_ | refine g_cT rfl ?_ | refine g_cF rfl ?_ | refine g_x rfl ?_ | refine g_lb ?_))
            refine g_l1 rfl rfl (hS.b  4 rfl) rfl ?_
            (repeat (first | refine g_sq ?_ | refine g_rg ?_ | refine g_r0 ?_ | refine g_ok rfl rfl ?_ | refine g_no rfl ?_ | refine g_no0 rfl ?_ | refine g_bk ?_ | refine g_b ?_ | refine g_sk ?_ | refine g_cT rfl ?_ | refine g_cF rfl ?_ | refine g_x rfl ?_ | refine g_lb ?_))
            generalize hg2 : cmv BinOp.gtr k f.k = g2
            cases g2
            all_goals simp only [cmv, decide_eq_true_eq, decide_eq_false_iff_not] at hg2
            · (repeat (first | refine g_sq ?_ | refine g_rg ?_ | refine g_r0 ?_ | refine g_ok rfl rfl ?_ | refine g_no rfl ?_ | refine g_no0 rfl ?_ | refine g_bk ?_ | refine g_b ?_ | refine g_sk ?_ | refine g_cT rfl ?_ | refine g_cF rfl ?_ | refine g_x rfl ?_ | refine g_lb ?_))
              refine g_j ⟨rfl, rfl, rfl, ?_, trivial⟩ rfl
              have : ¬ (mn1 f k < 0 ∨ ((k : Int) > f.k ∧ (k : Int) > 0)) := by omega
              simp only [mn2, if_neg this]; rfl
            · (repeat (first | refine g_sq ?_ | refine g_rg ?_ | refine g_r0 ?_ | refine g_ok rfl rfl ?_ | refine g_no rfl ?_ | refine g_no0 rfl ?_ | refine g_bk ?_ | refine g_b ?_ | refine g_sk ?_ | refine g_cT rfl ?_ | refine g_cF rfl ?_ | refine g_x rfl ?_ | refine g_lb ?_))
              refine g_cd rfl (fun h2 => ?_) (fun h2 => ?_)
              all_goals simp only [cmv, decide_eq_true_eq, decide_eq_false_iff_not] at h2
              · (repeat (first | refine g_sq ?_ | refine g_rg ?_ | refine g_r0 ?_ | refine g_ok rfl rfl ?_ | refine g_no rfl ?_ | refine g_no0 rfl ?_ | refine g_bk ?_ | refine g_b ?_ | refine g_sk ?_ | refine g_cT rfl ?_ | refine g_cF rfl ?_ | refine g_x rfl ?_ | refine g_lb ?_))
                refine g_j ⟨rfl, rfl, rfl, ?_, trivial⟩ rfl
                have : mn1 f k < 0 ∨ ((k : Int) > f.k ∧ (k : Int) > 0) := by omega
                simp only [mn2, if_pos this]; rfl
              · (repeat (first | refine g_sq ?_ | refine g_rg ?_ | refine g_r0 ?_ | refine g_ok rfl rfl ?_ | refine g_no rfl ?_ | refine g_no0 rfl ?_ | refine g_bk ?_ | refine g_b ?_ | refine g_sk ?_ | refine g_cT rfl ?_ | refine g_cF rfl ?_ | refine g_x rfl ?_ | refine g_lb ?_))
                refine g_j ⟨rfl, rfl, rfl, ?_, trivial⟩ rfl
                have : ¬ (mn1 f k < 0 ∨ ((k : Int) > f.k ∧ (k : Int) > 0)) := by omega
                simp only [mn2, if_neg this]; rfl
          · (repeat (first | refine g_sq ?_ | refine g_rg ?_ | refine g_r0 ?_ | refine g_ok rfl rfl ?_ | refine g_no rfl ?_ | refine g_no0 rfl ?_ | refine g_bk ?_ | refine g_b ?_ | refine g_sk ?_ | refine g_cT rfl ?_ | refine g_cF rfl ?_ | refine g_x rfl ?_ | refine g_lb ?_))
            refine g_j ⟨rfl, rfl, rfl, ?_, trivial⟩ rfl
            simp only [mn2, if_pos (Or.inl hg)]; rfl
        rintro T _ hT rfl
        refine g_wkc hT ?_
        refine g_sq ?_
        refine g_at 1 [(0, dp b), (3, dp b3), (4, .int .i64 k), (5, .int .i64 (mny f k))] (fun w' => w = w') rfl ?_ ?_
        · (repeat (first | refine g_sq ?_ | refine g_rg ?_ | refine g_r0 ?_ | refine g_ok rfl rfl ?_ | refine g_no rfl ?_ | refine g_no0 rfl ?_ | refine g_bk ?_ | refine g_b ?_ | refine g_sk ?_ | refine g_cT rfl ?_ | refine g_cF rfl ?_ | refine g_x rfl ?_ | refine g_lb ?_))
          refine g_cd rfl (fun h2 => ?_) (fun h2 => ?_)
          all_goals simp only [cmv, decide_eq_true_eq, decide_eq_false_iff_not] at h2
          · (repeat (first | refine g_sq ?_ | refine g_rg ?_ | refine g_r0 ?_ | refine g_ok rfl rfl ?_ | refine g_no rfl ?_ | refine g_no0 rfl ?_ | refine g_bk ?_ | refine g_b ?_ | refine g_sk ?_ | refine g_cT rfl ?_ | refine g_cF rfl ?_ | refine g_x rfl ?_ | refine g_lb ?_))
            refine g_j ⟨rfl, rfl, rfl, ?_, trivial⟩ rfl
            rw [mn3, if_pos h2]; rfl
          · (repeat (first | refine g_sq ?_ | refine g_rg ?_ | refine g_r0 ?_ | refine g_ok rfl rfl ?_ | refine g_no rfl ?_ | refine g_no0 rfl ?_ | refine g_bk ?_ | refine g_b ?_ | refine g_sk ?_ | refine g_cT rfl ?_ | refine g_cF rfl ?_ | refine g_x rfl ?_ | refine g_lb ?_))
            refine g_j ⟨rfl, rfl, rfl, ?_, trivial⟩ rfl
            rw [mn3, if_neg h2]; rfl
        rintro T _ hT rfl
        refine g_wkc hT ?_
        obtain ⟨g1, g2⟩ := lw_get restL hy
        have hlt : y.1.toNat < A.length := by have := hyw.2; simp only at this; omega
        have hm := mny_le f k
        obtain ⟨p, hp⟩ : ∃ p, A[y.1.toNat]? = some p := ⟨_, List.getElem?_eq_getElem hlt⟩
        have hpl : (A.map (·.2))[y.1.toNat]? = some p.2 := by rw [List.getElem?_map, hp]; rfl
        have hpm : p.2.length = 128 := by
          rw [hAc, fall_crash] at hpl
          exact crashC_mem f _ _ _ hx.1.2.1 (fun z hz => hx.1.2.2.1 z (List.mem_of_mem_take hz)) _ (List.mem_of_getElem? hpl)
        have hrp : Rd p.1 5 1 128 (bys p.2) w := by
          have := hS.ok 3 _ rfl p (List.mem_append_left _ (List.mem_of_getElem? hp))
          rwa [hpm] at this
        have hry : Rd y.2.1 5 1 128 (bys y.2.2) w := by
          have := hS.ok 3 _ rfl y.2 (List.mem_append_right _ (List.mem_map.2 ⟨y, List.mem_of_getElem? hy, rfl⟩))
          rwa [hyw.1] at this
        rcases hS.ok 2 _ rfl with ⟨_, hv, _⟩ | ⟨_, _, restL, hv, _, _, _, hBL⟩
        · have : W.length = 0 := hv
          omega
        cases hv
        obtain ⟨g1, g2⟩ := lw_get restL hy
        rcases hS.ok 1 _ rfl with ⟨hv, _⟩ | ⟨bC, capC, restC, hv, hcapC, hxlC, hlC, hBC⟩
        · cases hv
        cases hv
        have hcg := cA_get restC hp
        (repeat (first | refine g_sq ?_ | refine g_rg ?_ | refine g_r0 ?_ | refine g_ok rfl rfl ?_ | refine g_no rfl ?_ | refine g_no0 rfl ?_ | refine g_bk ?_ | refine g_b ?_ | refine g_sk ?_ | refine g_cT rfl ?_ | refine g_cF rfl ?_ | refine g_x rfl ?_ | refine g_lb ?_))
        refine g_l1 rfl rfl (hS.b  0 rfl) rfl ?_
        (repeat (first | refine g_sq ?_ | refine g_rg ?_ | refine g_r0 ?_ | refine g_ok rfl rfl ?_ | refine g_no rfl ?_ | refine g_no0 rfl ?_ | refine g_bk ?_ | refine g_b ?_ | refine g_sk ?_ | refine g_cT rfl ?_ | refine g_cF rfl ?_ | refine g_x rfl ?_ | refine g_lb ?_))
        refine g_rq rfl rfl ⟨by omega, by omega⟩ ?_
        (repeat (first | refine g_sq ?_ | refine g_rg ?_ | refine g_r0 ?_ | refine g_ok rfl rfl ?_ | refine g_no rfl ?_ | refine g_no0 rfl ?_ | refine g_bk ?_ | refine g_b ?_ | refine g_sk ?_ | refine g_cT rfl ?_ | refine g_cF rfl ?_ | refine g_x rfl ?_ | refine g_lb ?_))
        refine g_l1 (v := .int .i64 y.1) rfl rfl hBL (by rw [Nat.zero_add, Nat.add_zero]; exact g1) ?_
        (repeat (first | refine g_sq ?_ | refine g_rg ?_ | refine g_r0 ?_ | refine g_ok rfl rfl ?_ | refine g_no rfl ?_ | refine g_no0 rfl ?_ | refine g_bk ?_ | refine g_b ?_ | refine g_sk ?_ | refine g_cT rfl ?_ | refine g_cF rfl ?_ | refine g_x rfl ?_ | refine g_lb ?_))
        refine g_dr mixed ?_
        have hS := hS.drew
        have hBL : Blk w.drew bL (lw W ++ restL) 147 := hBL
        have hBC : Blk w.drew bC (A.map (·.1) ++ restC) 35 := hBC
        (repeat (first | refine d_ok rfl rfl rfl ?_ | refine d_no rfl rfl ?_))
        refine d_l1 rfl rfl rfl (hS.b 0 rfl) rfl ?_
        (repeat (first | refine d_ok rfl rfl rfl ?_ | refine d_no rfl rfl ?_))
        refine d_l1 rfl rfl rfl (hS.b 0 rfl) rfl ?_
        (repeat (first | refine d_ok rfl rfl rfl ?_ | refine d_no rfl rfl ?_))
        refine d_rq rfl rfl rfl ⟨by omega, by omega⟩ ?_
        (repeat (first | refine d_ok rfl rfl rfl ?_ | refine d_no rfl rfl ?_))
        refine d_l1 (v := y.2.1) rfl rfl rfl hBL (by rw [Nat.zero_add]; exact g2) ?_
        (repeat (first | refine d_ok rfl rfl rfl ?_ | refine d_no rfl rfl ?_))
        refine d_l1 rfl rfl rfl (hS.b 0 rfl) rfl ?_
        (repeat (first | refine d_ok rfl rfl rfl ?_ | refine d_no rfl rfl ?_))
        refine d_rq rfl rfl rfl ⟨hyw.2.1, by have := hyw.2; simp only at this; omega⟩ ?_
        refine d_l1 (v := p.1) rfl rfl rfl hBC (by rw [Nat.zero_add]; exact hcg) ?_
        (repeat (first | refine d_ok rfl rfl rfl ?_ | refine d_no rfl rfl ?_))
        refine d_cl rfl rfl rfl (b120 hry hrp hm fun v' w1 h' => ?_)
        have hS := hS.call0.2 w1 _ h'
        refine ⟨rc_1 rfl rfl rfl rfl (hS.b 0 rfl) rfl rc_0, ?_⟩
        refine d_rq rfl rfl rfl ⟨hyw.2.1, by have := hyw.2; simp only at this; omega⟩ ?_
        have hv' : ∃ a' m' c', v' = .slice (some a') m' c' := hS.rowb 5 rfl (by decide)
        obtain ⟨a', m', c', rfl⟩ := hv'
        obtain ⟨_, capC', restC', hv, h1C, h2C, hS⟩ := hS.open_row 1 rfl ⟨_, _, _, rfl⟩
        cases hv
        refine d_e0 rfl rfl ?_
        refine ef_st hS 1 rfl rfl rfl rfl (by simp only [Nat.zero_add, List.length_append, List.length_map]; omega) rfl fun w1 hS => ⟨rc_0, ?_⟩
        refine d_fin ?_
        have hnb : (y.2.2.take (mny f k).toNat ++ p.2.drop (mny f k).toNat).length = 128 := by
          have := hyw.1
          simp only at this
          simp only [List.length_append, List.length_take, List.length_drop, this, hpm]
          omega
        have hset : spl (A.map (·.1) ++ restC') (0 + y.1.toNat * 1) [.slice (some a') m' c'] = (A.set y.1.toNat (.slice (some a') m' c', y.2.2.take (mny f k).toNat ++ p.2.drop (mny f k).toNat)).map (·.1) ++ restC' := by
          rw [List.map_set, Nat.zero_add, Nat.mul_one, ← List.set_append_left _ _ (by simpa using hlt)]
          rw [List.set_eq_take_append_cons_drop, if_pos (by simp; omega)]
          simp [spl]
        have hS := hS.ceq 1 rfl hset
        have hS := hS.close_row (sz := 1) (n := A.length) (cap := cC) 1 rfl h1C (by simp) (List.prefix_append _ _) (by rw [← h2C]; simp)
        rw [← hnb] at hS
        have hS := hS.pool_add 3 5 rfl rfl (by decide)
        have hS := hS.pool_sub (M' := A.set y.1.toNat (.slice (some a') m' c', y.2.2.take (mny f k).toNat ++ p.2.drop (mny f k).toNat) ++ W.map (·.2)) 3 rfl (fun q hq => by
          rcases List.mem_append.1 hq with hq | hq
          · rcases List.mem_or_eq_of_mem_set hq with hq | hq
            · exact List.mem_append_left _ (List.mem_append_left _ hq)
            · subst hq; simp
          · exact List.mem_append_left _ (List.mem_append_right _ hq))
        (repeat (first | refine g_sq ?_ | refine g_rg ?_ | refine g_r0 ?_ | refine g_ok rfl rfl ?_ | refine g_no rfl ?_ | refine g_no0 rfl ?_ | refine g_bk ?_ | refine g_b ?_ | refine g_sk ?_ | refine g_cT rfl ?_ | refine g_cF rfl ?_ | refine g_x rfl ?_ | refine g_lb ?_))
        refine g_rq rfl rfl (in64 (by simp only [arv]; omega)) ?_
        (repeat (first | refine g_sq ?_ | refine g_rg ?_ | refine g_r0 ?_ | refine g_ok rfl rfl ?_ | refine g_no rfl ?_ | refine g_no0 rfl ?_ | refine g_bk ?_ | refine g_b ?_ | refine g_sk ?_ | refine g_cT rfl ?_ | refine g_cF rfl ?_ | refine g_x rfl ?_ | refine g_lb ?_))
        refine g_l (k + 1) ⟨rfl, rfl, rfl, trivial⟩ ⟨by omega, A.set y.1.toNat (.slice (some a') m' c', y.2.2.take (mny f k).toNat ++ p.2.drop (mny f k).toNat), by simpa using hA, ?_, ?_⟩ (by omega)
        · rw [fall_step hyd, List.map_set, ← hAc, putB, List.getD_eq_getElem?_getD, hpl]
          rfl
        · rw [List.length_set]
          exact hS.sel [0, 1, 2, 3, 4] rfl rfl
    · have : k = W.length := by omega
      subst this
      rw [hwl, List.take_length] at hAc
      (repeat (first | refine g_sq ?_ | refine g_rg ?_ | refine g_r0 ?_ | refine g_ok rfl rfl ?_ | refine g_no rfl ?_ | refine g_no0 rfl ?_ | refine g_bk ?_ | refine g_b ?_ | refine g_sk ?_ | refine g_cT rfl ?_ | refine g_cF rfl ?_ | refine g_x rfl ?_ | refine g_lb ?_))
      exact g_j ⟨rfl, trivial⟩ ⟨A, hA, hAc, hS⟩
  · rintro T w hT ⟨A, hA, hAc, hS⟩
    refine g_wkc hT ?_
    (repeat (first | refine g_sq ?_ | refine g_rg ?_ | refine g_r0 ?_ | refine g_ok rfl rfl ?_ | refine g_no rfl ?_ | refine g_no0 rfl ?_ | refine g_bk ?_ | refine g_b ?_ | refine g_sk ?_ | refine g_cT rfl ?_ | refine g_cF rfl ?_ | refine g_x rfl ?_ | refine g_lb ?_))
    refine g_ef0 rfl (ef_st hS 0 rfl rfl rfl rfl (Nat.le_of_ble_eq_true rfl) rfl fun w hS => ?_)
    (repeat (first | refine g_sq ?_ | refine g_rg ?_ | refine g_r0 ?_ | refine g_ok rfl rfl ?_ | refine g_no rfl ?_ | refine g_no0 rfl ?_ | refine g_bk ?_ | refine g_b ?_ | refine g_sk ?_ | refine g_cT rfl ?_ | refine g_cF rfl ?_ | refine g_x rfl ?_ | refine g_lb ?_))
    refine g_ef0 rfl (ef_st hS 0 rfl rfl rfl rfl (Nat.le_of_ble_eq_true rfl) rfl fun w hS => ?_)
    (repeat (first | refine g_sq ?_ | refine g_rg ?_ | refine g_r0 ?_ | refine g_ok rfl rfl ?_ | refine g_no rfl ?_ | refine g_no0 rfl ?_ | refine g_bk ?_ | refine g_b ?_ | refine g_sk ?_ | refine g_cT rfl ?_ | refine g_cF rfl ?_ | refine g_x rfl ?_ | refine g_lb ?_))
    refine g_ef0 rfl (ef_st hS 0 rfl rfl rfl rfl (Nat.le_of_ble_eq_true rfl) rfl fun w hS => ?_)
    refine g_r0 (q_n ?_)
    have hS := (hS.pool_sub (M' := A ++ []) 3 rfl (fun p hp => List.mem_append_left _ (by simpa using hp))).nilrow 147 2
    have hS := hS.sel [0, 1, 5, 3] rfl rfl
    obtain ⟨S', hS⟩ := RefR.cls (x := ⟨.slice (some aC) mC cC, .slice none 0 0, A, []⟩) (D := D.crash f) (B := []) (b := b) ⟨hx.1.crash f, by rw [hAc, fall_crash]; rfl, rfl⟩ hS
    exact h _ _ hS
end
end Go.Proofs.Ytegjocpjmfaigaa
namespace Go.Proofs.Ytegjocpjmfaigaa
open Go.En

section
variable {w w0 : World} {S0 S : Nat → Prop} {K : Value → World → Prop} {b : Nat} {D : Dev} {B L : List Res}
theorem rc104 {f : Fal} (hS : St w0 S0 w (RefR S b D :: B)) (h : ∀ w' S', St w0 S0 w' (RefR S' b (D.crash f) :: B) → K (.tuple ⟨[]⟩) w') : CK Try.prog 104 [dp b, falV f] w K := CK.ref hS rb104 h
theorem rb103 (hS : St w0 S0 w [RefR S b D]) (h : ∀ w' S', St w0 S0 w' [RefR S' b D.oper.1] → K (.int .i64 D.oper.2) w') : CK Try.prog 103 [dp b] w K := by
  obtain ⟨x, hx, hS⟩ := RefR.opn hS
  refine call_k Try.func103 k103 Try.ntmps103 (Nat.le_of_ble_eq_true rfl) ?_
  (repeat (first | refine g_sq ?_ | refine g_rg ?_ | refine g_r0 ?_ | refine g_ok rfl rfl ?_ | refine g_no rfl ?_ | refine g_no0 rfl ?_ | refine g_bk ?_ | refine g_b ?_ | refine g_sk ?_ | refine g_cT rfl ?_ | refine g_cF rfl ?_ | refine g_x rfl ?_ | refine g_lb ?_))
  refine g_l1 rfl rfl (hS.b  0 rfl) rfl ?_
  (repeat (first | refine g_sq ?_ | refine g_rg ?_ | refine g_r0 ?_ | refine g_ok rfl rfl ?_ | refine g_no rfl ?_ | refine g_no0 rfl ?_ | refine g_bk ?_ | refine g_b ?_ | refine g_sk ?_ | refine g_cT rfl ?_ | refine g_cF rfl ?_ | refine g_x rfl ?_ | refine g_lb ?_))
  refine g_ef0 rfl (ef_st hS 0 rfl rfl rfl rfl (Nat.le_of_ble_eq_true rfl) rfl fun w hS => ?_)
  (repeat (first | refine g_sq ?_ | refine g_rg ?_ | refine g_r0 ?_ | refine g_ok rfl rfl ?_ | refine g_no rfl ?_ | refine g_no0 rfl ?_ | refine g_bk ?_ | refine g_b ?_ | refine g_sk ?_ | refine g_cT rfl ?_ | refine g_cF rfl ?_ | refine g_x rfl ?_ | refine g_lb ?_))
  refine g_dr mixed ?_
  have hS := hS.drew
  have hS : St _ _ _ [cel b (RefC x.vC x.vL { D with since := inc D.since }) 57, row x.vC 35 1 x.A.length (x.A.map (·.1)), row x.vL 147 2 x.W.length (lw x.W), pool (x.A ++ x.W.map (·.2))] := hS
  (repeat (first | refine d_ok rfl rfl rfl ?_ | refine d_no rfl rfl ?_))
  refine d_l1 rfl rfl rfl (hS.b 0 rfl) rfl ?_
  (repeat (first | refine d_ok rfl rfl rfl ?_ | refine d_no rfl rfl ?_))
  generalize hg : cmv BinOp.geq D.fall.a 1 = g
  have e0 : ¬ (0 < D.fall.a ∧ inc D.since = D.fall.a) → D.oper = ({ D with since := inc D.since, many := inc D.many }, 0) := fun h => by simp only [Dev.oper, if_neg h]
  have e1 : (0 < D.fall.a ∧ inc D.since = D.fall.a) → D.oper = (Dev.crash { D with since := inc D.since } D.fall, 141) := fun h => by simp only [Dev.oper, if_pos h]
  have fin : ∀ {w'}, St w0 S0 w' [cel b (RefC x.vC x.vL { D with since := inc D.since, many := inc D.many }) 57, row x.vC 35 1 x.A.length (x.A.map (·.1)), row x.vL 147 2 x.W.length (lw x.W), pool (x.A ++ x.W.map (·.2))] → ¬ (0 < D.fall.a ∧ inc D.since = D.fall.a) → K (.int .i64 0) w' := by
    intro w' hS hn
    obtain ⟨S', hS⟩ := RefR.cls (x := x) (D := { D with since := inc D.since, many := inc D.many }) (B := []) (b := b) hx hS
    rw [e0 hn] at h
    exact h _ _ hS
  cases g
  all_goals simp only [cmv, decide_eq_true_eq, decide_eq_false_iff_not] at hg
  · have hn : ¬ (0 < D.fall.a ∧ inc D.since = D.fall.a) := by omega
    (repeat (first | refine d_ok rfl rfl rfl ?_ | refine d_no rfl rfl ?_))
    refine d_fin ?_
    (repeat (first | refine g_sq ?_ | refine g_rg ?_ | refine g_r0 ?_ | refine g_ok rfl rfl ?_ | refine g_no rfl ?_ | refine g_no0 rfl ?_ | refine g_bk ?_ | refine g_b ?_ | refine g_sk ?_ | refine g_cT rfl ?_ | refine g_cF rfl ?_ | refine g_x rfl ?_ | refine g_lb ?_))
    refine g_l1 rfl rfl (hS.b  0 rfl) rfl ?_
    (repeat (first | refine g_sq ?_ | refine g_rg ?_ | refine g_r0 ?_ | refine g_ok rfl rfl ?_ | refine g_no rfl ?_ | refine g_no0 rfl ?_ | refine g_bk ?_ | refine g_b ?_ | refine g_sk ?_ | refine g_cT rfl ?_ | refine g_cF rfl ?_ | refine g_x rfl ?_ | refine g_lb ?_))
    refine g_ef0 rfl (ef_st hS 0 rfl rfl rfl rfl (Nat.le_of_ble_eq_true rfl) rfl fun w hS => ?_)
    (repeat (first | refine g_sq ?_ | refine g_rg ?_ | refine g_r0 ?_ | refine g_ok rfl rfl ?_ | refine g_no rfl ?_ | refine g_no0 rfl ?_ | refine g_bk ?_ | refine g_b ?_ | refine g_sk ?_ | refine g_cT rfl ?_ | refine g_cF rfl ?_ | refine g_x rfl ?_ | refine g_lb ?_))
    exact g_ret (q_1 rfl (fin hS hn))
  · (repeat (first | refine d_ok rfl rfl rfl ?_ | refine d_no rfl rfl ?_))
    refine d_l1 rfl rfl rfl (hS.b 0 rfl) rfl ?_
    (repeat (first | refine d_ok rfl rfl rfl ?_ | refine d_no rfl rfl ?_))
    refine d_l1 rfl rfl rfl (hS.b 0 rfl) rfl ?_
    (repeat (first | refine d_ok rfl rfl rfl ?_ | refine d_no rfl rfl ?_))
    refine d_fin ?_
    refine g_cd rfl (fun hc => ?_) (fun hc => ?_)
    all_goals simp only [cmv, decide_eq_true_eq, decide_eq_false_iff_not] at hc
    · have hn : 0 < D.fall.a ∧ inc D.since = D.fall.a := ⟨by omega, hc⟩
      rw [e1 hn] at h
      (repeat (first | refine g_sq ?_ | refine g_rg ?_ | refine g_r0 ?_ | refine g_ok rfl rfl ?_ | refine g_no rfl ?_ | refine g_no0 rfl ?_ | refine g_bk ?_ | refine g_b ?_ | refine g_sk ?_ | refine g_cT rfl ?_ | refine g_cF rfl ?_ | refine g_x rfl ?_ | refine g_lb ?_))
      refine g_lm rfl rfl (hS.b 0 rfl) (Nat.le_of_ble_eq_true rfl) ?_
      (repeat (first | refine g_sq ?_ | refine g_rg ?_ | refine g_r0 ?_ | refine g_ok rfl rfl ?_ | refine g_no rfl ?_ | refine g_no0 rfl ?_ | refine g_bk ?_ | refine g_b ?_ | refine g_sk ?_ | refine g_cT rfl ?_ | refine g_cF rfl ?_ | refine g_x rfl ?_ | refine g_lb ?_))
      obtain ⟨S', hS⟩ := RefR.cls (x := x) (D := { D with since := inc D.since }) (B := []) (b := b) hx hS
      refine g_cl rfl rfl (rc104 (f := D.fall) hS fun w S' hS => ?_)
      (repeat (first | refine g_sq ?_ | refine g_rg ?_ | refine g_r0 ?_ | refine g_ok rfl rfl ?_ | refine g_no rfl ?_ | refine g_no0 rfl ?_ | refine g_bk ?_ | refine g_b ?_ | refine g_sk ?_ | refine g_cT rfl ?_ | refine g_cF rfl ?_ | refine g_x rfl ?_ | refine g_lb ?_))
      exact g_ret (q_1 rfl (h _ _ hS))
    · have hn : ¬ (0 < D.fall.a ∧ inc D.since = D.fall.a) := fun h => hc h.2
      (repeat (first | refine g_sq ?_ | refine g_rg ?_ | refine g_r0 ?_ | refine g_ok rfl rfl ?_ | refine g_no rfl ?_ | refine g_no0 rfl ?_ | refine g_bk ?_ | refine g_b ?_ | refine g_sk ?_ | refine g_cT rfl ?_ | refine g_cF rfl ?_ | refine g_x rfl ?_ | refine g_lb ?_))
      refine g_l1 rfl rfl (hS.b  0 rfl) rfl ?_
      (repeat (first | refine g_sq ?_ | refine g_rg ?_ | refine g_r0 ?_ | refine g_ok rfl rfl ?_ | refine g_no rfl ?_ | refine g_no0 rfl ?_ | refine g_bk ?_ | refine g_b ?_ | refine g_sk ?_ | refine g_cT rfl ?_ | refine g_cF rfl ?_ | refine g_x rfl ?_ | refine g_lb ?_))
      refine g_ef0 rfl (ef_st hS 0 rfl rfl rfl rfl (Nat.le_of_ble_eq_true rfl) rfl fun w hS => ?_)
      (repeat (first | refine g_sq ?_ | refine g_rg ?_ | refine g_r0 ?_ | refine g_ok rfl rfl ?_ | refine g_no rfl ?_ | refine g_no0 rfl ?_ | refine g_bk ?_ | refine g_b ?_ | refine g_sk ?_ | refine g_cT rfl ?_ | refine g_cF rfl ?_ | refine g_x rfl ?_ | refine g_lb ?_))
      exact g_ret (q_1 rfl (fin hS hn))
theorem rc103 (hS : St w0 S0 w (RefR S b D :: B)) (h : ∀ w' S', St w0 S0 w' (RefR S' b D.oper.1 :: B) → K (.int .i64 D.oper.2) w') : CK Try.prog 103 [dp b] w K := CK.ref hS rb103 h
theorem rb75 {f : Fal} (hS : St w0 S0 w [RefR S b D]) (h : ∀ w' S', St w0 S0 w' [RefR S' b (if D.down then D else D.crash f)] → K (.int .i64 (if D.down then 141 else 0)) w') : CK Try.prog 75 [dp b, falV f] w K := by
  refine call_k Try.func75 k75 Try.ntmps75 (Nat.le_of_ble_eq_true rfl) ?_
  (repeat (first | refine g_sq ?_ | refine g_rg ?_ | refine g_r0 ?_ | refine g_ok rfl rfl ?_ | refine g_no rfl ?_ | refine g_no0 rfl ?_ | refine g_bk ?_ | refine g_b ?_ | refine g_sk ?_ | refine g_cT rfl ?_ | refine g_cF rfl ?_ | refine g_x rfl ?_ | refine g_lb ?_))
  refine g_ef rfl (ef_bx hS rfl fun b3 w hS => ?_)
  (repeat (first | refine g_sq ?_ | refine g_rg ?_ | refine g_r0 ?_ | refine g_ok rfl rfl ?_ | refine g_no rfl ?_ | refine g_no0 rfl ?_ | refine g_bk ?_ | refine g_b ?_ | refine g_sk ?_ | refine g_cT rfl ?_ | refine g_cF rfl ?_ | refine g_x rfl ?_ | refine g_lb ?_))
  obtain ⟨_, aC, cC, aL, cL, hB⟩ := RefR.blk hS
  refine g_l1 rfl rfl hB rfl ?_
  (repeat (first | refine g_sq ?_ | refine g_rg ?_ | refine g_r0 ?_ | refine g_ok rfl rfl ?_ | refine g_no rfl ?_ | refine g_no0 rfl ?_ | refine g_bk ?_ | refine g_b ?_ | refine g_sk ?_ | refine g_cT rfl ?_ | refine g_cF rfl ?_ | refine g_x rfl ?_ | refine g_lb ?_))
  generalize hd : D.down = dn
  rw [hd] at h
  cases dn
  · simp only [Bool.false_eq_true, if_false] at h ⊢
    (repeat (first | refine g_sq ?_ | refine g_rg ?_ | refine g_r0 ?_ | refine g_ok rfl rfl ?_ | refine g_no rfl ?_ | refine g_no0 rfl ?_ | refine g_bk ?_ | refine g_b ?_ | refine g_sk ?_ | refine g_cT rfl ?_ | refine g_cF rfl ?_ | refine g_x rfl ?_ | refine g_lb ?_))
    refine g_lm rfl rfl (hS.b 1 rfl) (Nat.le_of_ble_eq_true rfl) ?_
    refine g_cl rfl rfl (rc104 (f := f) (B := [_]) hS fun w S' hS => ?_)
    (repeat (first | refine g_sq ?_ | refine g_rg ?_ | refine g_r0 ?_ | refine g_ok rfl rfl ?_ | refine g_no rfl ?_ | refine g_no0 rfl ?_ | refine g_bk ?_ | refine g_b ?_ | refine g_sk ?_ | refine g_cT rfl ?_ | refine g_cF rfl ?_ | refine g_x rfl ?_ | refine g_lb ?_))
    exact g_ret (q_1 rfl (h _ _ (hS.sel [0] rfl rfl)))
  · simp only [if_true] at h ⊢
    (repeat (first | refine g_sq ?_ | refine g_rg ?_ | refine g_r0 ?_ | refine g_ok rfl rfl ?_ | refine g_no rfl ?_ | refine g_no0 rfl ?_ | refine g_bk ?_ | refine g_b ?_ | refine g_sk ?_ | refine g_cT rfl ?_ | refine g_cF rfl ?_ | refine g_x rfl ?_ | refine g_lb ?_))
    exact g_ret (q_1 rfl (h _ _ (hS.sel [0] rfl rfl)))
theorem rc75 {f : Fal} (hS : St w0 S0 w (RefR S b D :: B)) (h : ∀ w' S', St w0 S0 w' (RefR S' b (if D.down then D else D.crash f) :: B) → K (.int .i64 (if D.down then 141 else 0)) w') : CK Try.prog 75 [dp b, falV f] w K := CK.ref hS rb75 h

theorem putB_all {cs : List (List UInt8)} {x : Int × List UInt8} (hx : x.2.length = 128) (hlt : x.1.toNat < cs.length) (hc : ∀ c ∈ cs, c.length = 128) : putB cs x 128 = cs.set x.1.toNat x.2 := by
  rw [putB, List.take_of_length_le (by omega), List.getD_eq_getElem?_getD, List.getElem?_eq_getElem hlt]
  rw [show (some cs[x.1.toNat]).getD [] = cs[x.1.toNat] from rfl, List.drop_of_length_le (by rw [hc _ (List.getElem_mem hlt)]; omega), List.append_nil]
theorem rb72 (hS : St w0 S0 w [RefR S b D]) (h : ∀ w' S', St w0 S0 w' [RefR S' b D.sync.1] → K (.int .i64 D.sync.2) w') : CK Try.prog 72 [dp b] w K := by
  refine call_k Try.func72 k72 Try.ntmps72 (Nat.le_of_ble_eq_true rfl) ?_
  obtain ⟨_, aC, cC, aL, cL, hB⟩ := RefR.blk hS
  (repeat (first | refine g_sq ?_ | refine g_rg ?_ | refine g_r0 ?_ | refine g_ok rfl rfl ?_ | refine g_no rfl ?_ | refine g_no0 rfl ?_ | refine g_bk ?_ | refine g_b ?_ | refine g_sk ?_ | refine g_cT rfl ?_ | refine g_cF rfl ?_ | refine g_x rfl ?_ | refine g_lb ?_))
  refine g_l1 rfl rfl hB rfl ?_
  (repeat (first | refine g_sq ?_ | refine g_rg ?_ | refine g_r0 ?_ | refine g_ok rfl rfl ?_ | refine g_no rfl ?_ | refine g_no0 rfl ?_ | refine g_bk ?_ | refine g_b ?_ | refine g_sk ?_ | refine g_cT rfl ?_ | refine g_cF rfl ?_ | refine g_x rfl ?_ | refine g_lb ?_))
  generalize hd : D.down = dn
  cases dn
  · (repeat (first | refine g_sq ?_ | refine g_rg ?_ | refine g_r0 ?_ | refine g_ok rfl rfl ?_ | refine g_no rfl ?_ | refine g_no0 rfl ?_ | refine g_bk ?_ | refine g_b ?_ | refine g_sk ?_ | refine g_cT rfl ?_ | refine g_cF rfl ?_ | refine g_x rfl ?_ | refine g_lb ?_))
    refine g_cl rfl rfl (rc103 hS fun w S' hS => ?_)
    (repeat (first | refine g_sq ?_ | refine g_rg ?_ | refine g_r0 ?_ | refine g_ok rfl rfl ?_ | refine g_no rfl ?_ | refine g_no0 rfl ?_ | refine g_bk ?_ | refine g_b ?_ | refine g_sk ?_ | refine g_cT rfl ?_ | refine g_cF rfl ?_ | refine g_x rfl ?_ | refine g_lb ?_))
    refine g_cd rfl (fun hc => ?_) (fun hc => ?_)
    all_goals simp only [cmv, Bool.not_eq_true', Bool.not_eq_false', decide_eq_true_eq, decide_eq_false_iff_not] at hc
    · have e : D.sync = D.oper := by simp [Dev.sync, hd, hc]
      rw [e] at h
      (repeat (first | refine g_sq ?_ | refine g_rg ?_ | refine g_r0 ?_ | refine g_ok rfl rfl ?_ | refine g_no rfl ?_ | refine g_no0 rfl ?_ | refine g_bk ?_ | refine g_b ?_ | refine g_sk ?_ | refine g_cT rfl ?_ | refine g_cF rfl ?_ | refine g_x rfl ?_ | refine g_lb ?_))
      exact g_ret (q_1 rfl (h _ _ hS))
    · have e : D.sync = (D.oper.1.sync1, 0) := by simp [Dev.sync, hd, hc]
      rw [e] at h
      generalize D.oper.1 = D1 at h hS
      clear hB
      obtain ⟨x, hx, hS⟩ := RefR.opn hS
      obtain ⟨vC, vL, A0, W⟩ := x
      have hcl : A0.length = D1.cells.length := hx.cl
      have hwl : W.length = D1.waits.length := hx.wl
      have hwn := hx.1.2.2.2
      have hc0 := List.length_pos_iff.2 hx.1.1
      obtain ⟨aC, mC, cC, rfl⟩ := hS.rowb 1 rfl (by show 0 < A0.length; omega)
      obtain ⟨aL, cL, rfl⟩ : ∃ aL cL, vL = .slice aL W.length cL := hS.rlen 2 rfl
      (repeat (first | refine g_sq ?_ | refine g_rg ?_ | refine g_r0 ?_ | refine g_ok rfl rfl ?_ | refine g_no rfl ?_ | refine g_no0 rfl ?_ | refine g_bk ?_ | refine g_b ?_ | refine g_sk ?_ | refine g_cT rfl ?_ | refine g_cF rfl ?_ | refine g_x rfl ?_ | refine g_lb ?_))
      refine g_at 2 [(0, dp b)] (fun w => ∃ A, A.length = D1.cells.length ∧ A.map (·.2) = putAll D1.cells D1.waits ∧ St w0 S0 w [cel b (RefC (.slice (some aC) mC cC) (.slice aL W.length cL) D1) 57, row (.slice (some aC) mC cC) 35 1 A.length (A.map (·.1)), row (.slice aL W.length cL) 147 2 W.length (lw W), pool (A ++ W.map (·.2))]) rfl ?_ ?_
      · refine g_lp (ι := Nat) (fun k => [(0, dp b), (4, .int .i64 k)])
          (fun k w => k ≤ W.length ∧ ∃ A, A.length = D1.cells.length ∧ A.map (·.2) = putAll D1.cells (D1.waits.take k) ∧ St w0 S0 w [cel b (RefC (.slice (some aC) mC cC) (.slice aL W.length cL) D1) 57, row (.slice (some aC) mC cC) 35 1 A.length (A.map (·.1)), row (.slice aL W.length cL) 147 2 W.length (lw W), pool (A ++ W.map (·.2))]) (fun k => W.length - k) 0 ⟨rfl, rfl, trivial⟩ ⟨Nat.zero_le _, A0, hcl, by rw [List.take_zero]; exact hx.2.1, hS⟩ ?_
        clear hS
        rintro k w ⟨hk, A, hA, hAc, hS⟩
        (repeat (first | refine g_sq ?_ | refine g_rg ?_ | refine g_r0 ?_ | refine g_ok rfl rfl ?_ | refine g_no rfl ?_ | refine g_no0 rfl ?_ | refine g_bk ?_ | refine g_b ?_ | refine g_sk ?_ | refine g_cT rfl ?_ | refine g_cF rfl ?_ | refine g_x rfl ?_ | refine g_lb ?_))
        refine g_l1 rfl rfl (hS.b  0 rfl) rfl ?_
        (repeat (first | refine g_sq ?_ | refine g_rg ?_ | refine g_r0 ?_ | refine g_ok rfl rfl ?_ | refine g_no rfl ?_ | refine g_no0 rfl ?_ | refine g_bk ?_ | refine g_b ?_ | refine g_sk ?_ | refine g_cT rfl ?_ | refine g_cF rfl ?_ | refine g_x rfl ?_ | refine g_lb ?_))
        refine g_cd rfl (fun hc => ?_) (fun hc => ?_)
        all_goals simp only [cmv, decide_eq_true_eq, decide_eq_false_iff_not] at hc
        · have hltk : k < W.length := by omega
          have hy : W[k]? = some W[k] := List.getElem?_eq_getElem hltk
          generalize W[k] = y at hy
          have hyd : D1.waits[k]? = some (y.1, y.2.2) := by rw [← hx.2.2, List.getElem?_map, hy]; rfl
          have hyw := hx.1.2.2.1 _ (List.mem_of_getElem? hyd)
          have hlt : y.1.toNat < A.length := by have := hyw.2; simp only at this; omega
          have hry : Rd y.2.1 5 1 128 (bys y.2.2) w := by
            have := hS.ok 3 _ rfl y.2 (List.mem_append_right _ (List.mem_map.2 ⟨y, List.mem_of_getElem? hy, rfl⟩))
            rwa [hyw.1] at this
          rcases hS.ok 2 _ rfl with ⟨_, hv, _⟩ | ⟨bL, _, restL, hv, _, _, _, hBL⟩
          · have : W.length = 0 := hv
            omega
          cases hv
          obtain ⟨g1, g2⟩ := lw_get restL hy
          rcases hS.ok 1 _ rfl with ⟨hv, _⟩ | ⟨bC, capC, restC, hv, hcapC, hxlC, hlC, hBC⟩
          · cases hv
          cases hv
          obtain ⟨by', oy, cy, ly, ey, _⟩ := Rd.block hry (by decide)
          (repeat (first | refine g_sq ?_ | refine g_rg ?_ | refine g_r0 ?_ | refine g_ok rfl rfl ?_ | refine g_no rfl ?_ | refine g_no0 rfl ?_ | refine g_bk ?_ | refine g_b ?_ | refine g_sk ?_ | refine g_cT rfl ?_ | refine g_cF rfl ?_ | refine g_x rfl ?_ | refine g_lb ?_))
          refine g_dr mixed ?_
          have hS := hS.drew
          have hBL : Blk w.drew bL (lw W ++ restL) 147 := hBL
          (repeat (first | refine d_ok rfl rfl rfl ?_ | refine d_no rfl rfl ?_))
          refine d_l1 rfl rfl rfl (hS.b 0 rfl) rfl ?_
          (repeat (first | refine d_ok rfl rfl rfl ?_ | refine d_no rfl rfl ?_))
          refine d_l1 rfl rfl rfl (hS.b 0 rfl) rfl ?_
          (repeat (first | refine d_ok rfl rfl rfl ?_ | refine d_no rfl rfl ?_))
          refine d_rq rfl rfl rfl ⟨by omega, by omega⟩ ?_
          (repeat (first | refine d_ok rfl rfl rfl ?_ | refine d_no rfl rfl ?_))
          refine d_l1 (v := .int .i64 y.1) rfl rfl rfl hBL (by rw [Nat.zero_add, Nat.add_zero]; exact g1) ?_
          (repeat (first | refine d_ok rfl rfl rfl ?_ | refine d_no rfl rfl ?_))
          refine d_l1 rfl rfl rfl (hS.b 0 rfl) rfl ?_
          (repeat (first | refine d_ok rfl rfl rfl ?_ | refine d_no rfl rfl ?_))
          refine d_rq rfl rfl rfl ⟨by omega, by omega⟩ ?_
          (repeat (first | refine d_ok rfl rfl rfl ?_ | refine d_no rfl rfl ?_))
          refine d_l1 (v := .slice (some ⟨by', oy, none⟩) 128 cy) rfl rfl rfl hBL (by rw [Nat.zero_add, ← ey]; exact g2) ?_
          refine d_rq rfl rfl rfl ⟨hyw.2.1, by have := hyw.2; simp only at this; omega⟩ ?_
          obtain ⟨_, capC', restC', hv, h1C, h2C, hS⟩ := hS.open_row 1 rfl ⟨_, _, _, rfl⟩
          cases hv
          refine d_e0 rfl rfl ?_
          refine ef_st hS 1 rfl rfl rfl rfl (by simp only [Nat.zero_add, List.length_append, List.length_map]; omega) rfl fun w1 hS => ⟨rc_0, ?_⟩
          refine d_fin ?_
          have hset : spl (A.map (·.1) ++ restC') (0 + y.1.toNat * 1) [.slice (some ⟨by', oy, none⟩) 128 cy] = (A.set y.1.toNat y.2).map (·.1) ++ restC' := by
            rw [List.map_set, Nat.zero_add, Nat.mul_one, ← List.set_append_left _ _ (by simpa using hlt), ey]
            rw [List.set_eq_take_append_cons_drop, if_pos (by simp; omega)]
            simp [spl]
          have hS := hS.ceq 1 rfl hset
          have hS := hS.close_row (sz := 1) (n := A.length) (cap := cC) 1 rfl h1C (by simp) (List.prefix_append _ _) (by rw [← h2C]; simp)
          have hS := hS.pool_sub (M' := A.set y.1.toNat y.2 ++ W.map (·.2)) 3 rfl (fun q hq => by
            rcases List.mem_append.1 hq with hq | hq
            · rcases List.mem_or_eq_of_mem_set hq with hq | hq
              · exact List.mem_append_left _ hq
              · subst hq; exact List.mem_append_right _ (List.mem_map.2 ⟨y, List.mem_of_getElem? hy, rfl⟩)
            · exact List.mem_append_right _ hq)
          (repeat (first | refine g_sq ?_ | refine g_rg ?_ | refine g_r0 ?_ | refine g_ok rfl rfl ?_ | refine g_no rfl ?_ | refine g_no0 rfl ?_ | refine g_bk ?_ | refine g_b ?_ | refine g_sk ?_ | refine g_cT rfl ?_ | refine g_cF rfl ?_ | refine g_x rfl ?_ | refine g_lb ?_))
          refine g_rq rfl rfl (in64 (by simp only [arv]; omega)) ?_
          (repeat (first | refine g_sq ?_ | refine g_rg ?_ | refine g_r0 ?_ | refine g_ok rfl rfl ?_ | refine g_no rfl ?_ | refine g_no0 rfl ?_ | refine g_bk ?_ | refine g_b ?_ | refine g_sk ?_ | refine g_cT rfl ?_ | refine g_cF rfl ?_ | refine g_x rfl ?_ | refine g_lb ?_))
          refine g_l (k + 1) ⟨rfl, rfl, trivial⟩ ⟨by omega, A.set y.1.toNat y.2, by simpa using hA, ?_, ?_⟩ (by omega)
          · have hal : y.1.toNat < (A.map (·.2)).length := by simpa using hlt
            rw [putAll_step hyd, List.map_set, ← hAc]
            exact (putB_all (x := (y.1, y.2.2)) hyw.1 hal (by rw [hAc]; exact putAll_mem _ _ hx.1.2.1 (fun z hz => hx.1.2.2.1 z (List.mem_of_mem_take hz)))).symm
          · rw [List.length_set]
            exact hS
        · have : k = W.length := by omega
          subst this
          rw [hwl, List.take_length] at hAc
          (repeat (first | refine g_sq ?_ | refine g_rg ?_ | refine g_r0 ?_ | refine g_ok rfl rfl ?_ | refine g_no rfl ?_ | refine g_no0 rfl ?_ | refine g_bk ?_ | refine g_b ?_ | refine g_sk ?_ | refine g_cT rfl ?_ | refine g_cF rfl ?_ | refine g_x rfl ?_ | refine g_lb ?_))
          exact g_j ⟨rfl, trivial⟩ ⟨A, hA, hAc, hS⟩
      · rintro T w hT ⟨A, hA, hAc, hS⟩
        refine g_wkc hT ?_
        (repeat (first | refine g_sq ?_ | refine g_rg ?_ | refine g_r0 ?_ | refine g_ok rfl rfl ?_ | refine g_no rfl ?_ | refine g_no0 rfl ?_ | refine g_bk ?_ | refine g_b ?_ | refine g_sk ?_ | refine g_cT rfl ?_ | refine g_cF rfl ?_ | refine g_x rfl ?_ | refine g_lb ?_))
        refine g_ef0 rfl (ef_st hS 0 rfl rfl rfl rfl (Nat.le_of_ble_eq_true rfl) rfl fun w hS => ?_)
        (repeat (first | refine g_sq ?_ | refine g_rg ?_ | refine g_r0 ?_ | refine g_ok rfl rfl ?_ | refine g_no rfl ?_ | refine g_no0 rfl ?_ | refine g_bk ?_ | refine g_b ?_ | refine g_sk ?_ | refine g_cT rfl ?_ | refine g_cF rfl ?_ | refine g_x rfl ?_ | refine g_lb ?_))
        refine g_ret (q_1 rfl ?_)
        have hS := (hS.pool_sub (M' := A ++ []) 3 rfl (fun p hp => List.mem_append_left _ (by simpa using hp))).nilrow 147 2
        have hS := hS.sel [0, 1, 4, 3] rfl rfl
        obtain ⟨S', hS⟩ := RefR.cls (x := ⟨.slice (some aC) mC cC, .slice none 0 0, A, []⟩) (D := D1.sync1) (B := []) (b := b) ⟨hx.1.sync1, hAc, rfl⟩ hS
        exact h _ _ hS
  · have e : D.sync = (D, 141) := by simp [Dev.sync, hd]
    rw [e] at h
    (repeat (first | refine g_sq ?_ | refine g_rg ?_ | refine g_r0 ?_ | refine g_ok rfl rfl ?_ | refine g_no rfl ?_ | refine g_no0 rfl ?_ | refine g_bk ?_ | refine g_b ?_ | refine g_sk ?_ | refine g_cT rfl ?_ | refine g_cF rfl ?_ | refine g_x rfl ?_ | refine g_lb ?_))
    exact g_ret (q_1 rfl (h _ _ hS))
theorem rc72 (hS : St w0 S0 w (RefR S b D :: B)) (h : ∀ w' S', St w0 S0 w' (RefR S' b D.sync.1 :: B) → K (.int .i64 D.sync.2) w') : CK Try.prog 72 [dp b] w K := CK.ref hS rb72 h
end
end Go.Proofs.Ytegjocpjmfaigaa
namespace Go.Proofs.Ytegjocpjmfaigaa
open Go.En

section
variable {w w0 : World} {S0 S : Nat → Prop} {K : Value → World → Prop} {b : Nat} {D : Dev} {B L : List Res}
theorem lw_app (W : List (Int × Value × List UInt8)) (y : Int × Value × List UInt8) : lw (W ++ [y]) = lw W ++ [.int .i64 y.1, y.2.1] := by simp [lw]
set_option maxRecDepth 100000 in
theorem rb71 {i : Int} {v : Value} {E n : Nat} {bs : List UInt8} (hS : St w S0 w [RefR S b D]) (hb : Rd v E 1 n (bys bs) w) (hd : ∀ x, vb v x → ¬ S0 x) (hn : D.waits.length + 1 < 1152921504)
    (h : ∀ w' S', St w S0 w' [RefR S' b (D.write i bs).1] → K (.int .i64 (D.write i bs).2) w') : CK Try.prog 71 [dp b, .int .i64 i, v] w K := by
  have hlen : bs.length = n := by have := hb.len; simpa using this
  obtain ⟨av, cv, rfl⟩ := Rd.form hb
  refine call_k Try.func71 k71 Try.ntmps71 (Nat.le_of_ble_eq_true rfl) ?_
  obtain ⟨hwf, aC, cC, aL, cL, hB⟩ := RefR.blk hS
  (repeat (first | refine g_sq ?_ | refine g_rg ?_ | refine g_r0 ?_ | refine g_ok rfl rfl ?_ | refine g_no rfl ?_ | refine g_no0 rfl ?_ | refine g_bk ?_ | refine g_b ?_ | refine g_sk ?_ | refine g_cT rfl ?_ | refine g_cF rfl ?_ | refine g_x rfl ?_ | refine g_lb ?_))
  refine g_l1 rfl rfl hB rfl ?_
  (repeat (first | refine g_sq ?_ | refine g_rg ?_ | refine g_r0 ?_ | refine g_ok rfl rfl ?_ | refine g_no rfl ?_ | refine g_no0 rfl ?_ | refine g_bk ?_ | refine g_b ?_ | refine g_sk ?_ | refine g_cT rfl ?_ | refine g_cF rfl ?_ | refine g_x rfl ?_ | refine g_lb ?_))
  generalize hdn : D.down = dn
  cases dn
  · (repeat (first | refine g_sq ?_ | refine g_rg ?_ | refine g_r0 ?_ | refine g_ok rfl rfl ?_ | refine g_no rfl ?_ | refine g_no0 rfl ?_ | refine g_bk ?_ | refine g_b ?_ | refine g_sk ?_ | refine g_cT rfl ?_ | refine g_cF rfl ?_ | refine g_x rfl ?_ | refine g_lb ?_))
    have bad : ¬ ((0 ≤ i ∧ i < D.cells.length) ∧ bs.length ≤ 128) → D.write i bs = (D, 140) := fun hq => by simp [Dev.write, hdn, hq]
    generalize hg : cmv BinOp.lss i 0 = g
    cases g
    all_goals simp only [cmv, decide_eq_true_eq, decide_eq_false_iff_not] at hg
    · (repeat (first | refine g_sq ?_ | refine g_rg ?_ | refine g_r0 ?_ | refine g_ok rfl rfl ?_ | refine g_no rfl ?_ | refine g_no0 rfl ?_ | refine g_bk ?_ | refine g_b ?_ | refine g_sk ?_ | refine g_cT rfl ?_ | refine g_cF rfl ?_ | refine g_x rfl ?_ | refine g_lb ?_))
      refine g_l1 rfl rfl hB rfl ?_
      (repeat (first | refine g_sq ?_ | refine g_rg ?_ | refine g_r0 ?_ | refine g_ok rfl rfl ?_ | refine g_no rfl ?_ | refine g_no0 rfl ?_ | refine g_bk ?_ | refine g_b ?_ | refine g_sk ?_ | refine g_cT rfl ?_ | refine g_cF rfl ?_ | refine g_x rfl ?_ | refine g_lb ?_))
      generalize hg2 : cmv BinOp.geq i D.cells.length = g2
      cases g2
      all_goals simp only [cmv, decide_eq_true_eq, decide_eq_false_iff_not] at hg2
      · (repeat (first | refine g_sq ?_ | refine g_rg ?_ | refine g_r0 ?_ | refine g_ok rfl rfl ?_ | refine g_no rfl ?_ | refine g_no0 rfl ?_ | refine g_bk ?_ | refine g_b ?_ | refine g_sk ?_ | refine g_cT rfl ?_ | refine g_cF rfl ?_ | refine g_x rfl ?_ | refine g_lb ?_))
        refine g_cd rfl (fun hq => ?_) (fun hq => ?_)
        all_goals simp only [cmv, decide_eq_true_eq, decide_eq_false_iff_not] at hq
        · rw [bad (by omega)] at h
          (repeat (first | refine g_sq ?_ | refine g_rg ?_ | refine g_r0 ?_ | refine g_ok rfl rfl ?_ | refine g_no rfl ?_ | refine g_no0 rfl ?_ | refine g_bk ?_ | refine g_b ?_ | refine g_sk ?_ | refine g_cT rfl ?_ | refine g_cF rfl ?_ | refine g_x rfl ?_ | refine g_lb ?_))
          exact g_ret (q_1 rfl (h _ _ hS))
        · have hin : 0 ≤ i ∧ i < D.cells.length := by omega
          have hb128 : bs.length ≤ 128 := by omega
          have e : D.write i bs = (D.wr1 i bs).oper := by simp [Dev.write, hdn, hin, hb128]
          rw [e] at h
          clear hB
          (repeat (first | refine g_sq ?_ | refine g_rg ?_ | refine g_r0 ?_ | refine g_ok rfl rfl ?_ | refine g_no rfl ?_ | refine g_no0 rfl ?_ | refine g_bk ?_ | refine g_b ?_ | refine g_sk ?_ | refine g_cT rfl ?_ | refine g_cF rfl ?_ | refine g_x rfl ?_ | refine g_lb ?_))
          refine g_cl rfl rfl (b70 hb (bys_one _) (by omega) fun v1 w1 h' => ?_)
          have hS := hS.call0.2 w1 _ h'
          (repeat (first | refine g_sq ?_ | refine g_rg ?_ | refine g_r0 ?_ | refine g_ok rfl rfl ?_ | refine g_no rfl ?_ | refine g_no0 rfl ?_ | refine g_bk ?_ | refine g_b ?_ | refine g_sk ?_ | refine g_cT rfl ?_ | refine g_cF rfl ?_ | refine g_x rfl ?_ | refine g_lb ?_))
          refine g_lp (ι := Nat × Value) (fun p => [(0, dp b), (1, .int .i64 i), (7, p.2)])
            (fun p w1 => n ≤ p.1 ∧ p.1 ≤ 128 ∧ St w S0 w1 [RefR S b D, row p.2 5 1 p.1 (bys (bs ++ List.replicate (p.1 - n) 0))]) (fun p => 128 - p.1) (n, v1) ⟨rfl, rfl, rfl, trivial⟩ ⟨Nat.le_refl _, by omega, by rw [Nat.sub_self, List.replicate_zero, List.append_nil]; exact hS⟩ ?_
          clear hS
          rintro ⟨k, vk⟩ w1 ⟨hk1, hk2, hS⟩
          simp only at hk1 hk2
          obtain ⟨ak, ck, e7⟩ : ∃ ak ck, vk = .slice ak k ck := hS.rlen 1 rfl
          subst e7
          (repeat (first | refine g_sq ?_ | refine g_rg ?_ | refine g_r0 ?_ | refine g_ok rfl rfl ?_ | refine g_no rfl ?_ | refine g_no0 rfl ?_ | refine g_bk ?_ | refine g_b ?_ | refine g_sk ?_ | refine g_cT rfl ?_ | refine g_cF rfl ?_ | refine g_x rfl ?_ | refine g_lb ?_))
          refine g_cd rfl (fun hc => ?_) (fun hc => ?_)
          all_goals simp only [cmv, decide_eq_true_eq, decide_eq_false_iff_not] at hc
          · (repeat (first | refine g_sq ?_ | refine g_rg ?_ | refine g_r0 ?_ | refine g_ok rfl rfl ?_ | refine g_no rfl ?_ | refine g_no0 rfl ?_ | refine g_bk ?_ | refine g_b ?_ | refine g_sk ?_ | refine g_cT rfl ?_ | refine g_cF rfl ?_ | refine g_x rfl ?_ | refine g_lb ?_))
            refine g_ef rfl (ef_bl (rs := [.int .u8 0]) hS rfl fun g w1 hS => ?_)
            refine g_ef rfl (ef_ap (n := k) (m := 1) (ys := [.int .u8 0]) hS 1 rfl rfl rfl (.inl ⟨5, .inr ⟨g, 0, 1, _, rfl, Nat.le_refl _, Nat.le_refl _, rfl, (hS.b 2 rfl).r⟩⟩) rfl (by omega) (by omega) fun v' w1 hS => ?_)
            (repeat (first | refine g_sq ?_ | refine g_rg ?_ | refine g_r0 ?_ | refine g_ok rfl rfl ?_ | refine g_no rfl ?_ | refine g_no0 rfl ?_ | refine g_bk ?_ | refine g_b ?_ | refine g_sk ?_ | refine g_cT rfl ?_ | refine g_cF rfl ?_ | refine g_x rfl ?_ | refine g_lb ?_))
            refine g_l (k + 1, v') ⟨rfl, rfl, rfl, trivial⟩ ⟨by simp only; omega, by simp only; omega, ?_⟩ (by simp only; omega)
            have e8 : bys (bs ++ List.replicate (k - n) 0) ++ [.int .u8 0] = bys (bs ++ List.replicate (k + 1 - n) 0) := by
              rw [show k + 1 - n = (k - n) + 1 by omega, List.replicate_succ', bys_append, bys_append, bys_append, List.append_assoc]
              rfl
            simp only at hS ⊢
            rw [← e8]
            exact hS.sel [0, 1] rfl rfl
          · have e9 : k = 128 := by omega
            subst e9
            have hpad : bs ++ List.replicate (128 - n) 0 = pad bs := by rw [pad, hlen]
            simp only at hS
            rw [hpad] at hS
            have hpl := pad_len hb128
            obtain ⟨x, hx, hS⟩ := RefR.opn (B := [_]) hS
            obtain ⟨vC, vL, A, W⟩ := x
            have hwl : W.length = D.waits.length := hx.wl
            obtain ⟨aL, cL, rfl⟩ : ∃ aL cL, vL = .slice aL W.length cL := hS.rlen 2 rfl
            have hw' := hwf.wr1 hin hb128 hn
            have fin : ∀ {w' a' m' c' B'}, St w S0 w' (cel b (RefC vC (.slice a' m' c') D) 57 :: row vC 35 1 A.length (A.map (·.1)) :: row (.slice a' m' c') 147 2 (W.length + 1) (lw W ++ [.int .i64 i, .slice ak 128 ck]) :: pool (A ++ W.map (·.2) ++ [(.slice ak 128 ck, pad bs)]) :: B') → CK Try.prog 103 [dp b] w' fun v w1 => ∃ S', St w S0 w1 [RefR S' b (D.wr1 i bs).oper.1] ∧ v = .int .i64 (D.wr1 i bs).oper.2 := by
              intro w' a' m' c' B' hS
              have hS := hS.pool_sub (M' := A ++ (W ++ [((i, Value.slice ak 128 ck, pad bs) : Int × Value × List UInt8)]).map (·.2)) 3 rfl (fun q hq => by simpa [or_assoc] using hq)
              have el : (W ++ [((i, Value.slice ak 128 ck, pad bs) : Int × Value × List UInt8)]).length = W.length + 1 := by simp
              have ew := lw_app W (i, .slice ak 128 ck, pad bs)
              simp only at ew
              rw [← el, ← ew] at hS
              obtain ⟨S', hS⟩ := RefR.cls (x := ⟨vC, .slice a' m' c', A, W ++ [(i, Value.slice ak 128 ck, pad bs)]⟩) (D := D.wr1 i bs) (b := b) ⟨hw', hx.2.1, by
                have := hx.2.2
                simp only at this
                simp [Dev.wr1, this]⟩ hS
              exact rc103 hS fun w1 S1 hS => ⟨S1, hS.sel [0] rfl rfl, rfl⟩
            have hS := hS.pool_add (bs := pad bs) (v := .slice ak 128 ck) 3 4 rfl (by rw [hpl]; rfl) (by decide)
            (repeat (first | refine g_sq ?_ | refine g_rg ?_ | refine g_r0 ?_ | refine g_ok rfl rfl ?_ | refine g_no rfl ?_ | refine g_no0 rfl ?_ | refine g_bk ?_ | refine g_b ?_ | refine g_sk ?_ | refine g_cT rfl ?_ | refine g_cF rfl ?_ | refine g_x rfl ?_ | refine g_lb ?_))
            refine g_l1 rfl rfl (hS.b  0 rfl) rfl ?_
            (repeat (first | refine g_sq ?_ | refine g_rg ?_ | refine g_r0 ?_ | refine g_ok rfl rfl ?_ | refine g_no rfl ?_ | refine g_no0 rfl ?_ | refine g_bk ?_ | refine g_b ?_ | refine g_sk ?_ | refine g_cT rfl ?_ | refine g_cF rfl ?_ | refine g_x rfl ?_ | refine g_lb ?_))
            refine g_ef rfl (ef_bl (rs := [.int .i64 i, .slice ak 128 ck]) hS rfl fun g w1 hS => ?_)
            refine g_ef rfl (ef_ap (n := W.length) (m := 1) (ys := [.int .i64 i, .slice ak 128 ck]) hS 2 rfl rfl rfl (.inl ⟨147, .inr ⟨g, 0, 1, _, rfl, Nat.le_refl _, Nat.le_refl _, rfl, (hS.b 5 rfl).r⟩⟩) rfl (by omega) (by omega) fun v' w1 hS => ?_)
            obtain ⟨a', c', rfl⟩ := hS.rlen 2 rfl
            (repeat (first | refine g_sq ?_ | refine g_rg ?_ | refine g_r0 ?_ | refine g_ok rfl rfl ?_ | refine g_no rfl ?_ | refine g_no0 rfl ?_ | refine g_bk ?_ | refine g_b ?_ | refine g_sk ?_ | refine g_cT rfl ?_ | refine g_cF rfl ?_ | refine g_x rfl ?_ | refine g_lb ?_))
            refine g_ef0 rfl (ef_st hS 0 rfl rfl rfl rfl (Nat.le_of_ble_eq_true rfl) rfl fun w1 hS => ?_)
            (repeat (first | refine g_sq ?_ | refine g_rg ?_ | refine g_r0 ?_ | refine g_ok rfl rfl ?_ | refine g_no rfl ?_ | refine g_no0 rfl ?_ | refine g_bk ?_ | refine g_b ?_ | refine g_sk ?_ | refine g_cT rfl ?_ | refine g_cF rfl ?_ | refine g_x rfl ?_ | refine g_lb ?_))
            refine g_cl rfl rfl ((fin (hS.sel [0, 1, 2, 3] rfl rfl)).mono ?_)
            rintro v w1 ⟨S', hS, rfl⟩
            (repeat (first | refine g_sq ?_ | refine g_rg ?_ | refine g_r0 ?_ | refine g_ok rfl rfl ?_ | refine g_no rfl ?_ | refine g_no0 rfl ?_ | refine g_bk ?_ | refine g_b ?_ | refine g_sk ?_ | refine g_cT rfl ?_ | refine g_cF rfl ?_ | refine g_x rfl ?_ | refine g_lb ?_))
            exact g_ret (q_1 rfl (h _ _ hS))
      · rw [bad (by omega)] at h
        (repeat (first | refine g_sq ?_ | refine g_rg ?_ | refine g_r0 ?_ | refine g_ok rfl rfl ?_ | refine g_no rfl ?_ | refine g_no0 rfl ?_ | refine g_bk ?_ | refine g_b ?_ | refine g_sk ?_ | refine g_cT rfl ?_ | refine g_cF rfl ?_ | refine g_x rfl ?_ | refine g_lb ?_))
        exact g_ret (q_1 rfl (h _ _ hS))
    · rw [bad (by omega)] at h
      (repeat (first | refine g_sq ?_ | refine g_rg ?_ | refine g_r0 ?_ | refine g_ok rfl rfl ?_ | refine g_no rfl ?_ | refine g_no0 rfl ?_ | refine g_bk ?_ | refine g_b ?_ | refine g_sk ?_ | refine g_cT rfl ?_ | refine g_cF rfl ?_ | refine g_x rfl ?_ | refine g_lb ?_))
      exact g_ret (q_1 rfl (h _ _ hS))
  · have e : D.write i bs = (D, 141) := by simp [Dev.write, hdn]
    rw [e] at h
    (repeat (first | refine g_sq ?_ | refine g_rg ?_ | refine g_r0 ?_ | refine g_ok rfl rfl ?_ | refine g_no rfl ?_ | refine g_no0 rfl ?_ | refine g_bk ?_ | refine g_b ?_ | refine g_sk ?_ | refine g_cT rfl ?_ | refine g_cF rfl ?_ | refine g_x rfl ?_ | refine g_lb ?_))
    exact g_ret (q_1 rfl (h _ _ hS))
theorem rc71 {i : Int} {v : Value} {E n : Nat} {bs : List UInt8} (hS : St w0 S0 w (RefR S b D :: B)) (hb : Rd v E 1 n (bys bs) w) (hd : ∀ x, vb v x → ¬ S x) (hn : D.waits.length + 1 < 1152921504)
    (h : ∀ w' S', St w0 S0 w' (RefR S' b (D.write i bs).1 :: B) → K (.int .i64 (D.write i bs).2) w') : CK Try.prog 71 [dp b, .int .i64 i, v] w K := by
  have hf := St.frame (A := [RefR S b D]) (B := B) hS
  refine rb71 hf.1 hb (fun x hx => ?_) hn fun w' S' h' => h w' S' (hf.2 w' _ h')
  rintro ⟨j, r, hj, hr⟩
  cases j with
  | zero => simp at hj; subst hj; exact hd x hx hr
  | succ j => simp at hj
end
end Go.Proofs.Ytegjocpjmfaigaa
namespace Go.Proofs.Ytegjocpjmfaigaa
open Go.En

theorem lw_one {W : List (Int × Value × List UInt8)} (h : ∀ y ∈ W, ∃ a n c, y.2.1 = .slice a n c) : (lw W).all (·.oneCell') = true := by
  rw [List.all_eq_true]
  intro v hv
  simp only [lw, List.mem_flatten, List.mem_map] at hv
  obtain ⟨l, ⟨x, hx, rfl⟩, hv⟩ := hv
  obtain ⟨a, n, c, e⟩ := h x hx
  simp only [List.mem_cons, List.not_mem_nil, or_false] at hv
  rcases hv with rfl | rfl
  · rfl
  · rw [e]; rfl
theorem cA_one {A : List (Value × List UInt8)} (h : ∀ y ∈ A, ∃ a n c, y.1 = .slice a n c) : (A.map (·.1)).all (·.oneCell') = true := by
  rw [List.all_eq_true]
  intro v hv
  simp only [List.mem_map] at hv
  obtain ⟨x, hx, rfl⟩ := hv
  obtain ⟨a, n, c, e⟩ := h x hx
  rw [e]; rfl
section
variable {w w0 : World} {S0 S : Nat → Prop} {K : Value → World → Prop} {b : Nat} {D : Dev} {B L : List Res}
set_option maxRecDepth 100000 in
theorem rb77 (hl : D.cells.length ≤ 4096) (hS : St w0 S0 w [RefR S b D]) (h : ∀ w' S2 b2, St w0 S0 w' [RefR S2 b2 D] → K (dp b2) w') : CK Try.prog 77 [dp b] w K := by
  obtain ⟨x, hx, hS⟩ := RefR.opn hS
  obtain ⟨vC, vL, A, W⟩ := x
  have hcl : A.length = D.cells.length := hx.cl
  have hwl : W.length = D.waits.length := hx.wl
  have hwn := hx.1.2.2.2
  have hpool := hS.ok 3 _ rfl
  have hA1 : ∀ y ∈ A, ∃ a n c, y.1 = .slice a n c := fun y hy => by
    obtain ⟨a, c, e⟩ := Rd.form (hpool y (List.mem_append_left _ hy)); exact ⟨_, _, _, e⟩
  have hW1 : ∀ y ∈ W, ∃ a n c, y.2.1 = .slice a n c := fun y hy => by
    obtain ⟨a, c, e⟩ := Rd.form (hpool y.2 (List.mem_append_right _ (List.mem_map.2 ⟨y, hy, rfl⟩))); exact ⟨_, _, _, e⟩
  clear hpool
  refine call_k Try.func77 k77 Try.ntmps77 (Nat.le_of_ble_eq_true rfl) ?_
  (repeat (first | refine g_sq ?_ | refine g_rg ?_ | refine g_r0 ?_ | refine g_ok rfl rfl ?_ | refine g_no rfl ?_ | refine g_no0 rfl ?_ | refine g_bk ?_ | refine g_b ?_ | refine g_sk ?_ | refine g_cT rfl ?_ | refine g_cF rfl ?_ | refine g_x rfl ?_ | refine g_lb ?_))
  refine g_dr mixed ?_
  have hS := hS.drew
  (repeat (first | refine d_ok rfl rfl rfl ?_ | refine d_no rfl rfl ?_))
  refine d_l1 rfl rfl rfl (hS.b 0 rfl) rfl ?_
  (repeat (first | refine d_ok rfl rfl rfl ?_ | refine d_no rfl rfl ?_))
  refine d_l1 rfl rfl rfl (hS.b 0 rfl) rfl ?_
  (repeat (first | refine d_ok rfl rfl rfl ?_ | refine d_no rfl rfl ?_))
  refine d_l1 rfl rfl rfl (hS.b 0 rfl) rfl ?_
  (repeat (first | refine d_ok rfl rfl rfl ?_ | refine d_no rfl rfl ?_))
  refine d_lm rfl rfl rfl (hS.b 0 rfl) (Nat.le_of_ble_eq_true rfl) ?_
  (repeat (first | refine d_ok rfl rfl rfl ?_ | refine d_no rfl rfl ?_))
  refine d_e rfl rfl ?_
  refine ef_bx hS rfl fun g w hS => ⟨rc_0, ?_⟩
  (repeat (first | refine d_ok rfl rfl rfl ?_ | refine d_no rfl rfl ?_))
  refine d_fin ?_
  refine g_sq ?_
  refine g_dr mixed ?_
  have hS := (hS.drew).nilrow 35 1
  (repeat (first | refine d_ok rfl rfl rfl ?_ | refine d_no rfl rfl ?_))
  refine d_l1 rfl rfl rfl (hS.b 4 rfl) rfl ?_
  (repeat (first | refine d_ok rfl rfl rfl ?_ | refine d_no rfl rfl ?_))
  refine d_l1 rfl rfl rfl (hS.b 0 rfl) rfl ?_
  refine d_e rfl rfl ?_
  refine ef_ap (n := 0) (m := A.length) (xs := []) hS 5 rfl rfl rfl (.inl ⟨35, Ow.rd (hS.ok 1 _ rfl)⟩) (cA_one hA1) (by omega) (by omega) fun v1 w hS => ⟨rc_0, ?_⟩
  rw [show 0 + A.length = A.length from Nat.zero_add _, List.nil_append] at hS
  obtain ⟨a1, c1, rfl⟩ := hS.rlen 5 rfl
  (repeat (first | refine d_ok rfl rfl rfl ?_ | refine d_no rfl rfl ?_))
  refine d_e0 rfl rfl ?_
  refine ef_st hS 4 rfl rfl rfl rfl (Nat.le_of_ble_eq_true rfl) rfl fun w hS => ⟨rc_0, ?_⟩
  refine d_fin ?_
  refine g_sq ?_
  refine g_dr mixed ?_
  have hS := (hS.drew).nilrow 147 2
  (repeat (first | refine d_ok rfl rfl rfl ?_ | refine d_no rfl rfl ?_))
  refine d_l1 rfl rfl rfl (hS.b 4 rfl) rfl ?_
  (repeat (first | refine d_ok rfl rfl rfl ?_ | refine d_no rfl rfl ?_))
  refine d_l1 rfl rfl rfl (hS.b 0 rfl) rfl ?_
  refine d_e rfl rfl ?_
  refine ef_ap (n := 0) (m := W.length) (xs := []) hS 6 rfl rfl rfl (.inl ⟨147, Ow.rd (hS.ok 2 _ rfl)⟩) (lw_one hW1) (by omega) (by omega) fun v2 w hS => ⟨rc_0, ?_⟩
  rw [show 0 + W.length = W.length from Nat.zero_add _, List.nil_append] at hS
  obtain ⟨a2, c2, rfl⟩ := hS.rlen 6 rfl
  (repeat (first | refine d_ok rfl rfl rfl ?_ | refine d_no rfl rfl ?_))
  refine d_e0 rfl rfl ?_
  refine ef_st hS 4 rfl rfl rfl rfl (Nat.le_of_ble_eq_true rfl) rfl fun w hS => ⟨rc_0, ?_⟩
  refine d_fin ?_
  (repeat (first | refine g_sq ?_ | refine g_rg ?_ | refine g_r0 ?_ | refine g_ok rfl rfl ?_ | refine g_no rfl ?_ | refine g_no0 rfl ?_ | refine g_bk ?_ | refine g_b ?_ | refine g_sk ?_ | refine g_cT rfl ?_ | refine g_cF rfl ?_ | refine g_x rfl ?_ | refine g_lb ?_))
  have hS := hS.sel [4, 5, 6, 3] rfl rfl
  obtain ⟨S', hS⟩ := RefR.cls (x := ⟨.slice a1 A.length c1, .slice a2 W.length c2, A, W⟩) (D := D) (B := []) (b := g) hx hS
  exact g_ret (q_1 rfl (h _ _ _ hS))
theorem rc77 (hl : D.cells.length ≤ 4096) (hS : St w0 S0 w (RefR S b D :: B)) (h : ∀ w' S2 b2, St w0 S0 w' (RefR S2 b2 D :: B) → K (dp b2) w') : CK Try.prog 77 [dp b] w K :=
  rb77 hl (St.frame (A := [RefR S b D]) (B := B) hS).1 fun w' S2 b2 h' => h w' S2 b2 ((St.frame (A := [RefR S b D]) (B := B) hS).2 w' [RefR S2 b2 D] h')

set_option maxRecDepth 100000 in
theorem rb19 {n : Int} (h1 : ¬ (1 ≤ n ∧ n ≤ 4096) → K (.tuple ⟨[.pointer none, .int .i64 2]⟩) w) (h2 : 1 ≤ n ∧ n ≤ 4096 → ∀ w' S b, St w (fun _ => False) w' [RefR S b (Dev.new n.toNat)] → K (.tuple ⟨[dp b, .int .i64 0]⟩) w') : CK Try.prog 19 [.int .i64 n] w K := by
  refine call_k Try.func19 k19 Try.ntmps19 (Nat.le_of_ble_eq_true rfl) ?_
  (repeat (first | refine g_sq ?_ | refine g_rg ?_ | refine g_r0 ?_ | refine g_ok rfl rfl ?_ | refine g_no rfl ?_ | refine g_no0 rfl ?_ | refine g_bk ?_ | refine g_b ?_ | refine g_sk ?_ | refine g_cT rfl ?_ | refine g_cF rfl ?_ | refine g_x rfl ?_ | refine g_lb ?_))
  generalize hg : cmv BinOp.lss n 1 = g
  cases g
  all_goals simp only [cmv, decide_eq_true_eq, decide_eq_false_iff_not] at hg
  · (repeat (first | refine g_sq ?_ | refine g_rg ?_ | refine g_r0 ?_ | refine g_ok rfl rfl ?_ | refine g_no rfl ?_ | refine g_no0 rfl ?_ | refine g_bk ?_ | refine g_b ?_ | refine g_sk ?_ | refine g_cT rfl ?_ | refine g_cF rfl ?_ | refine g_x rfl ?_ | refine g_lb ?_))
    refine g_cd rfl (fun hq => ?_) (fun hq => ?_)
    all_goals simp only [cmv, decide_eq_true_eq, decide_eq_false_iff_not] at hq
    · (repeat (first | refine g_sq ?_ | refine g_rg ?_ | refine g_r0 ?_ | refine g_ok rfl rfl ?_ | refine g_no rfl ?_ | refine g_no0 rfl ?_ | refine g_bk ?_ | refine g_b ?_ | refine g_sk ?_ | refine g_cT rfl ?_ | refine g_cF rfl ?_ | refine g_x rfl ?_ | refine g_lb ?_))
      exact g_ret (q_2 rfl rfl (h1 (by omega)))
    · have hn : 1 ≤ n ∧ n ≤ 4096 := by omega
      (repeat (first | refine g_sq ?_ | refine g_rg ?_ | refine g_r0 ?_ | refine g_ok rfl rfl ?_ | refine g_no rfl ?_ | refine g_no0 rfl ?_ | refine g_bk ?_ | refine g_b ?_ | refine g_sk ?_ | refine g_cT rfl ?_ | refine g_cF rfl ?_ | refine g_x rfl ?_ | refine g_lb ?_))
      refine g_ef rfl (ef_bx (St.nil w (fun _ => False)) rfl fun b w1 hS => ?_)
      (repeat (first | refine g_sq ?_ | refine g_rg ?_ | refine g_r0 ?_ | refine g_ok rfl rfl ?_ | refine g_no rfl ?_ | refine g_no0 rfl ?_ | refine g_bk ?_ | refine g_b ?_ | refine g_sk ?_ | refine g_cT rfl ?_ | refine g_cF rfl ?_ | refine g_x rfl ?_ | refine g_lb ?_))
      have z0 : Dev.new 0 = ⟨[], [], false, 0, ⟨0, 0, 0⟩, 0⟩ := rfl
      have hS := ((hS.nilrow 35 1).nilrow 147 2)
      have hS : St w (fun _ => False) w1 ([cel b (RefC (.slice none 0 0) (.slice none 0 0) (Dev.new 0)) 57, row (.slice none 0 0) 35 1 0 [], row (.slice none 0 0) 147 2 0 []] ++ [pool []]) := by
        refine St.new (St.sel hS [0, 1, 2] rfl rfl) (Fr.refl _ _) (fun b ⟨p, hp, _⟩ => nomatch hp) (fun b ⟨p, hp, _⟩ => nomatch hp) (fun p hp => nomatch hp)
      refine g_lp (ι := Nat × List (Value × List UInt8)) (fun p => [(0, .int .i64 n), (4, dp b), (5, .int .i64 p.1)])
        (fun p w1 => (p.1 : Int) ≤ n ∧ p.2.length = p.1 ∧ p.2.map (·.2) = List.replicate p.1 (List.replicate 128 0) ∧ ∃ vC, St w (fun _ => False) w1 [cel b (RefC vC (.slice none 0 0) (Dev.new 0)) 57, row vC 35 1 p.1 (p.2.map (·.1)), row (.slice none 0 0) 147 2 0 [], pool p.2]) (fun p => n.toNat - p.1) (0, []) ⟨rfl, rfl, rfl, trivial⟩ ⟨by simp only; omega, rfl, rfl, _, hS⟩ ?_
      clear hS
      rintro ⟨k, A⟩ w1 ⟨hk, hA, hA2, vC, hS⟩
      simp only at hk hA hA2 hS
      obtain ⟨aC, cC, rfl⟩ := hS.rlen 1 rfl
      (repeat (first | refine g_sq ?_ | refine g_rg ?_ | refine g_r0 ?_ | refine g_ok rfl rfl ?_ | refine g_no rfl ?_ | refine g_no0 rfl ?_ | refine g_bk ?_ | refine g_b ?_ | refine g_sk ?_ | refine g_cT rfl ?_ | refine g_cF rfl ?_ | refine g_x rfl ?_ | refine g_lb ?_))
      refine g_cd rfl (fun hc => ?_) (fun hc => ?_)
      all_goals simp only [cmv, decide_eq_true_eq, decide_eq_false_iff_not] at hc
      · (repeat (first | refine g_sq ?_ | refine g_rg ?_ | refine g_r0 ?_ | refine g_ok rfl rfl ?_ | refine g_no rfl ?_ | refine g_no0 rfl ?_ | refine g_bk ?_ | refine g_b ?_ | refine g_sk ?_ | refine g_cT rfl ?_ | refine g_cF rfl ?_ | refine g_x rfl ?_ | refine g_lb ?_))
        refine g_dr mixed ?_
        have hS := hS.drew
        (repeat (first | refine d_ok rfl rfl rfl ?_ | refine d_no rfl rfl ?_))
        refine d_l1 rfl rfl rfl (hS.b 0 rfl) rfl ?_
        refine d_e rfl rfl ?_
        refine ef_ms hS rfl rfl (by decide) (by decide) (by decide) (by decide) fun g1 w2 hS => ⟨rc_1 rfl rfl rfl rfl (hS.b 0 rfl) rfl rc_0, ?_⟩
        refine d_e rfl rfl ?_
        refine ef_bl (rs := [.slice (some ⟨g1, 0, none⟩) 128 128]) hS rfl fun g2 w2 hS => ⟨rc_1 rfl rfl rfl rfl (hS.b 0 rfl) rfl rc_0, ?_⟩
        refine d_e rfl rfl ?_
        refine ef_ap (n := k) (m := 1) (ys := [.slice (some ⟨g1, 0, none⟩) 128 128]) hS 1 rfl rfl rfl (.inl ⟨35, .inr ⟨g2, 0, 1, _, rfl, Nat.le_refl _, Nat.le_refl _, rfl, (hS.b 5 rfl).r⟩⟩) rfl (by omega) (by omega) fun v' w2 hS => ⟨rc_0, ?_⟩
        obtain ⟨a', c', rfl⟩ := hS.rlen 1 rfl
        (repeat (first | refine d_ok rfl rfl rfl ?_ | refine d_no rfl rfl ?_))
        refine d_e0 rfl rfl ?_
        refine ef_st hS 0 rfl rfl rfl rfl (Nat.le_of_ble_eq_true rfl) rfl fun w2 hS => ⟨rc_0, ?_⟩
        refine d_fin ?_
        (repeat (first | refine g_sq ?_ | refine g_rg ?_ | refine g_r0 ?_ | refine g_ok rfl rfl ?_ | refine g_no rfl ?_ | refine g_no0 rfl ?_ | refine g_bk ?_ | refine g_b ?_ | refine g_sk ?_ | refine g_cT rfl ?_ | refine g_cF rfl ?_ | refine g_x rfl ?_ | refine g_lb ?_))
        refine g_rq rfl rfl (in64 (by simp only [arv]; omega)) ?_
        (repeat (first | refine g_sq ?_ | refine g_rg ?_ | refine g_r0 ?_ | refine g_ok rfl rfl ?_ | refine g_no rfl ?_ | refine g_no0 rfl ?_ | refine g_bk ?_ | refine g_b ?_ | refine g_sk ?_ | refine g_cT rfl ?_ | refine g_cF rfl ?_ | refine g_x rfl ?_ | refine g_lb ?_))
        have e : rep (Int.toNat 128) [(1, .int .u8 0)] = bys (List.replicate 128 0) := by
          rw [rep_byte, ← bys_rep]; rfl
        have hS := hS.ceq 4 rfl e
        have hS := hS.close_row (sz := 1) (n := 128) (cap := 128) 4 rfl (Nat.le_refl _) (by simp) (List.prefix_refl _) (by simp)
        have hS := hS.pool_add (bs := List.replicate 128 0) (v := .slice (some ⟨g1, 0, none⟩) 128 128) 3 4 rfl (by rw [List.length_replicate]; rfl) (by decide)
        refine g_l (k + 1, A ++ [(.slice (some ⟨g1, 0, none⟩) 128 128, List.replicate 128 0)]) ⟨rfl, rfl, rfl, trivial⟩ ⟨by simp only; omega, by simp only [List.length_append, hA]; rfl, ?_, ⟨.slice a' (k + 1) c', ?_⟩⟩ (by simp only; omega)
        · simp only [List.map_append, hA2, List.map_cons, List.map_nil, List.replicate_succ']
        · simp only [List.map_append, List.map_cons, List.map_nil]
          exact hS.sel [0, 1, 2, 3] rfl rfl
      · have hkn : k = n.toNat := by omega
        subst hkn
        (repeat (first | refine g_sq ?_ | refine g_rg ?_ | refine g_r0 ?_ | refine g_ok rfl rfl ?_ | refine g_no rfl ?_ | refine g_no0 rfl ?_ | refine g_bk ?_ | refine g_b ?_ | refine g_sk ?_ | refine g_cT rfl ?_ | refine g_cF rfl ?_ | refine g_x rfl ?_ | refine g_lb ?_))
        have hw := Dev.new_wf (n := n.toNat) (by omega)
        rw [← hA] at hS
        have hS := hS.pool_sub (M' := A ++ []) 3 rfl (by simp)
        obtain ⟨S', hS⟩ := RefR.cls (x := ⟨.slice aC A.length cC, .slice none 0 0, A, []⟩) (D := Dev.new n.toNat) (B := []) (b := b) ⟨hw, hA2, rfl⟩ hS
        exact g_ret (q_2 rfl rfl (h2 hn _ _ _ hS))
  · (repeat (first | refine g_sq ?_ | refine g_rg ?_ | refine g_r0 ?_ | refine g_ok rfl rfl ?_ | refine g_no rfl ?_ | refine g_no0 rfl ?_ | refine g_bk ?_ | refine g_b ?_ | refine g_sk ?_ | refine g_cT rfl ?_ | refine g_cF rfl ?_ | refine g_x rfl ?_ | refine g_lb ?_))
    exact g_ret (q_2 rfl rfl (h1 (by omega)))
theorem rc19 {n : Int} (hS : St w0 S0 w L) (h1 : ¬ (1 ≤ n ∧ n ≤ 4096) → K (.tuple ⟨[.pointer none, .int .i64 2]⟩) w) (h2 : 1 ≤ n ∧ n ≤ 4096 → ∀ w' S b, St w0 S0 w' (L ++ [RefR S b (Dev.new n.toNat)]) → K (.tuple ⟨[dp b, .int .i64 0]⟩) w') : CK Try.prog 19 [.int .i64 n] w K :=
  rb19 h1 fun hn w' S b h' => h2 hn w' S b (hS.call0.2 w' _ h')
end
end Go.Proofs.Ytegjocpjmfaigaa
