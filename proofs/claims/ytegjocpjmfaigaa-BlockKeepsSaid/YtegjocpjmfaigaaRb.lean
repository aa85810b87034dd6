/- The document's device as one resource. -/
import Derived.Test.YtegjocpjmfaigaaRa
set_option linter.unusedSimpArgs false
set_option linter.unusedVariables false
namespace Go.En
section
variable {w w0 : World} {S0 : Nat → Prop} {L : List Res}
theorem sel_len {L : List Res} : ∀ {is : List Nat} {R : List Res}, sel L is = some R → R.length = is.length ∧ ∀ i, i ∈ is → i < L.length
  | [], R, h => by simp [sel] at h; subst h; simp
  | i :: is, R, h => by
    simp only [sel] at h
    split at h
    · rename_i r0 R0 h1 h2
      cases h
      obtain ⟨e, k⟩ := sel_len h2
      refine ⟨by simp [e], fun j hj => ?_⟩
      rcases List.mem_cons.1 hj with rfl | hj
      · exact (List.getElem?_eq_some_iff.1 h1).1
      · exact k j hj
    · cases h
/-- the first ones picked, the others kept -/
theorem St.selB {A B A' : List Res} (hS : St w0 S0 w (A ++ B)) (is : List Nat) (h : En.sel A is = some A') (hn : nodB is = true) : St w0 S0 w (A' ++ B) := by
  obtain ⟨hl, hlt⟩ := sel_len h
  refine hS.pick (is ++ (List.range B.length).map (· + A.length)) _ ?_ ?_
  · intro k r hk
    by_cases e : k < A'.length
    · rw [List.getElem?_append_left e] at hk
      obtain ⟨i, h1, h2⟩ := sel_get h k r hk
      refine ⟨i, ?_, ?_⟩
      · rw [List.getElem?_append_left (by omega)]; exact h1
      · rw [List.getElem?_append_left (List.getElem?_eq_some_iff.1 h2).1]; exact h2
    · rw [List.getElem?_append_right (by omega)] at hk
      have hb := (List.getElem?_eq_some_iff.1 hk).1
      refine ⟨k - A'.length + A.length, ?_, ?_⟩
      · rw [List.getElem?_append_right (by omega), ← hl]
        simp [hb]
      · rw [List.getElem?_append_right (by omega), Nat.add_sub_cancel]; exact hk
  · rw [List.nodup_append]
    refine ⟨nodB_ok hn, List.Pairwise.map _ (fun a b h => by omega) List.nodup_range, ?_⟩
    intro i hi j hj
    simp only [List.mem_map, List.mem_range] at hj
    obtain ⟨k, _, rfl⟩ := hj
    have := hlt i hi
    omega
end
end Go.En
namespace Go.Proofs.Ytegjocpjmfaigaa
open Go.En

structure RI where
  vC : Value
  vL : Value
  A : List (Value × List UInt8)
  W : List (Int × Value × List UInt8)
def lw (W : List (Int × Value × List UInt8)) : List Value := (W.map fun x => [.int .i64 x.1, x.2.1]).flatten
def RefC (vC vL : Value) (D : Dev) : List Value := [vC, vL, .bool D.down, .int .i64 D.many, .int .i64 D.since, .int .i64 D.fall.a, .int .i64 D.fall.k, .int .i64 D.fall.t]
def RI.fits (x : RI) (D : Dev) : Prop := D.wf ∧ x.A.map (·.2) = D.cells ∧ x.W.map (fun y => (y.1, y.2.2)) = D.waits
def RefB (b : Nat) (D : Dev) (x : RI) : Res := ((cel b (RefC x.vC x.vL D) 57).and ((row x.vC 35 1 x.A.length (x.A.map (·.1))).and ((row x.vL 147 2 x.W.length (lw x.W)).and (pool (x.A ++ x.W.map (·.2)))))).when (x.fits D)
def RefR (S : Nat → Prop) (b : Nat) (D : Dev) : Res := Ex S (RefB b D)
theorem lw_len (W : List (Int × Value × List UInt8)) : (lw W).length = W.length * 2 := by
  rw [lw, flat_len (k := 2) (fun l hl => by simp only [List.mem_map] at hl; obtain ⟨x, _, rfl⟩ := hl; rfl), List.length_map]
theorem RI.fits.cl {x : RI} {D : Dev} (h : x.fits D) : x.A.length = D.cells.length := by rw [← h.2.1, List.length_map]
theorem RI.fits.wl {x : RI} {D : Dev} (h : x.fits D) : x.W.length = D.waits.length := by rw [← h.2.2, List.length_map]

section
variable {w w0 : World} {S0 S : Nat → Prop} {K : Value → World → Prop} {b : Nat} {D : Dev} {B L : List Res}
theorem RefR.opn (hS : St w0 S0 w (RefR S b D :: B)) : ∃ x : RI, x.fits D ∧ St w0 S0 w (cel b (RefC x.vC x.vL D) 57 :: row x.vC 35 1 x.A.length (x.A.map (·.1)) :: row x.vL 147 2 x.W.length (lw x.W) :: pool (x.A ++ x.W.map (·.2)) :: B) := by
  obtain ⟨x, hS⟩ := hS.ex 0 rfl
  obtain ⟨hw, hS⟩ := hS.cond 0 rfl
  refine ⟨x, hw, ?_⟩
  have hS := (hS.split 0 rfl).front
  have hS := (hS.split 0 rfl).front
  have hS := (hS.split 0 rfl).front
  exact hS.selB (A := [_, _, _, _]) (B := B) [3, 2, 1, 0] rfl rfl
theorem RefR.cls {x : RI} (hw : x.fits D) (hS : St w0 S0 w (cel b (RefC x.vC x.vL D) 57 :: row x.vC 35 1 x.A.length (x.A.map (·.1)) :: row x.vL 147 2 x.W.length (lw x.W) :: pool (x.A ++ x.W.map (·.2)) :: B)) : ∃ S', St w0 S0 w (RefR S' b D :: B) := by
  have hS := hS.merge 2 3 rfl rfl (by decide)
  have hS := hS.merge 1 2 rfl rfl (by decide)
  have hS := hS.merge 0 1 rfl rfl (by decide)
  have hS := hS.toWhen (p := x.fits D) 0 rfl hw
  obtain ⟨S', hS⟩ := hS.toEx (F := RefB b D) (x := x) 0 rfl
  refine ⟨S', ?_⟩
  have hS : St w0 S0 w (RefR S' b D :: emp :: emp :: emp :: B) := hS
  exact St.sub (A := [RefR S' b D]) ((List.sublist_cons_self _ _).trans ((List.sublist_cons_self _ _).trans (List.sublist_cons_self _ _))) hS
theorem RefR.blk (hS : St w0 S0 w (RefR S b D :: B)) : D.wf ∧ ∃ aC cC aL cL, Blk w b (RefC (.slice aC D.cells.length cC) (.slice aL D.waits.length cL) D) 57 := by
  obtain ⟨x, hw, hS⟩ := RefR.opn hS
  obtain ⟨aC, cC, e1⟩ := hS.rlen 1 rfl
  obtain ⟨aL, cL, e2⟩ := hS.rlen 2 rfl
  refine ⟨hw.1, aC, cC, aL, cL, ?_⟩
  have := hS.b 0 rfl
  rw [e1, e2, hw.cl, hw.wl] at this
  exact this
theorem CK.ref {f : FuncId} {args : List Value} {v : Value} {D' : Dev} (hS : St w0 S0 w (RefR S b D :: B)) (base : ∀ {w1 : World} {S1 : Nat → Prop} {K : Value → World → Prop}, St w1 S1 w [RefR S b D] → (∀ w' S', St w1 S1 w' [RefR S' b D'] → K v w') → CK Try.prog f args w K)
    (h : ∀ w' S', St w0 S0 w' (RefR S' b D' :: B) → K v w') : CK Try.prog f args w K :=
  base (St.frame (A := [RefR S b D]) (B := B) hS).1 fun w' S' h' => h w' S' ((St.frame (A := [RefR S b D]) (B := B) hS).2 w' [RefR S' b D'] h')

theorem rb76 (hS : St w0 S0 w [RefR S b D]) (h : ∀ w' S', St w0 S0 w' [RefR S' b D.boot] → K (.tuple ⟨[]⟩) w') : CK Try.prog 76 [dp b] w K := by
  obtain ⟨x, hw, hS⟩ := RefR.opn hS
  refine call_k Try.func76 k76 Try.ntmps76 (Nat.le_of_ble_eq_true rfl) ?_
  (repeat (first | refine g_sq ?_ | refine g_rg ?_ | refine g_r0 ?_ | refine g_ok rfl rfl ?_ | refine g_no rfl ?_ | refine g_no0 rfl ?_ | refine g_bk ?_ | refine g_b ?_ | refine g_sk ?_ | refine g_cT rfl ?_ | refine g_cF rfl ?_ | refine g_x rfl ?_ | refine g_lb ?_))
  refine g_ef0 rfl (ef_st hS 0 rfl rfl rfl rfl (Nat.le_of_ble_eq_true rfl) rfl fun w hS => ?_)
  (repeat (first | refine g_sq ?_ | refine g_rg ?_ | refine g_r0 ?_ | refine g_ok rfl rfl ?_ | refine g_no rfl ?_ | refine g_no0 rfl ?_ | refine g_bk ?_ | refine g_b ?_ | refine g_sk ?_ | refine g_cT rfl ?_ | refine g_cF rfl ?_ | refine g_x rfl ?_ | refine g_lb ?_))
  refine g_ef0 rfl (ef_st hS 0 rfl rfl rfl rfl (Nat.le_of_ble_eq_true rfl) rfl fun w hS => ?_)
  (repeat (first | refine g_sq ?_ | refine g_rg ?_ | refine g_r0 ?_ | refine g_ok rfl rfl ?_ | refine g_no rfl ?_ | refine g_no0 rfl ?_ | refine g_bk ?_ | refine g_b ?_ | refine g_sk ?_ | refine g_cT rfl ?_ | refine g_cF rfl ?_ | refine g_x rfl ?_ | refine g_lb ?_))
  refine q_n ?_
  have hS := (hS.pool_sub (M' := x.A ++ []) 3 rfl (fun p hp => List.mem_append_left _ (by simpa using hp))).nilrow 147 2
  have hS := hS.sel [0, 1, 4, 3] rfl rfl
  obtain ⟨S', hS⟩ := RefR.cls (x := ⟨x.vC, .slice none 0 0, x.A, []⟩) (D := D.boot) (B := []) (b := b) ⟨hw.1.boot, hw.2.1, rfl⟩ hS
  exact h _ _ hS
theorem rc76 (hS : St w0 S0 w (RefR S b D :: B)) (h : ∀ w' S', St w0 S0 w' (RefR S' b D.boot :: B) → K (.tuple ⟨[]⟩) w') : CK Try.prog 76 [dp b] w K := CK.ref hS rb76 h
end
end Go.Proofs.Ytegjocpjmfaigaa
