/- The device as one resource; what can be asked of it without turning it. -/
import Derived.Test.YtegjocpjmfaigaaWd
set_option linter.unusedSimpArgs false
set_option linter.unusedVariables false
namespace Go.Proofs.Ytegjocpjmfaigaa
open Go.En

def Dev.wf (D : Dev) : Prop := D.cells ≠ [] ∧ (∀ c ∈ D.cells, c.length = 128) ∧ (∀ x ∈ D.waits, x.2.length = 128 ∧ 0 ≤ x.1 ∧ x.1 < D.cells.length) ∧ D.waits.length < 1152921504
def DevB (b : Nat) (D : Dev) (x : Value × Value) : Res := ((cel b (DevC x.1 x.2 D) 65).and ((row x.1 122 128 D.cells.length (fc D.cells)).and (row x.2 124 129 D.waits.length (fw D.waits)))).when D.wf
def DevR (S : Nat → Prop) (b : Nat) (D : Dev) : Res := Ex S (DevB b D)

section
variable {w w0 : World} {S0 S : Nat → Prop} {K : Value → World → Prop} {b bc cap : Nat} {vw : Value} {D : Dev} {B : List Res}
theorem fc_len {cells : List (List UInt8)} (hc : ∀ c ∈ cells, c.length = 128) : (fc cells).length = cells.length * 128 := by
  rw [fc, flat_len (k := 128) (fun l hl => by simp only [List.mem_map] at hl; obtain ⟨c, hcm, rfl⟩ := hl; simpa using hc c hcm), List.length_map]
theorem fw_len {ws : List (Int × List UInt8)} (hw : ∀ x ∈ ws, x.2.length = 128) : (fw ws).length = ws.length * 129 := by
  rw [fw, flat_len (k := 129) (wv_flat hw), List.length_map]
theorem DevR.opn (hS : St w0 S0 w (DevR S b D :: B)) : D.wf ∧ ∃ bc cap rest a c, D.cells.length ≤ cap ∧ (fc D.cells ++ rest).length = cap * 128 ∧
    St w0 S0 w (cel b (DevC (.slice (some ⟨bc, 0, none⟩) D.cells.length cap) (.slice a D.waits.length c) D) 65 :: cel bc (fc D.cells ++ rest) 122 :: row (.slice a D.waits.length c) 124 129 D.waits.length (fw D.waits) :: B) := by
  obtain ⟨⟨vc, vw⟩, hS⟩ := hS.ex 0 rfl
  obtain ⟨hw, hS⟩ := hS.cond 0 rfl
  have hS := (hS.split 0 rfl).front
  have hS := (hS.split 0 rfl).front
  have hS : St w0 S0 w (row vw 124 129 D.waits.length (fw D.waits) :: row vc 122 128 D.cells.length (fc D.cells) :: cel b (DevC vc vw D) 65 :: B) := hS
  obtain ⟨a, c, rfl⟩ := hS.rlen 0 rfl
  have hp : 0 < D.cells.length := List.length_pos_iff.2 hw.1
  obtain ⟨bc, cap, rest, rfl, h1, h2, hS⟩ := hS.open_row 1 rfl (hS.rowb 1 rfl hp)
  refine ⟨hw, bc, cap, rest, a, c, h1, h2, ?_⟩
  have hS : St w0 S0 w (row (.slice a D.waits.length c) 124 129 D.waits.length (fw D.waits) :: cel bc (fc D.cells ++ rest) 122 :: cel b (DevC (.slice (some ⟨bc, 0, none⟩) D.cells.length cap) (.slice a D.waits.length c) D) 65 :: B) := hS
  refine hS.pick (2 :: 1 :: 0 :: (List.range B.length).map (· + 3)) _ ?_ ?_
  · intro k r hk
    match k, hk with
    | 0, hk => exact ⟨2, rfl, hk⟩
    | 1, hk => exact ⟨1, rfl, hk⟩
    | 2, hk => exact ⟨0, rfl, hk⟩
    | k + 3, hk =>
      have hk : B[k]? = some r := by simpa using hk
      have hlt := (List.getElem?_eq_some_iff.1 hk).1
      exact ⟨k + 3, by simp [hlt], by simpa using hk⟩
  · simp only [List.nodup_cons, List.mem_cons, List.mem_map, List.mem_range]
    refine ⟨by omega, by omega, ?_, ?_⟩
    · rintro ⟨j, _, hj⟩; omega
    · exact List.Pairwise.map _ (fun a b h => by omega) List.nodup_range
/-- taken apart, put together again -/
theorem DevR.cls {vc vw : Value} (hw : D.wf) (hS : St w0 S0 w (cel b (DevC vc vw D) 65 :: row vc 122 128 D.cells.length (fc D.cells) :: row vw 124 129 D.waits.length (fw D.waits) :: B)) : ∃ S', St w0 S0 w (DevR S' b D :: B) := by
  have hS := hS.merge 1 2 rfl rfl (by decide)
  have hS : St w0 S0 w (cel b (DevC vc vw D) 65 :: (row vc 122 128 D.cells.length (fc D.cells)).and (row vw 124 129 D.waits.length (fw D.waits)) :: emp :: B) := hS
  have hS := hS.merge 0 1 rfl rfl (by decide)
  have hS := hS.toWhen (p := D.wf) 0 rfl hw
  obtain ⟨S', hS⟩ := hS.toEx (F := DevB b D) (x := (vc, vw)) 0 rfl
  refine ⟨S', ?_⟩
  have hS : St w0 S0 w (DevR S' b D :: emp :: emp :: B) := hS
  exact St.sub (A := [DevR S' b D]) ((List.sublist_cons_self _ _).trans (List.sublist_cons_self _ _)) hS
theorem DevR.cls' {rest : List Value} (hw : D.wf) (hcap : D.cells.length ≤ cap) (hl : (fc D.cells ++ rest).length = cap * 128)
    (hS : St w0 S0 w (cel b (DevC (.slice (some ⟨bc, 0, none⟩) D.cells.length cap) vw D) 65 :: cel bc (fc D.cells ++ rest) 122 :: row vw 124 129 D.waits.length (fw D.waits) :: B)) : ∃ S', St w0 S0 w (DevR S' b D :: B) :=
  DevR.cls hw (hS.close_row 1 rfl hcap (fc_len hw.2.1) (List.prefix_append _ _) hl)
theorem DevR.blk (hS : St w0 S0 w (DevR S b D :: B)) : D.wf ∧ ∃ bc n cap a c, D.cells.length = n + 1 ∧ Blk w b (DevC (.slice (some ⟨bc, 0, none⟩) (n + 1) cap) (.slice a D.waits.length c) D) 65 := by
  obtain ⟨hw, bc, cap, rest, a, c, _, _, hS⟩ := DevR.opn hS
  have hp : 0 < D.cells.length := List.length_pos_iff.2 hw.1
  refine ⟨hw, bc, D.cells.length - 1, cap, a, c, by omega, ?_⟩
  rw [show D.cells.length - 1 + 1 = D.cells.length by omega]
  exact hS.b 0 rfl
/-- a device's contract among others -/
theorem CK.dev {f : FuncId} {args : List Value} {v : Value} {D' : Dev} (hS : St w0 S0 w (DevR S b D :: B)) (base : ∀ {w1 : World} {S1 : Nat → Prop} {K : Value → World → Prop}, St w1 S1 w [DevR S b D] → (∀ w' S', St w1 S1 w' [DevR S' b D'] → K v w') → CK Try.prog f args w K)
    (h : ∀ w' S', St w0 S0 w' (DevR S' b D' :: B) → K v w') : CK Try.prog f args w K :=
  base (St.frame (A := [DevR S b D]) (B := B) hS).1 fun w' S' h' => h w' S' ((St.frame (A := [DevR S b D]) (B := B) hS).2 w' [DevR S' b D'] h')

theorem d78' (hS : St w0 S0 w (DevR S b D :: B)) (h : K (.int .i64 (if D.down then 141 else 0)) w) : CK Try.prog 78 [dp b] w K := by
  obtain ⟨_, bc, n, cap, a, c, _, hB⟩ := DevR.blk hS
  exact d78 hB h
theorem d28 (hS : St w0 S0 w (DevR S b D :: B)) (h : K (.bool !D.down) w) : CK Try.prog 28 [dp b] w K := by
  obtain ⟨_, bc, n, cap, a, c, _, hB⟩ := DevR.blk hS
  refine call_k Try.func28 k28 Try.ntmps28 (Nat.le_of_ble_eq_true rfl) ?_
  (repeat (first | refine g_sq ?_ | refine g_rg ?_ | refine g_r0 ?_ | refine g_ok rfl rfl ?_ | refine g_no rfl ?_ | refine g_no0 rfl ?_ | refine g_bk ?_ | refine g_b ?_ | refine g_sk ?_ | refine g_cT rfl ?_ | refine g_cF rfl ?_ | refine g_x rfl ?_ | refine g_lb ?_))
  refine g_cl rfl rfl (d85 hB ?_)
  (repeat (first | refine g_sq ?_ | refine g_rg ?_ | refine g_r0 ?_ | refine g_ok rfl rfl ?_ | refine g_no rfl ?_ | refine g_no0 rfl ?_ | refine g_bk ?_ | refine g_b ?_ | refine g_sk ?_ | refine g_cT rfl ?_ | refine g_cF rfl ?_ | refine g_x rfl ?_ | refine g_lb ?_))
  refine g_l1 rfl rfl hB rfl ?_
  (repeat (first | refine g_sq ?_ | refine g_rg ?_ | refine g_r0 ?_ | refine g_ok rfl rfl ?_ | refine g_no rfl ?_ | refine g_no0 rfl ?_ | refine g_bk ?_ | refine g_b ?_ | refine g_sk ?_ | refine g_cT rfl ?_ | refine g_cF rfl ?_ | refine g_x rfl ?_ | refine g_lb ?_))
  exact g_ret (q_1 rfl h)
theorem d31 (hS : St w0 S0 w (DevR S b D :: B)) (h : K (.int .i64 D.waits.length) w) : CK Try.prog 31 [dp b] w K := by
  obtain ⟨_, bc, n, cap, a, c, _, hB⟩ := DevR.blk hS
  refine call_k Try.func31 k31 Try.ntmps31 (Nat.le_of_ble_eq_true rfl) ?_
  (repeat (first | refine g_sq ?_ | refine g_rg ?_ | refine g_r0 ?_ | refine g_ok rfl rfl ?_ | refine g_no rfl ?_ | refine g_no0 rfl ?_ | refine g_bk ?_ | refine g_b ?_ | refine g_sk ?_ | refine g_cT rfl ?_ | refine g_cF rfl ?_ | refine g_x rfl ?_ | refine g_lb ?_))
  refine g_cl rfl rfl (d85 hB ?_)
  (repeat (first | refine g_sq ?_ | refine g_rg ?_ | refine g_r0 ?_ | refine g_ok rfl rfl ?_ | refine g_no rfl ?_ | refine g_no0 rfl ?_ | refine g_bk ?_ | refine g_b ?_ | refine g_sk ?_ | refine g_cT rfl ?_ | refine g_cF rfl ?_ | refine g_x rfl ?_ | refine g_lb ?_))
  refine g_l1 rfl rfl hB rfl ?_
  (repeat (first | refine g_sq ?_ | refine g_rg ?_ | refine g_r0 ?_ | refine g_ok rfl rfl ?_ | refine g_no rfl ?_ | refine g_no0 rfl ?_ | refine g_bk ?_ | refine g_b ?_ | refine g_sk ?_ | refine g_cT rfl ?_ | refine g_cF rfl ?_ | refine g_x rfl ?_ | refine g_lb ?_))
  exact g_ret (q_1 rfl h)
theorem d34 (hS : St w0 S0 w (DevR S b D :: B)) (h : K (.int .i64 D.many) w) : CK Try.prog 34 [dp b] w K := by
  obtain ⟨_, bc, n, cap, a, c, _, hB⟩ := DevR.blk hS
  refine call_k Try.func34 k34 Try.ntmps34 (Nat.le_of_ble_eq_true rfl) ?_
  (repeat (first | refine g_sq ?_ | refine g_rg ?_ | refine g_r0 ?_ | refine g_ok rfl rfl ?_ | refine g_no rfl ?_ | refine g_no0 rfl ?_ | refine g_bk ?_ | refine g_b ?_ | refine g_sk ?_ | refine g_cT rfl ?_ | refine g_cF rfl ?_ | refine g_x rfl ?_ | refine g_lb ?_))
  refine g_cl rfl rfl (d85 hB ?_)
  (repeat (first | refine g_sq ?_ | refine g_rg ?_ | refine g_r0 ?_ | refine g_ok rfl rfl ?_ | refine g_no rfl ?_ | refine g_no0 rfl ?_ | refine g_bk ?_ | refine g_b ?_ | refine g_sk ?_ | refine g_cT rfl ?_ | refine g_cF rfl ?_ | refine g_x rfl ?_ | refine g_lb ?_))
  refine g_l1 rfl rfl hB rfl ?_
  (repeat (first | refine g_sq ?_ | refine g_rg ?_ | refine g_r0 ?_ | refine g_ok rfl rfl ?_ | refine g_no rfl ?_ | refine g_no0 rfl ?_ | refine g_bk ?_ | refine g_b ?_ | refine g_sk ?_ | refine g_cT rfl ?_ | refine g_cF rfl ?_ | refine g_x rfl ?_ | refine g_lb ?_))
  exact g_ret (q_1 rfl h)
theorem d36 (hS : St w0 S0 w (DevR S b D :: B)) (h : K (.int .i64 D.cells.length) w) : CK Try.prog 36 [dp b] w K := by
  obtain ⟨_, bc, n, cap, a, c, e, hB⟩ := DevR.blk hS
  rw [e] at h
  refine call_k Try.func36 k36 Try.ntmps36 (Nat.le_of_ble_eq_true rfl) ?_
  (repeat (first | refine g_sq ?_ | refine g_rg ?_ | refine g_r0 ?_ | refine g_ok rfl rfl ?_ | refine g_no rfl ?_ | refine g_no0 rfl ?_ | refine g_bk ?_ | refine g_b ?_ | refine g_sk ?_ | refine g_cT rfl ?_ | refine g_cF rfl ?_ | refine g_x rfl ?_ | refine g_lb ?_))
  refine g_cl rfl rfl (d85 hB ?_)
  (repeat (first | refine g_sq ?_ | refine g_rg ?_ | refine g_r0 ?_ | refine g_ok rfl rfl ?_ | refine g_no rfl ?_ | refine g_no0 rfl ?_ | refine g_bk ?_ | refine g_b ?_ | refine g_sk ?_ | refine g_cT rfl ?_ | refine g_cF rfl ?_ | refine g_x rfl ?_ | refine g_lb ?_))
  refine g_l1 rfl rfl hB rfl ?_
  (repeat (first | refine g_sq ?_ | refine g_rg ?_ | refine g_r0 ?_ | refine g_ok rfl rfl ?_ | refine g_no rfl ?_ | refine g_no0 rfl ?_ | refine g_bk ?_ | refine g_b ?_ | refine g_sk ?_ | refine g_cT rfl ?_ | refine g_cF rfl ?_ | refine g_x rfl ?_ | refine g_lb ?_))
  exact g_ret (q_1 rfl h)
/-- of none -/
theorem n85 (h : K (.bool true) w) : CK Try.prog 85 [.pointer none] w K := by
  refine call_k Try.func85 k85 Try.ntmps85 (Nat.le_of_ble_eq_true rfl) ?_
  (repeat (first | refine g_sq ?_ | refine g_rg ?_ | refine g_r0 ?_ | refine g_ok rfl rfl ?_ | refine g_no rfl ?_ | refine g_no0 rfl ?_ | refine g_bk ?_ | refine g_b ?_ | refine g_sk ?_ | refine g_cT rfl ?_ | refine g_cF rfl ?_ | refine g_x rfl ?_ | refine g_lb ?_))
  exact g_ret (q_1 rfl h)
theorem n78 (h : K (.int .i64 1) w) : CK Try.prog 78 [.pointer none] w K := by
  refine call_k Try.func78 k78 Try.ntmps78 (Nat.le_of_ble_eq_true rfl) ?_
  (repeat (first | refine g_sq ?_ | refine g_rg ?_ | refine g_r0 ?_ | refine g_ok rfl rfl ?_ | refine g_no rfl ?_ | refine g_no0 rfl ?_ | refine g_bk ?_ | refine g_b ?_ | refine g_sk ?_ | refine g_cT rfl ?_ | refine g_cF rfl ?_ | refine g_x rfl ?_ | refine g_lb ?_))
  refine g_cl rfl rfl (n85 ?_)
  (repeat (first | refine g_sq ?_ | refine g_rg ?_ | refine g_r0 ?_ | refine g_ok rfl rfl ?_ | refine g_no rfl ?_ | refine g_no0 rfl ?_ | refine g_bk ?_ | refine g_b ?_ | refine g_sk ?_ | refine g_cT rfl ?_ | refine g_cF rfl ?_ | refine g_x rfl ?_ | refine g_lb ?_))
  exact g_ret (q_1 rfl h)
end
end Go.Proofs.Ytegjocpjmfaigaa
