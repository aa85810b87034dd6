/- Walks of the device: what turns it. -/
import Derived.Test.YtegjocpjmfaigaaWa
import Derived.Test.YtegjocpjmfaigaaEnQ
set_option linter.unusedSimpArgs false
set_option linter.unusedVariables false
namespace Go.Proofs.Ytegjocpjmfaigaa
open Go.En
theorem mixed : Try.prog.follows .mixedOrders = true := by kernel_rfl

theorem wv_len {x : Int × List UInt8} (h : x.2.length = 128) : (wv x).length = 129 := by simp [wv, h]
theorem wv_one (x : Int × List UInt8) : (wv x).all (·.oneCell') = true := by
  simp only [wv, List.all_cons, bys_one, Bool.and_true]; rfl

section
variable {w w0 : World} {S0 : Nat → Prop} {K : Value → World → Prop} {b bc cap : Nat} {vc vw : Value} {D : Dev}
/-- the first bytes of a write, put into its block -/
def putB (cells : List (List UInt8)) (x : Int × List UInt8) (many : Nat) : List (List UInt8) := cells.set x.1.toNat (x.2.take many ++ (cells.getD x.1.toNat []).drop many)

theorem d82 {cells : List (List UInt8)} {rest : List Value} {x : Int × List UInt8} {m : Int} (hS : St w0 S0 w [cel b (DevC (.slice (some ⟨bc, 0, none⟩) cells.length cap) vw D) 65, cel bc (fc cells ++ rest) 122]) (hc : ∀ c ∈ cells, c.length = 128) (h1 : x.2.length = 128) (h2 : 0 ≤ x.1 ∧ x.1 < cells.length) (h3 : 0 ≤ m ∧ m ≤ 128)
    (h : ∀ w', St w0 S0 w' [cel b (DevC (.slice (some ⟨bc, 0, none⟩) cells.length cap) vw D) 65, cel bc (fc (putB cells x m.toNat) ++ rest) 122] → K (.tuple ⟨[]⟩) w') : CK Try.prog 82 [dp b, .agg ⟨wv x⟩, .int .i64 m] w K := by
  refine call_k Try.func82 k82 Try.ntmps82 (Nat.le_of_ble_eq_true rfl) ?_
  (repeat (first | refine g_sq ?_ | refine g_rg ?_ | refine g_r0 ?_ | refine g_ok rfl rfl ?_ | refine g_no rfl ?_ | refine g_no0 rfl ?_ | refine g_bk ?_ | refine g_b ?_ | refine g_sk ?_ | refine g_cT rfl ?_ | refine g_cF rfl ?_ | refine g_x rfl ?_ | refine g_lb ?_))
  refine g_ef rfl (ef_bx hS rfl fun b4 w hS => ?_)
  (repeat (first | refine g_sq ?_ | refine g_rg ?_ | refine g_r0 ?_ | refine g_ok rfl rfl ?_ | refine g_no rfl ?_ | refine g_no0 rfl ?_ | refine g_bk ?_ | refine g_b ?_ | refine g_sk ?_ | refine g_cT rfl ?_ | refine g_cF rfl ?_ | refine g_x rfl ?_ | refine g_lb ?_))
  refine g_dr mixed ?_
  have hS := hS.drew
  (repeat (first | refine d_ok rfl rfl rfl ?_ | refine d_no rfl rfl ?_))
  refine d_l1 rfl rfl rfl (hS.b 0 rfl) rfl ?_
  (repeat (first | refine d_ok rfl rfl rfl ?_ | refine d_no rfl rfl ?_))
  refine d_l1 rfl rfl rfl (hS.b 2 rfl) rfl ?_
  refine d_rq rfl rfl rfl h2 ?_
  refine d_rq rfl rfl rfl ⟨Int.le_refl _, by omega, by omega⟩ ?_
  (repeat (first | refine d_ok rfl rfl rfl ?_ | refine d_no rfl rfl ?_))
  refine d_rq rfl rfl rfl ⟨Int.le_refl _, by omega, by omega⟩ ?_
  have hm : m.toNat ≤ 128 := by omega
  have hlt : x.1.toNat < cells.length := by omega
  have hflen : ∀ l ∈ cells.map bys, l.length = 128 := fun l hl => by
    simp only [List.mem_map] at hl
    obtain ⟨c, hcm, rfl⟩ := hl
    simpa using hc c hcm
  refine d_e rfl rfl ?_
  refine ef_cp hS 1 rfl rfl rfl (m := m.toNat) (ys := bys (x.2.take m.toNat)) (.inl ⟨124, .inr ⟨b4, 0 + 1, _, _, rfl, ?_, ?_, ?_, (hS.b 2 rfl).r⟩⟩) ?_ (bys_one _) fun w hS => ⟨trivial, ?_⟩
  · show m.toNat ≤ 128
    exact hm
  · show 0 + 1 + 128 * 1 ≤ (wv x).length
    rw [wv_len h1]; omega
  · show (List.drop (0 + 1) (wv x)).take (m.toNat * 1) = _
    simp [wv, bys_take]
  · show 0 + x.1.toNat * 128 + 128 * 1 ≤ (fc cells ++ rest).length
    rw [List.length_append, fc, flat_len hflen, List.length_map]
    omega
  · refine d_fin (q_n (h _ ?_))
    have hS := hS.sel [0, 1] rfl rfl
    have e : spl (fc cells ++ rest) (0 + x.1.toNat * 128) (List.take (min m.toNat 128 * 1) (bys (List.take m.toNat x.2))) = fc (putB cells x m.toNat) ++ rest := by
      rw [Nat.min_eq_left hm, Nat.mul_one, Nat.zero_add, bys_take, List.take_take, Nat.min_self, fc, flat_set hflen (by simpa using hlt) _ _ (by simp; omega)]
      rw [fc, putB, List.map_set]
      congr 3
      rw [bys_append, ← bys_drop]
      congr 2
      · simp; omega
      · simp [List.getD_eq_getElem?_getD, hlt]
    rw [← e]
    exact hS
end
end Go.Proofs.Ytegjocpjmfaigaa
