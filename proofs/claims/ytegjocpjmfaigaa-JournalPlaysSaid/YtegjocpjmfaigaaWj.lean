/- Walks of the device. -/
import Derived.Test.YtegjocpjmfaigaaEnQ
import Derived.Test.YtegjocpjmfaigaaMa
set_option linter.unusedSimpArgs false
set_option linter.unusedVariables false
namespace Go.Proofs.Ytegjocpjmfaigaa
open Go.En

structure Fal where
  a : Int
  k : Int
  t : Int
/-- A device: its blocks, the writes that wait, whether it is down, operations, the fall, operations since it was armed. -/
structure Dev where
  cells : List (List UInt8)
  waits : List (Int × List UInt8)
  down : Bool
  many : Int
  fall : Fal
  since : Int
def fc (l : List (List UInt8)) : List Value := (l.map bys).flatten
def wv (x : Int × List UInt8) : List Value := .int .i64 x.1 :: bys x.2
def fw (l : List (Int × List UInt8)) : List Value := (l.map wv).flatten
def DevC (vc vw : Value) (D : Dev) : List Value := [vc, vw, .bool D.down, .int .i64 D.many, .int .i64 D.fall.a, .int .i64 D.fall.k, .int .i64 D.fall.t, .int .i64 D.since]
def dp (b : Nat) : Value := .pointer (some ⟨b, 0, none⟩)

section
variable {w : World} {K : Value → World → Prop} {b n c : Nat} {a : Option Addr} {vc vw : Value} {D : Dev}
theorem d85 (hB : Blk w b (DevC (.slice a n c) vw D) 65) (h : K (.bool (decide (n = 0))) w) : CK Try.prog 85 [dp b] w K := by
  refine call_k Try.func85 k85 Try.ntmps85 (Nat.le_of_ble_eq_true rfl) ?_
  (repeat (first | refine g_sq ?_ | refine g_rg ?_ | refine g_r0 ?_ | refine g_ok rfl rfl ?_ | refine g_no rfl ?_ | refine g_no0 rfl ?_ | refine g_bk ?_ | refine g_b ?_ | refine g_sk ?_ | refine g_cT rfl ?_ | refine g_cF rfl ?_ | refine g_x rfl ?_ | refine g_lb ?_))
  refine g_l1 rfl rfl hB rfl ?_
  (repeat (first | refine g_sq ?_ | refine g_rg ?_ | refine g_r0 ?_ | refine g_ok rfl rfl ?_ | refine g_no rfl ?_ | refine g_no0 rfl ?_ | refine g_bk ?_ | refine g_b ?_ | refine g_sk ?_ | refine g_cT rfl ?_ | refine g_cF rfl ?_ | refine g_x rfl ?_ | refine g_lb ?_))
  refine g_ret (q_1 rfl ?_)
  have : cmv BinOp.eql (n : Int) 0 = decide (n = 0) := by simp only [cmv]; rw [Bool.eq_iff_iff]; simp
  rw [this]; exact h
theorem d78 (hB : Blk w b (DevC (.slice a (n + 1) c) vw D) 65) (h : K (.int .i64 (if D.down then 141 else 0)) w) : CK Try.prog 78 [dp b] w K := by
  refine call_k Try.func78 k78 Try.ntmps78 (Nat.le_of_ble_eq_true rfl) ?_
  (repeat (first | refine g_sq ?_ | refine g_rg ?_ | refine g_r0 ?_ | refine g_ok rfl rfl ?_ | refine g_no rfl ?_ | refine g_no0 rfl ?_ | refine g_bk ?_ | refine g_b ?_ | refine g_sk ?_ | refine g_cT rfl ?_ | refine g_cF rfl ?_ | refine g_x rfl ?_ | refine g_lb ?_))
  refine g_cl rfl rfl (d85 hB ?_)
  (repeat (first | refine g_sq ?_ | refine g_rg ?_ | refine g_r0 ?_ | refine g_ok rfl rfl ?_ | refine g_no rfl ?_ | refine g_no0 rfl ?_ | refine g_bk ?_ | refine g_b ?_ | refine g_sk ?_ | refine g_cT rfl ?_ | refine g_cF rfl ?_ | refine g_x rfl ?_ | refine g_lb ?_))
  refine g_l1 rfl rfl hB rfl ?_
  (repeat (first | refine g_sq ?_ | refine g_rg ?_ | refine g_r0 ?_ | refine g_ok rfl rfl ?_ | refine g_no rfl ?_ | refine g_no0 rfl ?_ | refine g_bk ?_ | refine g_b ?_ | refine g_sk ?_ | refine g_cT rfl ?_ | refine g_cF rfl ?_ | refine g_x rfl ?_ | refine g_lb ?_))
  refine g_cd rfl (fun hc => ?_) (fun hc => ?_)
  · (repeat (first | refine g_sq ?_ | refine g_rg ?_ | refine g_r0 ?_ | refine g_ok rfl rfl ?_ | refine g_no rfl ?_ | refine g_no0 rfl ?_ | refine g_bk ?_ | refine g_b ?_ | refine g_sk ?_ | refine g_cT rfl ?_ | refine g_cF rfl ?_ | refine g_x rfl ?_ | refine g_lb ?_))
    refine g_ret (q_1 rfl ?_)
    rw [hc] at h; exact h
  · (repeat (first | refine g_sq ?_ | refine g_rg ?_ | refine g_r0 ?_ | refine g_ok rfl rfl ?_ | refine g_no rfl ?_ | refine g_no0 rfl ?_ | refine g_bk ?_ | refine g_b ?_ | refine g_sk ?_ | refine g_cT rfl ?_ | refine g_cF rfl ?_ | refine g_x rfl ?_ | refine g_lb ?_))
    refine g_ret (q_1 rfl ?_)
    rw [hc] at h; exact h
theorem d79 {i : Int} (hB : Blk w b (DevC (.slice a n c) vw D) 65) (h : K (.bool (decide (0 ≤ i ∧ i < (n : Int)))) w) : CK Try.prog 79 [dp b, .int .i64 i] w K := by
  refine call_k Try.func79 k79 Try.ntmps79 (Nat.le_of_ble_eq_true rfl) ?_
  (repeat (first | refine g_sq ?_ | refine g_rg ?_ | refine g_r0 ?_ | refine g_ok rfl rfl ?_ | refine g_no rfl ?_ | refine g_no0 rfl ?_ | refine g_bk ?_ | refine g_b ?_ | refine g_sk ?_ | refine g_cT rfl ?_ | refine g_cF rfl ?_ | refine g_x rfl ?_ | refine g_lb ?_))
  refine g_sp (t := 7) rfl fun s hs => ?_
  simp only [cmv] at hs
  cases s
  · (repeat (first | refine g_sq ?_ | refine g_rg ?_ | refine g_r0 ?_ | refine g_ok rfl rfl ?_ | refine g_no rfl ?_ | refine g_no0 rfl ?_ | refine g_bk ?_ | refine g_b ?_ | refine g_sk ?_ | refine g_cT rfl ?_ | refine g_cF rfl ?_ | refine g_x rfl ?_ | refine g_lb ?_))
    refine g_ret (q_1 rfl ?_)
    have e : decide (0 ≤ i ∧ i < (n : Int)) = false := by simp only [decide_eq_false_iff_not] at hs ⊢; omega
    rw [e] at h; exact h
  · (repeat (first | refine g_sq ?_ | refine g_rg ?_ | refine g_r0 ?_ | refine g_ok rfl rfl ?_ | refine g_no rfl ?_ | refine g_no0 rfl ?_ | refine g_bk ?_ | refine g_b ?_ | refine g_sk ?_ | refine g_cT rfl ?_ | refine g_cF rfl ?_ | refine g_x rfl ?_ | refine g_lb ?_))
    refine g_l1 rfl rfl hB rfl ?_
    (repeat (first | refine g_sq ?_ | refine g_rg ?_ | refine g_r0 ?_ | refine g_ok rfl rfl ?_ | refine g_no rfl ?_ | refine g_no0 rfl ?_ | refine g_bk ?_ | refine g_b ?_ | refine g_sk ?_ | refine g_cT rfl ?_ | refine g_cF rfl ?_ | refine g_x rfl ?_ | refine g_lb ?_))
    refine g_ret (q_1 rfl ?_)
    have e : decide (0 ≤ i ∧ i < (n : Int)) = decide (i < (n : Int)) := by simp only [decide_eq_true_eq] at hs; simp [hs]
    rw [e] at h; exact h
end
end Go.Proofs.Ytegjocpjmfaigaa
namespace Go.Proofs.Ytegjocpjmfaigaa
open Go.En
theorem mixed : Try.prog.follows .mixedOrders = true := by kernel_rfl

theorem wv_len {x : Int × List UInt8} (h : x.2.length = 128) : (wv x).length = 129 := by simp [wv, h]
theorem wv_one (x : Int × List UInt8) : (wv x).all (·.oneCell') = true := by
  simp only [wv, List.all_cons, bys_one, Bool.and_true]; rfl

section
variable {w w0 : World} {S0 : Nat → Prop} {K : Value → World → Prop} {b bc cap : Nat} {vc vw : Value} {D : Dev}
/-- the first bytes of a write, put into its block -/
def putB (cells : List (List UInt8)) (x : Int × List UInt8) (many : Nat) : List (List UInt8) := cells.set x.1.toNat (x.2.take many ++ (cells.getD x.1.toNat []).drop many)

theorem d82 {cells : List (List UInt8)} {rest : List Value} {x : Int × List UInt8} {m : Int} (hS : St w0 S0 w [cel b (DevC (.slice (some ⟨bc, 0, none⟩) cells.length cap) vw D) 65, cel bc (fc cells ++ rest) 122]) (hc : ∀ c ∈ cells, c.length = 128) (h1 : x.2.length = 128) (h2 : 0 ≤ x.1 ∧ x.1 < cells.length) (h3 : 0 ≤ m ∧ m ≤ 128)
    (h : ∀ w', St w0 S0 w' [cel b (DevC (.slice (some ⟨bc, 0, none⟩) cells.length cap) vw D) 65, cel bc (fc (putB cells x m.toNat) ++ rest) 122] → K (.tuple ⟨[]⟩) w') : CK Try.prog 82 [dp b, .agg ⟨wv x⟩, .int .i64 m] w K := by
  refine call_k Try.func82 k82 Try.ntmps82 (Nat.le_of_ble_eq_true rfl) ?_
  (repeat (first | refine g_sq ?_ | refine g_rg ?_ | refine g_r0 ?_ | refine g_ok rfl rfl ?_ | refine g_no rfl ?_ | refine g_no0 rfl ?_ | refine g_bk ?_ | refine g_b ?_ | refine g_sk ?_ | refine g_cT rfl ?_ | refine g_cF rfl ?_ | refine g_x rfl ?_ | refine g_lb ?_))
  refine g_ef rfl (ef_bx hS rfl fun b4 w hS => ?_)
  (repeat (first | refine g_sq ?_ | refine g_rg ?_ | refine g_r0 ?_ | refine g_ok rfl rfl ?_ | refine g_no rfl ?_ | refine g_no0 rfl ?_ | refine g_bk ?_ | refine g_b ?_ | refine g_sk ?_ | refine g_cT rfl ?_ | refine g_cF rfl ?_ | refine g_x rfl ?_ | refine g_lb ?_))
  refine g_dr mixed ?_
  have hS := hS.drew
  (repeat (first | refine d_ok rfl rfl rfl ?_ | refine d_no rfl rfl ?_))
  refine d_l1 rfl rfl rfl (hS.b 0 rfl) rfl ?_
  (repeat (first | refine d_ok rfl rfl rfl ?_ | refine d_no rfl rfl ?_))
  refine d_l1 rfl rfl rfl (hS.b 2 rfl) rfl ?_
  refine d_rq rfl rfl rfl h2 ?_
  refine d_rq rfl rfl rfl ⟨Int.le_refl _, by omega, by omega⟩ ?_
  (repeat (first | refine d_ok rfl rfl rfl ?_ | refine d_no rfl rfl ?_))
  refine d_rq rfl rfl rfl ⟨Int.le_refl _, by omega, by omega⟩ ?_
  have hm : m.toNat ≤ 128 := by omega
  have hlt : x.1.toNat < cells.length := by omega
  have hflen : ∀ l ∈ cells.map bys, l.length = 128 := fun l hl => by
    simp only [List.mem_map] at hl
    obtain ⟨c, hcm, rfl⟩ := hl
    simpa using hc c hcm
  refine d_e rfl rfl ?_
  refine ef_cp hS 1 rfl rfl rfl (m := m.toNat) (ys := bys (x.2.take m.toNat)) (.inl ⟨124, .inr ⟨b4, 0 + 1, _, _, rfl, ?_, ?_, ?_, (hS.b 2 rfl).r⟩⟩) ?_ (bys_one _) fun w hS => ⟨trivial, ?_⟩
  · show m.toNat ≤ 128
    exact hm
  · show 0 + 1 + 128 * 1 ≤ (wv x).length
    rw [wv_len h1]; omega
  · show (List.drop (0 + 1) (wv x)).take (m.toNat * 1) = _
    simp [wv, bys_take]
  · show 0 + x.1.toNat * 128 + 128 * 1 ≤ (fc cells ++ rest).length
    rw [List.length_append, fc, flat_len hflen, List.length_map]
    omega
  · refine d_fin (q_n (h _ ?_))
    have hS := hS.sel [0, 1] rfl rfl
    have e : spl (fc cells ++ rest) (0 + x.1.toNat * 128) (List.take (min m.toNat 128 * 1) (bys (List.take m.toNat x.2))) = fc (putB cells x m.toNat) ++ rest := by
      rw [Nat.min_eq_left hm, Nat.mul_one, Nat.zero_add, bys_take, List.take_take, Nat.min_self, fc, flat_set hflen (by simpa using hlt) _ _ (by simp; omega)]
      rw [fc, putB, List.map_set]
      congr 3
      rw [bys_append, ← bys_drop]
      congr 2
      · simp; omega
      · simp [List.getD_eq_getElem?_getD, hlt]
    rw [← e]
    exact hS
end
end Go.Proofs.Ytegjocpjmfaigaa
namespace Go.Proofs.Ytegjocpjmfaigaa
open Go.En

/-- with how many bytes a fall keeps a write -/
def mny (f : Fal) (i : Nat) : Int := if (i : Int) < f.k then 128 else if (i : Int) = max 0 f.k then max 0 (min f.t 128) else 0

section
variable {w w0 : World} {S0 : Nat → Prop} {K : Value → World → Prop} {b b4 b5 l : Nat} {vc vw : Value} {D : Dev}
theorem wv_flat {ws : List (Int × List UInt8)} (hw : ∀ x ∈ ws, x.2.length = 128) : ∀ l ∈ ws.map wv, l.length = 129 := fun l hl => by
  simp only [List.mem_map] at hl
  obtain ⟨c, hcm, rfl⟩ := hl
  exact wv_len (hw c hcm)
theorem d126 {X : Nat → List Res} {f : Fal} (hw : ∀ x ∈ D.waits, x.2.length = 128) (hn : D.waits.length < 1152921504606846976)
    (hS : St w0 S0 w (cel b (DevC vc vw D) 65 :: cel b4 [dp b] 24 :: cel b5 [.int .i64 f.a, .int .i64 f.k, .int .i64 f.t] 37 :: row vw 124 129 D.waits.length (fw D.waits) :: X 0))
    (hy : ∀ (k : Nat) (x : Int × List UInt8) (w : World), D.waits[k]? = some x → St w0 S0 w (cel b (DevC vc vw D) 65 :: cel b4 [dp b] 24 :: cel b5 [.int .i64 f.a, .int .i64 f.k, .int .i64 f.t] 37 :: row vw 124 129 D.waits.length (fw D.waits) :: X k) →
      Yd Try.prog l [.agg ⟨wv x⟩, .int .i64 (mny f k)] w fun v w' => (v = .bool true ∧ St w0 S0 w' (cel b (DevC vc vw D) 65 :: cel b4 [dp b] 24 :: cel b5 [.int .i64 f.a, .int .i64 f.k, .int .i64 f.t] 37 :: row vw 124 129 D.waits.length (fw D.waits) :: X (k + 1))) ∨ (v = .bool false ∧ K (.tuple ⟨[]⟩) w'))
    (he : ∀ w, St w0 S0 w (cel b (DevC vc vw D) 65 :: cel b4 [dp b] 24 :: cel b5 [.int .i64 f.a, .int .i64 f.k, .int .i64 f.t] 37 :: row vw 124 129 D.waits.length (fw D.waits) :: X D.waits.length) → K (.tuple ⟨[]⟩) w) :
    CK Try.prog 126 [.func (.yield l) ⟨[]⟩ ⟨[]⟩, dp b4, dp b5] w K := by
  refine call_k Try.func126 k126 Try.ntmps126 (Nat.le_of_ble_eq_true rfl) ?_
  obtain ⟨a, c, rfl⟩ := hS.rlen 3 rfl
  (repeat (first | refine g_sq ?_ | refine g_rg ?_ | refine g_r0 ?_ | refine g_ok rfl rfl ?_ | refine g_no rfl ?_ | refine g_no0 rfl ?_ | refine g_bk ?_ | refine g_b ?_ | refine g_sk ?_ | refine g_cT rfl ?_ | refine g_cF rfl ?_ | refine g_x rfl ?_ | refine g_lb ?_))
  refine g_l1 rfl rfl (hS.b  1 rfl) rfl ?_
  (repeat (first | refine g_sq ?_ | refine g_rg ?_ | refine g_r0 ?_ | refine g_ok rfl rfl ?_ | refine g_no rfl ?_ | refine g_no0 rfl ?_ | refine g_bk ?_ | refine g_b ?_ | refine g_sk ?_ | refine g_cT rfl ?_ | refine g_cF rfl ?_ | refine g_x rfl ?_ | refine g_lb ?_))
  refine g_l1 rfl rfl (hS.b  0 rfl) rfl ?_
  (repeat (first | refine g_sq ?_ | refine g_rg ?_ | refine g_r0 ?_ | refine g_ok rfl rfl ?_ | refine g_no rfl ?_ | refine g_no0 rfl ?_ | refine g_bk ?_ | refine g_b ?_ | refine g_sk ?_ | refine g_cT rfl ?_ | refine g_cF rfl ?_ | refine g_x rfl ?_ | refine g_lb ?_))
  refine g_lp (ι := Nat) (fun k => [(0, .func (.yield l) ⟨[]⟩ ⟨[]⟩), (1, dp b4), (2, dp b5), (10, .slice a D.waits.length c), (11, .int .i64 D.waits.length), (12, .int .i64 k)])
    (fun k w => k ≤ D.waits.length ∧ St w0 S0 w (cel b (DevC vc (.slice a D.waits.length c) D) 65 :: cel b4 [dp b] 24 :: cel b5 [.int .i64 f.a, .int .i64 f.k, .int .i64 f.t] 37 :: row (.slice a D.waits.length c) 124 129 D.waits.length (fw D.waits) :: X k)) (fun k => D.waits.length - k) 0 ⟨rfl, rfl, rfl, rfl, rfl, rfl, trivial⟩ ⟨Nat.zero_le _, hS⟩ ?_
  clear hS
  rintro k w ⟨hk, hS⟩
  (repeat (first | refine g_sq ?_ | refine g_rg ?_ | refine g_r0 ?_ | refine g_ok rfl rfl ?_ | refine g_no rfl ?_ | refine g_no0 rfl ?_ | refine g_bk ?_ | refine g_b ?_ | refine g_sk ?_ | refine g_cT rfl ?_ | refine g_cF rfl ?_ | refine g_x rfl ?_ | refine g_lb ?_))
  refine g_cd rfl (fun hc => ?_) (fun hc => ?_)
  · have hlt : k < D.waits.length := by simp only [cmv, decide_eq_true_eq] at hc; omega
    obtain ⟨a', m', c', hv⟩ := hS.rowb 3 rfl (by omega)
    cases hv
    have ho := hS.ok 3 _ rfl
    rcases ho with ⟨hv, _⟩ | ⟨bw, cap, rest, hv, hcap, hxl, hl, hB⟩
    · cases hv
    cases hv
    (repeat (first | refine g_sq ?_ | refine g_rg ?_ | refine g_r0 ?_ | refine g_ok rfl rfl ?_ | refine g_no rfl ?_ | refine g_no0 rfl ?_ | refine g_bk ?_ | refine g_b ?_ | refine g_sk ?_ | refine g_cT rfl ?_ | refine g_cF rfl ?_ | refine g_x rfl ?_ | refine g_lb ?_))
    refine g_rq rfl rfl ⟨by omega, by omega⟩ ?_
    have hx := hlt
    have hfl := wv_flat hw
    refine g_lm rfl rfl hB ?_ ?_
    · show 0 + k * 129 + 129 ≤ _
      rw [hl]
      omega
    have e : List.take 129 (List.drop (0 + k * 129) (fw D.waits ++ rest)) = wv D.waits[k] := by
      rw [Nat.zero_add, fw, flat_get hfl (by simpa using hlt)]
      simp
    rw [show ((k : Int).toNat) = k from rfl, e]
    refine g_ef rfl (ef_al hS fun g w hS => ?_)
    have hS := hS.front
    (repeat (first | refine g_sq ?_ | refine g_rg ?_ | refine g_r0 ?_ | refine g_ok rfl rfl ?_ | refine g_no rfl ?_ | refine g_no0 rfl ?_ | refine g_bk ?_ | refine g_b ?_ | refine g_sk ?_ | refine g_cT rfl ?_ | refine g_cF rfl ?_ | refine g_x rfl ?_ | refine g_lb ?_))
    refine g_ef0 rfl (ef_st hS 0 rfl rfl rfl (wv_len (hw _ (List.getElem_mem hlt))) (by simp [zx]) (wv_one _) fun w hS => ?_)
    have hcs : spl (zx [(1, Value.int .i64 0), (128, Value.int .u8 0)]) 0 (wv D.waits[k]) = wv D.waits[k] := by
      have h1 := wv_len (hw _ (List.getElem_mem hlt))
      simp [spl, h1, zx]
    have hS : St w0 S0 w (cel g (wv D.waits[k]) 124 :: cel b (DevC vc (.slice (some ⟨bw, 0, none⟩) D.waits.length c) D) 65 :: cel b4 [dp b] 24 :: cel b5 [.int .i64 f.a, .int .i64 f.k, .int .i64 f.t] 37 :: row (.slice (some ⟨bw, 0, none⟩) D.waits.length c) 124 129 D.waits.length (fw D.waits) :: X k) := by
      rw [← hcs]; exact hS
    (repeat (first | refine g_sq ?_ | refine g_rg ?_ | refine g_r0 ?_ | refine g_ok rfl rfl ?_ | refine g_no rfl ?_ | refine g_no0 rfl ?_ | refine g_bk ?_ | refine g_b ?_ | refine g_sk ?_ | refine g_cT rfl ?_ | refine g_cF rfl ?_ | refine g_x rfl ?_ | refine g_lb ?_))
    refine g_at 3 [(0, .func (.yield l) ⟨[]⟩ ⟨[]⟩), (1, dp b4), (2, dp b5), (10, .slice (some ⟨bw, 0, none⟩) D.waits.length c), (11, .int .i64 D.waits.length), (12, .int .i64 k), (5, dp g), (6, .int .i64 (mny f k))] (fun w => St w0 S0 w (cel g (wv D.waits[k]) 124 :: cel b (DevC vc (.slice (some ⟨bw, 0, none⟩) D.waits.length c) D) 65 :: cel b4 [dp b] 24 :: cel b5 [.int .i64 f.a, .int .i64 f.k, .int .i64 f.t] 37 :: row (.slice (some ⟨bw, 0, none⟩) D.waits.length c) 124 129 D.waits.length (fw D.waits) :: X k)) rfl ?_ ?_
    · (repeat (first | refine g_sq ?_ | refine g_rg ?_ | refine g_r0 ?_ | refine g_ok rfl rfl ?_ | refine g_no rfl ?_ | refine g_no0 rfl ?_ | refine g_bk ?_ | refine g_b ?_ | refine g_sk ?_ | refine g_cT rfl ?_ | refine g_cF rfl ?_ | refine g_x rfl ?_ | refine g_lb ?_))
      refine g_l1 rfl rfl (hS.b  3 rfl) rfl ?_
      (repeat (first | refine g_sq ?_ | refine g_rg ?_ | refine g_r0 ?_ | refine g_ok rfl rfl ?_ | refine g_no rfl ?_ | refine g_no0 rfl ?_ | refine g_bk ?_ | refine g_b ?_ | refine g_sk ?_ | refine g_cT rfl ?_ | refine g_cF rfl ?_ | refine g_x rfl ?_ | refine g_lb ?_))
      refine g_cd rfl (fun h1 => ?_) (fun h1 => ?_)
      all_goals simp only [cmv, decide_eq_true_eq, decide_eq_false_iff_not] at h1
      · (repeat (first | refine g_sq ?_ | refine g_rg ?_ | refine g_r0 ?_ | refine g_ok rfl rfl ?_ | refine g_no rfl ?_ | refine g_no0 rfl ?_ | refine g_bk ?_ | refine g_b ?_ | refine g_sk ?_ | refine g_cT rfl ?_ | refine g_cF rfl ?_ | refine g_x rfl ?_ | refine g_lb ?_))
        refine g_j ⟨rfl, rfl, rfl, rfl, rfl, rfl, rfl, ?_, trivial⟩ hS
        simp only [mny, if_pos h1]
        rfl
      · (repeat (first | refine g_sq ?_ | refine g_rg ?_ | refine g_r0 ?_ | refine g_ok rfl rfl ?_ | refine g_no rfl ?_ | refine g_no0 rfl ?_ | refine g_bk ?_ | refine g_b ?_ | refine g_sk ?_ | refine g_cT rfl ?_ | refine g_cF rfl ?_ | refine g_x rfl ?_ | refine g_lb ?_))
        refine g_l1 rfl rfl (hS.b  3 rfl) rfl ?_
        (repeat (first | refine g_sq ?_ | refine g_rg ?_ | refine g_r0 ?_ | refine g_ok rfl rfl ?_ | refine g_no rfl ?_ | refine g_no0 rfl ?_ | refine g_bk ?_ | refine g_b ?_ | refine g_sk ?_ | refine g_cT rfl ?_ | refine g_cF rfl ?_ | refine g_x rfl ?_ | refine g_lb ?_))
        refine g_cd rfl (fun h2 => ?_) (fun h2 => ?_)
        all_goals simp only [cmv, decide_eq_true_eq, decide_eq_false_iff_not] at h2
        · (repeat (first | refine g_sq ?_ | refine g_rg ?_ | refine g_r0 ?_ | refine g_ok rfl rfl ?_ | refine g_no rfl ?_ | refine g_no0 rfl ?_ | refine g_bk ?_ | refine g_b ?_ | refine g_sk ?_ | refine g_cT rfl ?_ | refine g_cF rfl ?_ | refine g_x rfl ?_ | refine g_lb ?_))
          refine g_l1 rfl rfl (hS.b  3 rfl) rfl ?_
          (repeat (first | refine g_sq ?_ | refine g_rg ?_ | refine g_r0 ?_ | refine g_ok rfl rfl ?_ | refine g_no rfl ?_ | refine g_no0 rfl ?_ | refine g_bk ?_ | refine g_b ?_ | refine g_sk ?_ | refine g_cT rfl ?_ | refine g_cF rfl ?_ | refine g_x rfl ?_ | refine g_lb ?_))
          refine g_j ⟨rfl, rfl, rfl, rfl, rfl, rfl, rfl, ?_, trivial⟩ hS
          simp only [mny, if_neg h1, if_pos h2]
          rfl
        · (repeat (first | refine g_sq ?_ | refine g_rg ?_ | refine g_r0 ?_ | refine g_ok rfl rfl ?_ | refine g_no rfl ?_ | refine g_no0 rfl ?_ | refine g_bk ?_ | refine g_b ?_ | refine g_sk ?_ | refine g_cT rfl ?_ | refine g_cF rfl ?_ | refine g_x rfl ?_ | refine g_lb ?_))
          refine g_j ⟨rfl, rfl, rfl, rfl, rfl, rfl, rfl, ?_, trivial⟩ hS
          simp only [mny, if_neg h1, if_neg h2]
          rfl
    · clear hS
      intro T w hT hS
      refine g_wkc hT ?_
      (repeat (first | refine g_sq ?_ | refine g_rg ?_ | refine g_r0 ?_ | refine g_ok rfl rfl ?_ | refine g_no rfl ?_ | refine g_no0 rfl ?_ | refine g_bk ?_ | refine g_b ?_ | refine g_sk ?_ | refine g_cT rfl ?_ | refine g_cF rfl ?_ | refine g_x rfl ?_ | refine g_lb ?_))
      refine g_lm rfl rfl (hS.b 0 rfl) (by rw [wv_len (hw _ (List.getElem_mem hlt))]; decide) ?_
      rw [show List.take 129 (List.drop 0 (wv D.waits[k])) = wv D.waits[k] by rw [List.drop_zero, List.take_of_length_le (by rw [wv_len (hw _ (List.getElem_mem hlt))]; omega)]]
      (repeat (first | refine g_sq ?_ | refine g_rg ?_ | refine g_r0 ?_ | refine g_ok rfl rfl ?_ | refine g_no rfl ?_ | refine g_no0 rfl ?_ | refine g_bk ?_ | refine g_b ?_ | refine g_sk ?_ | refine g_cT rfl ?_ | refine g_cF rfl ?_ | refine g_x rfl ?_ | refine g_lb ?_))
      refine g_ef rfl (ef_yd rfl rfl ((hy k D.waits[k] w (List.getElem?_eq_getElem hlt) hS.tail).mono ?_))
      rintro v w' (⟨rfl, hS⟩ | ⟨rfl, hK⟩)
      · (repeat (first | refine g_sq ?_ | refine g_rg ?_ | refine g_r0 ?_ | refine g_ok rfl rfl ?_ | refine g_no rfl ?_ | refine g_no0 rfl ?_ | refine g_bk ?_ | refine g_b ?_ | refine g_sk ?_ | refine g_cT rfl ?_ | refine g_cF rfl ?_ | refine g_x rfl ?_ | refine g_lb ?_))
        refine g_rq rfl rfl (in64 (by simp only [arv]; omega)) ?_
        (repeat (first | refine g_sq ?_ | refine g_rg ?_ | refine g_r0 ?_ | refine g_ok rfl rfl ?_ | refine g_no rfl ?_ | refine g_no0 rfl ?_ | refine g_bk ?_ | refine g_b ?_ | refine g_sk ?_ | refine g_cT rfl ?_ | refine g_cF rfl ?_ | refine g_x rfl ?_ | refine g_lb ?_))
        exact g_l (k + 1) ⟨rfl, rfl, rfl, rfl, rfl, rfl, trivial⟩ ⟨by omega, hS⟩ (by omega)
      · (repeat (first | refine g_sq ?_ | refine g_rg ?_ | refine g_r0 ?_ | refine g_ok rfl rfl ?_ | refine g_no rfl ?_ | refine g_no0 rfl ?_ | refine g_bk ?_ | refine g_b ?_ | refine g_sk ?_ | refine g_cT rfl ?_ | refine g_cF rfl ?_ | refine g_x rfl ?_ | refine g_lb ?_))
        exact g_ret (q_0 hK)
  · have hlt : ¬ k < D.waits.length := by simp only [cmv, decide_eq_false_iff_not] at hc; omega
    have : k = D.waits.length := by omega
    subst this
    (repeat (first | refine g_sq ?_ | refine g_rg ?_ | refine g_r0 ?_ | refine g_ok rfl rfl ?_ | refine g_no rfl ?_ | refine g_no0 rfl ?_ | refine g_bk ?_ | refine g_b ?_ | refine g_sk ?_ | refine g_cT rfl ?_ | refine g_cF rfl ?_ | refine g_x rfl ?_ | refine g_lb ?_))
    exact q_n (he _ hS)
theorem d111 {L : List Res} {v : Value} (hS : St w0 S0 w L) (h : ∀ b4 b5 w', St w0 S0 w' (L ++ [cel b4 [dp b] 24] ++ [cel b5 v.cells.toList 37]) → K (.func (.func 126) ⟨[]⟩ ⟨[dp b4, dp b5]⟩) w') : CK Try.prog 111 [dp b, v] w K := by
  refine call_k Try.func111 k111 Try.ntmps111 (Nat.le_of_ble_eq_true rfl) ?_
  (repeat (first | refine g_sq ?_ | refine g_rg ?_ | refine g_r0 ?_ | refine g_ok rfl rfl ?_ | refine g_no rfl ?_ | refine g_no0 rfl ?_ | refine g_bk ?_ | refine g_b ?_ | refine g_sk ?_ | refine g_cT rfl ?_ | refine g_cF rfl ?_ | refine g_x rfl ?_ | refine g_lb ?_))
  refine g_ef rfl (ef_bx hS rfl fun b4 w hS => ?_)
  (repeat (first | refine g_sq ?_ | refine g_rg ?_ | refine g_r0 ?_ | refine g_ok rfl rfl ?_ | refine g_no rfl ?_ | refine g_no0 rfl ?_ | refine g_bk ?_ | refine g_b ?_ | refine g_sk ?_ | refine g_cT rfl ?_ | refine g_cF rfl ?_ | refine g_x rfl ?_ | refine g_lb ?_))
  refine g_ef rfl (ef_bx hS rfl fun b5 w hS => ?_)
  (repeat (first | refine g_sq ?_ | refine g_rg ?_ | refine g_r0 ?_ | refine g_ok rfl rfl ?_ | refine g_no rfl ?_ | refine g_no0 rfl ?_ | refine g_bk ?_ | refine g_b ?_ | refine g_sk ?_ | refine g_cT rfl ?_ | refine g_cF rfl ?_ | refine g_x rfl ?_ | refine g_lb ?_))
  exact g_ret (q_1 rfl (h _ _ _ hS))
end

/-- what a crash makes of the blocks -/
def crashC (f : Fal) : Nat → List (Int × List UInt8) → List (List UInt8) → List (List UInt8)
  | _, [], cs => cs
  | i, x :: xs, cs => if mny f i = 0 then cs else crashC f (i + 1) xs (putB cs x (mny f i).toNat)
theorem crash_app (f : Fal) : ∀ (xs ys : List (Int × List UInt8)) (i : Nat) (cs : List (List UInt8)), (∀ j, j < xs.length → mny f (i + j) ≠ 0) → crashC f i (xs ++ ys) cs = crashC f (i + xs.length) ys (crashC f i xs cs)
  | [], ys, i, cs, _ => rfl
  | x :: xs, ys, i, cs, h => by
    have h0 : mny f i ≠ 0 := h 0 (by simp)
    simp only [List.cons_append, crashC, if_neg h0, List.length_cons]
    rw [crash_app f xs ys (i + 1) _ (fun j hj => by have := h (j + 1) (by simpa using hj); rwa [show i + 1 + j = i + (j + 1) by omega])]
    congr 1
    omega
theorem crash_step {f : Fal} {ws : List (Int × List UInt8)} {cs : List (List UInt8)} {k : Nat} {x : Int × List UInt8} (h : ∀ j, j < k → mny f j ≠ 0) (hx : ws[k]? = some x) (h0 : mny f k ≠ 0) : crashC f 0 (ws.take (k + 1)) cs = putB (crashC f 0 (ws.take k) cs) x (mny f k).toNat := by
  have hlt := (List.getElem?_eq_some_iff.1 hx).1
  have hl : (ws.take k).length = k := by rw [List.length_take]; omega
  rw [List.take_add_one, hx, crash_app f _ _ 0 cs (fun j hj => by rw [Nat.zero_add]; exact h j (by omega)), hl]
  simp [crashC, h0]
theorem crash_stop {f : Fal} {ws : List (Int × List UInt8)} {cs : List (List UInt8)} {k : Nat} {x : Int × List UInt8} (h : ∀ j, j < k → mny f j ≠ 0) (hx : ws[k]? = some x) (h0 : mny f k = 0) : crashC f 0 ws cs = crashC f 0 (ws.take k) cs := by
  have hlt := (List.getElem?_eq_some_iff.1 hx).1
  have hl : (ws.take k).length = k := by rw [List.length_take]; omega
  conv => lhs; rw [← List.take_append_drop k ws]
  rw [crash_app f _ _ 0 cs (fun j hj => by rw [Nat.zero_add]; exact h j (by omega)), hl, List.drop_eq_getElem_cons hlt]
  simp [crashC, h0]
theorem putB_len (cs : List (List UInt8)) (x : Int × List UInt8) (m : Nat) : (putB cs x m).length = cs.length := by simp [putB]
theorem putB_mem {cs : List (List UInt8)} {x : Int × List UInt8} {m : Nat} (hc : ∀ c ∈ cs, c.length = 128) (hx : x.2.length = 128) (hlt : x.1.toNat < cs.length) (hm : m ≤ 128) : ∀ c ∈ putB cs x m, c.length = 128 := by
  intro c h
  simp only [putB] at h
  rcases List.mem_or_eq_of_mem_set h with h | h
  · exact hc c h
  · subst h
    simp only [List.length_append, List.length_take, List.length_drop, List.getD_eq_getElem?_getD, List.getElem?_eq_getElem hlt, Option.getD_some]
    rw [hc _ (List.getElem_mem hlt), hx]
    omega
theorem mny_le (f : Fal) (i : Nat) : 0 ≤ mny f i ∧ mny f i ≤ 128 := by
  unfold mny
  split
  · omega
  · split <;> omega
theorem crashC_len (f : Fal) : ∀ (ws : List (Int × List UInt8)) (i : Nat) (cs : List (List UInt8)), (crashC f i ws cs).length = cs.length
  | [], i, cs => rfl
  | x :: xs, i, cs => by
    simp only [crashC]
    split
    · rfl
    · rw [crashC_len f xs, putB_len]
theorem crashC_mem (f : Fal) : ∀ (ws : List (Int × List UInt8)) (i : Nat) (cs : List (List UInt8)), (∀ c ∈ cs, c.length = 128) → (∀ x ∈ ws, x.2.length = 128 ∧ 0 ≤ x.1 ∧ x.1 < cs.length) → ∀ c ∈ crashC f i ws cs, c.length = 128
  | [], i, cs, h, _ => h
  | x :: xs, i, cs, h, hw => by
    simp only [crashC]
    split
    · exact h
    · have hx := hw x (by simp)
      have hm := mny_le f i
      refine crashC_mem f xs _ _ (putB_mem h hx.1 (by omega) (by omega)) (fun y hy => ?_)
      rw [putB_len]
      exact hw y (by simp [hy])

end Go.Proofs.Ytegjocpjmfaigaa
namespace Go.Proofs.Ytegjocpjmfaigaa
open Go.En

section
variable {w w0 : World} {S0 : Nat → Prop} {K : Value → World → Prop} {b bc cap : Nat} {vw : Value} {D : Dev}
def falV (f : Fal) : Value := .agg ⟨[.int .i64 f.a, .int .i64 f.k, .int .i64 f.t]⟩
theorem spl_wv {x : Int × List UInt8} (h : x.2.length = 128) : spl (zx [(1, Value.int .i64 0), (128, Value.int .u8 0)]) 0 (wv x) = wv x := by
  have h1 := wv_len h
  simp [spl, h1, zx]
theorem take_wv {x : Int × List UInt8} (h : x.2.length = 128) : List.take 129 (List.drop 0 (wv x)) = wv x := by
  rw [List.drop_zero, List.take_of_length_le (by rw [wv_len h]; omega)]
theorem d84 {f : Fal} {cells : List (List UInt8)} {rest : List Value} (hc : ∀ c ∈ cells, c.length = 128) (hw : ∀ x ∈ D.waits, x.2.length = 128 ∧ 0 ≤ x.1 ∧ x.1 < cells.length) (hn : D.waits.length < 1152921504606846976)
    (hS : St w0 S0 w [cel b (DevC (.slice (some ⟨bc, 0, none⟩) cells.length cap) vw D) 65, cel bc (fc cells ++ rest) 122, row vw 124 129 D.waits.length (fw D.waits)])
    (h : ∀ w', St w0 S0 w' [cel b (DevC (.slice (some ⟨bc, 0, none⟩) cells.length cap) (.slice none 0 0) { D with waits := [], down := true, fall := ⟨0, 0, 0⟩ }) 65, cel bc (fc (crashC f 0 D.waits cells) ++ rest) 122, row (.slice none 0 0) 124 129 0 []] → K (.tuple ⟨[]⟩) w') :
    CK Try.prog 84 [dp b, falV f] w K := by
  refine call_k Try.func84 k84 Try.ntmps84 (Nat.le_of_ble_eq_true rfl) ?_
  (repeat (first | refine g_sq ?_ | refine g_rg ?_ | refine g_r0 ?_ | refine g_ok rfl rfl ?_ | refine g_no rfl ?_ | refine g_no0 rfl ?_ | refine g_bk ?_ | refine g_b ?_ | refine g_sk ?_ | refine g_cT rfl ?_ | refine g_cF rfl ?_ | refine g_x rfl ?_ | refine g_lb ?_))
  refine g_ef rfl (ef_bx hS rfl fun b2 w hS => ?_)
  (repeat (first | refine g_sq ?_ | refine g_rg ?_ | refine g_r0 ?_ | refine g_ok rfl rfl ?_ | refine g_no rfl ?_ | refine g_no0 rfl ?_ | refine g_bk ?_ | refine g_b ?_ | refine g_sk ?_ | refine g_cT rfl ?_ | refine g_cF rfl ?_ | refine g_x rfl ?_ | refine g_lb ?_))
  refine g_ef rfl (ef_bx hS rfl fun b3 w hS => ?_)
  (repeat (first | refine g_sq ?_ | refine g_rg ?_ | refine g_r0 ?_ | refine g_ok rfl rfl ?_ | refine g_no rfl ?_ | refine g_no0 rfl ?_ | refine g_bk ?_ | refine g_b ?_ | refine g_sk ?_ | refine g_cT rfl ?_ | refine g_cF rfl ?_ | refine g_x rfl ?_ | refine g_lb ?_))
  refine g_sc rfl ?_
  (repeat (first | refine g_sq ?_ | refine g_rg ?_ | refine g_r0 ?_ | refine g_ok rfl rfl ?_ | refine g_no rfl ?_ | refine g_no0 rfl ?_ | refine g_bk ?_ | refine g_b ?_ | refine g_sk ?_ | refine g_cT rfl ?_ | refine g_cF rfl ?_ | refine g_x rfl ?_ | refine g_lb ?_))
  refine g_l1 rfl rfl (hS.b  3 rfl) rfl ?_
  refine g_lm rfl rfl (hS.b 4 rfl) (Nat.le_of_ble_eq_true rfl) ?_
  (repeat (first | refine g_sq ?_ | refine g_rg ?_ | refine g_r0 ?_ | refine g_ok rfl rfl ?_ | refine g_no rfl ?_ | refine g_no0 rfl ?_ | refine g_bk ?_ | refine g_b ?_ | refine g_sk ?_ | refine g_cT rfl ?_ | refine g_cF rfl ?_ | refine g_x rfl ?_ | refine g_lb ?_))
  refine g_cl rfl rfl (d111 hS fun b4 b5 w hS => ?_)
  refine g_r0 ?_
  refine g_atd 1 [(2, dp b2), (0, dp b)] (fun D1 w => ∃ dB, D1 = [⟨.collected dB, #[]⟩] ∧ St w0 S0 w [cel b (DevC (.slice (some ⟨bc, 0, none⟩) cells.length cap) vw D) 65, cel bc (fc (crashC f 0 D.waits cells) ++ rest) 122, cel b2 [dp b] 24, obj dB (.deferred (some []))]) rfl ?_ ?_
  · (repeat (first | refine g_sq ?_ | refine g_rg ?_ | refine g_r0 ?_ | refine g_ok rfl rfl ?_ | refine g_no rfl ?_ | refine g_no0 rfl ?_ | refine g_bk ?_ | refine g_b ?_ | refine g_sk ?_ | refine g_cT rfl ?_ | refine g_cF rfl ?_ | refine g_x rfl ?_ | refine g_lb ?_))
    refine g_wkc (T' := [(8, .func (.func 126) ⟨[]⟩ ⟨[dp b4, dp b5]⟩), (2, dp b2), (0, dp b)]) ⟨rfl, rfl, rfl, trivial⟩ ?_
    refine g_rf (cap := [dp b4, dp b5]) (first := []) hS rfl (callFunc_of Try.func126 rfl rfl) fun l dB w hS => ?_
    have hS := (hS.sel [0, 5, 6, 2, 1, 3, 7, 8] rfl rfl).fact (p := ∀ j, j < 0 → mny f j ≠ 0) (fun j hj => absurd hj (Nat.not_lt_zero j))
    refine d126 (f := f) (b4 := b4) (b5 := b5) (X := fun k => [cel bc (fc (crashC f 0 (D.waits.take k) cells) ++ rest) 122, cel b2 [dp b] 24, obj dB (.deferred (some [])), lpR Try.prog l 27 [(8, .func (.func 126) ⟨[]⟩ ⟨[dp b4, dp b5]⟩), (2, dp b2), (0, dp b)] [9, 10] m84u0 m84v0 .ready none, emp.when (∀ j, j < k → mny f j ≠ 0)]) (fun x hx => (hw x hx).1) hn (by simp only [List.take_zero, crashC]; exact hS) ?_ ?_
    · clear hS
      intro k x w hx hS
      have hxw := hw x (List.mem_of_getElem? hx)
      have hlt := (List.getElem?_eq_some_iff.1 hx).1
      have hfact : ∀ j, j < k → mny f j ≠ 0 := (hS.ok 8 _ rfl).1
      have hm := mny_le f k
      refine yd_of hS 7 rfl rfl ?_
      (repeat (first | refine g_sq ?_ | refine g_rg ?_ | refine g_r0 ?_ | refine g_ok rfl rfl ?_ | refine g_no rfl ?_ | refine g_no0 rfl ?_ | refine g_bk ?_ | refine g_b ?_ | refine g_sk ?_ | refine g_cT rfl ?_ | refine g_cF rfl ?_ | refine g_x rfl ?_ | refine g_lb ?_))
      refine g_ef rfl (ef_al hS fun g w hS => ?_)
      refine g_ef0 rfl (ef_st hS 9 rfl rfl rfl (wv_len hxw.1) (by simp [zx]) (wv_one _) fun w hS => ?_)
      have hS := hS.ceq 9 rfl (spl_wv hxw.1)
      (repeat (first | refine g_sq ?_ | refine g_rg ?_ | refine g_r0 ?_ | refine g_ok rfl rfl ?_ | refine g_no rfl ?_ | refine g_no0 rfl ?_ | refine g_bk ?_ | refine g_b ?_ | refine g_sk ?_ | refine g_cT rfl ?_ | refine g_cF rfl ?_ | refine g_x rfl ?_ | refine g_lb ?_))
      refine ⟨rfl, _, _, hS, rfl, fun w hS => ?_⟩
      (repeat (first | refine g_sq ?_ | refine g_rg ?_ | refine g_r0 ?_ | refine g_ok rfl rfl ?_ | refine g_no rfl ?_ | refine g_no0 rfl ?_ | refine g_bk ?_ | refine g_b ?_ | refine g_sk ?_ | refine g_cT rfl ?_ | refine g_cF rfl ?_ | refine g_x rfl ?_ | refine g_lb ?_))
      refine g_cd rfl (fun h0 => ?_) (fun h0 => ?_)
      all_goals simp only [cmv, decide_eq_true_eq, decide_eq_false_iff_not] at h0
      · refine g_xt (k_xo rfl ?_)
        refine ⟨_, _, hS, rfl, fun w hS => .inr ⟨rfl, ?_⟩⟩
        have hS := hS.sel [0, 4, 5, 6, 7] rfl rfl
        refine ⟨_, 4, _, _, hS, rfl, (fun h => nomatch h), fun w hS => ?_⟩
        refine k_xt rfl (g_jd ⟨rfl, rfl, trivial⟩ ⟨dB, rfl, ?_⟩)
        rw [crash_stop hfact hx h0]
        exact hS.sel [0, 1, 2, 3] rfl rfl
      · (repeat (first | refine g_sq ?_ | refine g_rg ?_ | refine g_r0 ?_ | refine g_ok rfl rfl ?_ | refine g_no rfl ?_ | refine g_no0 rfl ?_ | refine g_bk ?_ | refine g_b ?_ | refine g_sk ?_ | refine g_cT rfl ?_ | refine g_cF rfl ?_ | refine g_x rfl ?_ | refine g_lb ?_))
        refine g_l1 rfl rfl (hS.b  5 rfl) rfl ?_
        refine g_lm rfl rfl (hS.b 9 rfl) (by rw [wv_len hxw.1]; decide) ?_
        rw [take_wv hxw.1]
        (repeat (first | refine g_sq ?_ | refine g_rg ?_ | refine g_r0 ?_ | refine g_ok rfl rfl ?_ | refine g_no rfl ?_ | refine g_no0 rfl ?_ | refine g_bk ?_ | refine g_b ?_ | refine g_sk ?_ | refine g_cT rfl ?_ | refine g_cF rfl ?_ | refine g_x rfl ?_ | refine g_lb ?_))
        have hS := hS.sel [0, 4, 1, 2, 3, 5, 6, 7] rfl rfl
        have hfm : ∀ c ∈ crashC f 0 (D.waits.take k) cells, c.length = 128 := crashC_mem f _ _ _ hc (fun y hy => hw y (List.mem_of_mem_take hy))
        have hcl : (crashC f 0 (D.waits.take k) cells).length = cells.length := crashC_len f _ _ _
        rw [← hcl] at hS
        refine g_cl rfl rfl (CK.fr (A := [_, _]) hS (fun hS h => d82 hS hfm hxw.1 (by rw [hcl]; exact hxw.2) hm h) fun w hS => ?_)
        (repeat (first | refine g_sq ?_ | refine g_rg ?_ | refine g_r0 ?_ | refine g_ok rfl rfl ?_ | refine g_no rfl ?_ | refine g_no0 rfl ?_ | refine g_bk ?_ | refine g_b ?_ | refine g_sk ?_ | refine g_cT rfl ?_ | refine g_cF rfl ?_ | refine g_x rfl ?_ | refine g_lb ?_))
        rw [← crash_step hfact hx h0, hcl] at hS
        refine ⟨_, _, hS.sel [0, 2, 3, 4, 1, 5, 6, 7] rfl rfl, rfl, fun w hS => .inl ⟨rfl, ?_⟩⟩
        refine hS.fact (p := ∀ j, j < k + 1 → mny f j ≠ 0) (fun j hj => ?_)
        by_cases e : j = k
        · subst e; exact h0
        · exact hfact j (by omega)
    · clear hS
      intro w hS
      refine ⟨_, 7, _, _, hS, rfl, (fun h => nomatch h), fun w hS => ?_⟩
      refine g_b (g_jd ⟨rfl, rfl, trivial⟩ ⟨dB, rfl, ?_⟩)
      have hS := hS.sel [0, 4, 5, 6] rfl rfl
      rw [List.take_length] at hS
      exact hS
  · clear hS
    rintro T D1 w hT ⟨dB, rfl, hS⟩
    refine g_wkc hT ?_
    refine g_dr mixed ?_
    have hS := hS.drew
    refine d_l1 rfl rfl rfl (hS.b 2 rfl) rfl ?_
    refine d_l1 rfl rfl rfl (hS.b 2 rfl) rfl ?_
    refine d_l1 rfl rfl rfl (hS.b 2 rfl) rfl ?_
    (repeat (first | refine d_ok rfl rfl rfl ?_ | refine d_no rfl rfl ?_))
    refine d_e0 rfl rfl ?_
    refine ef_st hS 0 rfl rfl rfl rfl (Nat.le_of_ble_eq_true rfl) rfl fun w hS => ⟨rc_1 rfl rfl rfl rfl (hS.b 2 rfl) rfl (rc_1 rfl rfl rfl rfl (hS.b 2 rfl) rfl rc_0), ?_⟩
    (repeat (first | refine d_ok rfl rfl rfl ?_ | refine d_no rfl rfl ?_))
    refine d_e0 rfl rfl ?_
    refine ef_st hS 0 rfl rfl rfl rfl (Nat.le_of_ble_eq_true rfl) rfl fun w hS => ⟨rc_1 rfl rfl rfl rfl (hS.b 2 rfl) rfl rc_0, ?_⟩
    (repeat (first | refine d_ok rfl rfl rfl ?_ | refine d_no rfl rfl ?_))
    refine d_e0 rfl rfl ?_
    refine ef_st hS 0 rfl rfl rfl rfl (Nat.le_of_ble_eq_true rfl) rfl fun w hS => ⟨rc_0, ?_⟩
    refine d_fin (g_s ?_)
    refine q_dn hS 3 rfl fun w hS => q_n (h _ ?_)
    have hS := hS.nilrow 124 129
    exact hS.sel [0, 1, 4] rfl rfl
end
end Go.Proofs.Ytegjocpjmfaigaa
namespace Go.Proofs.Ytegjocpjmfaigaa
open Go.En

def Dev.wf (D : Dev) : Prop := D.cells ≠ [] ∧ (∀ c ∈ D.cells, c.length = 128) ∧ (∀ x ∈ D.waits, x.2.length = 128 ∧ 0 ≤ x.1 ∧ x.1 < D.cells.length) ∧ D.waits.length < 1152921504
def DevB (b : Nat) (D : Dev) (x : Value × Value) : Res := ((cel b (DevC x.1 x.2 D) 65).and ((row x.1 122 128 D.cells.length (fc D.cells)).and (row x.2 124 129 D.waits.length (fw D.waits)))).when D.wf
def DevR (S : Nat → Prop) (b : Nat) (D : Dev) : Res := Ex S (DevB b D)

section
variable {w w0 : World} {S0 S : Nat → Prop} {K : Value → World → Prop} {b bc cap : Nat} {vw : Value} {D : Dev} {B : List Res}
theorem fc_len {cells : List (List UInt8)} (hc : ∀ c ∈ cells, c.length = 128) : (fc cells).length = cells.length * 128 := by
  rw [fc, flat_len (k := 128) (fun l hl => by simp only [List.mem_map] at hl; obtain ⟨c, hcm, rfl⟩ := hl; simpa using hc c hcm), List.length_map]
theorem fw_len {ws : List (Int × List UInt8)} (hw : ∀ x ∈ ws, x.2.length = 128) : (fw ws).length = ws.length * 129 := by
  rw [fw, flat_len (k := 129) (wv_flat hw), List.length_map]
theorem DevR.opn (hS : St w0 S0 w (DevR S b D :: B)) : D.wf ∧ ∃ bc cap rest a c, D.cells.length ≤ cap ∧ (fc D.cells ++ rest).length = cap * 128 ∧
    St w0 S0 w (cel b (DevC (.slice (some ⟨bc, 0, none⟩) D.cells.length cap) (.slice a D.waits.length c) D) 65 :: cel bc (fc D.cells ++ rest) 122 :: row (.slice a D.waits.length c) 124 129 D.waits.length (fw D.waits) :: B) := by
  obtain ⟨⟨vc, vw⟩, hS⟩ := hS.ex 0 rfl
  obtain ⟨hw, hS⟩ := hS.cond 0 rfl
  have hS := (hS.split 0 rfl).front
  have hS := (hS.split 0 rfl).front
  have hS : St w0 S0 w (row vw 124 129 D.waits.length (fw D.waits) :: row vc 122 128 D.cells.length (fc D.cells) :: cel b (DevC vc vw D) 65 :: B) := hS
  obtain ⟨a, c, rfl⟩ := hS.rlen 0 rfl
  have hp : 0 < D.cells.length := List.length_pos_iff.2 hw.1
  obtain ⟨bc, cap, rest, rfl, h1, h2, hS⟩ := hS.open_row 1 rfl (hS.rowb 1 rfl hp)
  refine ⟨hw, bc, cap, rest, a, c, h1, h2, ?_⟩
  have hS : St w0 S0 w (row (.slice a D.waits.length c) 124 129 D.waits.length (fw D.waits) :: cel bc (fc D.cells ++ rest) 122 :: cel b (DevC (.slice (some ⟨bc, 0, none⟩) D.cells.length cap) (.slice a D.waits.length c) D) 65 :: B) := hS
  refine hS.pick (2 :: 1 :: 0 :: (List.range B.length).map (· + 3)) _ ?_ ?_
  · intro k r hk
    match k, hk with
    | 0, hk => exact ⟨2, rfl, hk⟩
    | 1, hk => exact ⟨1, rfl, hk⟩
    | 2, hk => exact ⟨0, rfl, hk⟩
    | k + 3, hk =>
      have hk : B[k]? = some r := by simpa using hk
      have hlt := (List.getElem?_eq_some_iff.1 hk).1
      exact ⟨k + 3, by simp [hlt], by simpa using hk⟩
  · simp only [List.nodup_cons, List.mem_cons, List.mem_map, List.mem_range]
    refine ⟨by omega, by omega, ?_, ?_⟩
    · rintro ⟨j, _, hj⟩; omega
    · exact List.Pairwise.map _ (fun a b h => by omega) List.nodup_range
/-- taken apart, put together again -/
theorem DevR.cls {vc vw : Value} (hw : D.wf) (hS : St w0 S0 w (cel b (DevC vc vw D) 65 :: row vc 122 128 D.cells.length (fc D.cells) :: row vw 124 129 D.waits.length (fw D.waits) :: B)) : ∃ S', St w0 S0 w (DevR S' b D :: B) := by
  have hS := hS.merge 1 2 rfl rfl (by decide)
  have hS : St w0 S0 w (cel b (DevC vc vw D) 65 :: (row vc 122 128 D.cells.length (fc D.cells)).and (row vw 124 129 D.waits.length (fw D.waits)) :: emp :: B) := hS
  have hS := hS.merge 0 1 rfl rfl (by decide)
  have hS := hS.toWhen (p := D.wf) 0 rfl hw
  obtain ⟨S', hS⟩ := hS.toEx (F := DevB b D) (x := (vc, vw)) 0 rfl
  refine ⟨S', ?_⟩
  have hS : St w0 S0 w (DevR S' b D :: emp :: emp :: B) := hS
  exact St.sub (A := [DevR S' b D]) ((List.sublist_cons_self _ _).trans (List.sublist_cons_self _ _)) hS
theorem DevR.cls' {rest : List Value} (hw : D.wf) (hcap : D.cells.length ≤ cap) (hl : (fc D.cells ++ rest).length = cap * 128)
    (hS : St w0 S0 w (cel b (DevC (.slice (some ⟨bc, 0, none⟩) D.cells.length cap) vw D) 65 :: cel bc (fc D.cells ++ rest) 122 :: row vw 124 129 D.waits.length (fw D.waits) :: B)) : ∃ S', St w0 S0 w (DevR S' b D :: B) :=
  DevR.cls hw (hS.close_row 1 rfl hcap (fc_len hw.2.1) (List.prefix_append _ _) hl)
theorem DevR.blk (hS : St w0 S0 w (DevR S b D :: B)) : D.wf ∧ ∃ bc n cap a c, D.cells.length = n + 1 ∧ Blk w b (DevC (.slice (some ⟨bc, 0, none⟩) (n + 1) cap) (.slice a D.waits.length c) D) 65 := by
  obtain ⟨hw, bc, cap, rest, a, c, _, _, hS⟩ := DevR.opn hS
  have hp : 0 < D.cells.length := List.length_pos_iff.2 hw.1
  refine ⟨hw, bc, D.cells.length - 1, cap, a, c, by omega, ?_⟩
  rw [show D.cells.length - 1 + 1 = D.cells.length by omega]
  exact hS.b 0 rfl
/-- a device's contract among others -/
theorem CK.dev {f : FuncId} {args : List Value} {v : Value} {D' : Dev} (hS : St w0 S0 w (DevR S b D :: B)) (base : ∀ {w1 : World} {S1 : Nat → Prop} {K : Value → World → Prop}, St w1 S1 w [DevR S b D] → (∀ w' S', St w1 S1 w' [DevR S' b D'] → K v w') → CK Try.prog f args w K)
    (h : ∀ w' S', St w0 S0 w' (DevR S' b D' :: B) → K v w') : CK Try.prog f args w K :=
  base (St.frame (A := [DevR S b D]) (B := B) hS).1 fun w' S' h' => h w' S' ((St.frame (A := [DevR S b D]) (B := B) hS).2 w' [DevR S' b D'] h')

theorem d78' (hS : St w0 S0 w (DevR S b D :: B)) (h : K (.int .i64 (if D.down then 141 else 0)) w) : CK Try.prog 78 [dp b] w K := by
  obtain ⟨_, bc, n, cap, a, c, _, hB⟩ := DevR.blk hS
  exact d78 hB h
theorem d28 (hS : St w0 S0 w (DevR S b D :: B)) (h : K (.bool !D.down) w) : CK Try.prog 28 [dp b] w K := by
  obtain ⟨_, bc, n, cap, a, c, _, hB⟩ := DevR.blk hS
  refine call_k Try.func28 k28 Try.ntmps28 (Nat.le_of_ble_eq_true rfl) ?_
  (repeat (first | refine g_sq ?_ | refine g_rg ?_ | refine g_r0 ?_ | refine g_ok rfl rfl ?_ | refine g_no rfl ?_ | refine g_no0 rfl ?_ | refine g_bk ?_ | refine g_b ?_ | refine g_sk ?_ | refine g_cT rfl ?_ | refine g_cF rfl ?_ | refine g_x rfl ?_ | refine g_lb ?_))
  refine g_cl rfl rfl (d85 hB ?_)
  (repeat (first | refine g_sq ?_ | refine g_rg ?_ | refine g_r0 ?_ | refine g_ok rfl rfl ?_ | refine g_no rfl ?_ | refine g_no0 rfl ?_ | refine g_bk ?_ | refine g_b ?_ | refine g_sk ?_ | refine g_cT rfl ?_ | refine g_cF rfl ?_ | refine g_x rfl ?_ | refine g_lb ?_))
  refine g_l1 rfl rfl hB rfl ?_
  (repeat (first | refine g_sq ?_ | refine g_rg ?_ | refine g_r0 ?_ | refine g_ok rfl rfl ?_ | refine g_no rfl ?_ | refine g_no0 rfl ?_ | refine g_bk ?_ | refine g_b ?_ | refine g_sk ?_ | refine g_cT rfl ?_ | refine g_cF rfl ?_ | refine g_x rfl ?_ | refine g_lb ?_))
  exact g_ret (q_1 rfl h)
theorem d31 (hS : St w0 S0 w (DevR S b D :: B)) (h : K (.int .i64 D.waits.length) w) : CK Try.prog 31 [dp b] w K := by
  obtain ⟨_, bc, n, cap, a, c, _, hB⟩ := DevR.blk hS
  refine call_k Try.func31 k31 Try.ntmps31 (Nat.le_of_ble_eq_true rfl) ?_
  (repeat (first | refine g_sq ?_ | refine g_rg ?_ | refine g_r0 ?_ | refine g_ok rfl rfl ?_ | refine g_no rfl ?_ | refine g_no0 rfl ?_ | refine g_bk ?_ | refine g_b ?_ | refine g_sk ?_ | refine g_cT rfl ?_ | refine g_cF rfl ?_ | refine g_x rfl ?_ | refine g_lb ?_))
  refine g_cl rfl rfl (d85 hB ?_)
  (repeat (first | refine g_sq ?_ | refine g_rg ?_ | refine g_r0 ?_ | refine g_ok rfl rfl ?_ | refine g_no rfl ?_ | refine g_no0 rfl ?_ | refine g_bk ?_ | refine g_b ?_ | refine g_sk ?_ | refine g_cT rfl ?_ | refine g_cF rfl ?_ | refine g_x rfl ?_ | refine g_lb ?_))
  refine g_l1 rfl rfl hB rfl ?_
  (repeat (first | refine g_sq ?_ | refine g_rg ?_ | refine g_r0 ?_ | refine g_ok rfl rfl ?_ | refine g_no rfl ?_ | refine g_no0 rfl ?_ | refine g_bk ?_ | refine g_b ?_ | refine g_sk ?_ | refine g_cT rfl ?_ | refine g_cF rfl ?_ | refine g_x rfl ?_ | refine g_lb ?_))
  exact g_ret (q_1 rfl h)
theorem d34 (hS : St w0 S0 w (DevR S b D :: B)) (h : K (.int .i64 D.many) w) : CK Try.prog 34 [dp b] w K := by
  obtain ⟨_, bc, n, cap, a, c, _, hB⟩ := DevR.blk hS
  refine call_k Try.func34 k34 Try.ntmps34 (Nat.le_of_ble_eq_true rfl) ?_
  (repeat (first | refine g_sq ?_ | refine g_rg ?_ | refine g_r0 ?_ | refine g_ok rfl rfl ?_ | refine g_no rfl ?_ | refine g_no0 rfl ?_ | refine g_bk ?_ | refine g_b ?_ | refine g_sk ?_ | refine g_cT rfl ?_ | refine g_cF rfl ?_ | refine g_x rfl ?_ | refine g_lb ?_))
  refine g_cl rfl rfl (d85 hB ?_)
  (repeat (first | refine g_sq ?_ | refine g_rg ?_ | refine g_r0 ?_ | refine g_ok rfl rfl ?_ | refine g_no rfl ?_ | refine g_no0 rfl ?_ | refine g_bk ?_ | refine g_b ?_ | refine g_sk ?_ | refine g_cT rfl ?_ | refine g_cF rfl ?_ | refine g_x rfl ?_ | refine g_lb ?_))
  refine g_l1 rfl rfl hB rfl ?_
  (repeat (first | refine g_sq ?_ | refine g_rg ?_ | refine g_r0 ?_ | refine g_ok rfl rfl ?_ | refine g_no rfl ?_ | refine g_no0 rfl ?_ | refine g_bk ?_ | refine g_b ?_ | refine g_sk ?_ | refine g_cT rfl ?_ | refine g_cF rfl ?_ | refine g_x rfl ?_ | refine g_lb ?_))
  exact g_ret (q_1 rfl h)
theorem d36 (hS : St w0 S0 w (DevR S b D :: B)) (h : K (.int .i64 D.cells.length) w) : CK Try.prog 36 [dp b] w K := by
  obtain ⟨_, bc, n, cap, a, c, e, hB⟩ := DevR.blk hS
  rw [e] at h
  refine call_k Try.func36 k36 Try.ntmps36 (Nat.le_of_ble_eq_true rfl) ?_
  (repeat (first | refine g_sq ?_ | refine g_rg ?_ | refine g_r0 ?_ | refine g_ok rfl rfl ?_ | refine g_no rfl ?_ | refine g_no0 rfl ?_ | refine g_bk ?_ | refine g_b ?_ | refine g_sk ?_ | refine g_cT rfl ?_ | refine g_cF rfl ?_ | refine g_x rfl ?_ | refine g_lb ?_))
  refine g_cl rfl rfl (d85 hB ?_)
  (repeat (first | refine g_sq ?_ | refine g_rg ?_ | refine g_r0 ?_ | refine g_ok rfl rfl ?_ | refine g_no rfl ?_ | refine g_no0 rfl ?_ | refine g_bk ?_ | refine g_b ?_ | refine g_sk ?_ | refine g_cT rfl ?_ | refine g_cF rfl ?_ | refine g_x rfl ?_ | refine g_lb ?_))
  refine g_l1 rfl rfl hB rfl ?_
  (repeat (first | refine g_sq ?_ | refine g_rg ?_ | refine g_r0 ?_ | refine g_ok rfl rfl ?_ | refine g_no rfl ?_ | refine g_no0 rfl ?_ | refine g_bk ?_ | refine g_b ?_ | refine g_sk ?_ | refine g_cT rfl ?_ | refine g_cF rfl ?_ | refine g_x rfl ?_ | refine g_lb ?_))
  exact g_ret (q_1 rfl h)
/-- of none -/
theorem n85 (h : K (.bool true) w) : CK Try.prog 85 [.pointer none] w K := by
  refine call_k Try.func85 k85 Try.ntmps85 (Nat.le_of_ble_eq_true rfl) ?_
  (repeat (first | refine g_sq ?_ | refine g_rg ?_ | refine g_r0 ?_ | refine g_ok rfl rfl ?_ | refine g_no rfl ?_ | refine g_no0 rfl ?_ | refine g_bk ?_ | refine g_b ?_ | refine g_sk ?_ | refine g_cT rfl ?_ | refine g_cF rfl ?_ | refine g_x rfl ?_ | refine g_lb ?_))
  exact g_ret (q_1 rfl h)
theorem n78 (h : K (.int .i64 1) w) : CK Try.prog 78 [.pointer none] w K := by
  refine call_k Try.func78 k78 Try.ntmps78 (Nat.le_of_ble_eq_true rfl) ?_
  (repeat (first | refine g_sq ?_ | refine g_rg ?_ | refine g_r0 ?_ | refine g_ok rfl rfl ?_ | refine g_no rfl ?_ | refine g_no0 rfl ?_ | refine g_bk ?_ | refine g_b ?_ | refine g_sk ?_ | refine g_cT rfl ?_ | refine g_cF rfl ?_ | refine g_x rfl ?_ | refine g_lb ?_))
  refine g_cl rfl rfl (n85 ?_)
  (repeat (first | refine g_sq ?_ | refine g_rg ?_ | refine g_r0 ?_ | refine g_ok rfl rfl ?_ | refine g_no rfl ?_ | refine g_no0 rfl ?_ | refine g_bk ?_ | refine g_b ?_ | refine g_sk ?_ | refine g_cT rfl ?_ | refine g_cF rfl ?_ | refine g_x rfl ?_ | refine g_lb ?_))
  exact g_ret (q_1 rfl h)
end
end Go.Proofs.Ytegjocpjmfaigaa
namespace Go.Proofs.Ytegjocpjmfaigaa
open Go.En

def Dev.crash (D : Dev) (f : Fal) : Dev := { D with cells := crashC f 0 D.waits D.cells, waits := [], down := true, fall := ⟨0, 0, 0⟩ }
def inc (n : Int) : Int := IntKind.i64.wrap (n + 1)
/-- one operation more -/
def Dev.oper (D : Dev) : Dev × Int := if 0 < D.fall.a ∧ inc D.since = D.fall.a then (Dev.crash { D with since := inc D.since } D.fall, 141) else ({ D with since := inc D.since, many := inc D.many }, 0)
theorem Dev.wf.crash {D : Dev} (h : D.wf) (f : Fal) : (D.crash f).wf :=
  ⟨fun e => h.1 (List.length_eq_zero_iff.1 (by rw [← crashC_len f D.waits 0 D.cells]; exact List.length_eq_zero_iff.2 e)), crashC_mem f _ _ _ h.2.1 (fun x hx => h.2.2.1 x hx), (fun x hx => nomatch hx), Nat.lt_of_le_of_lt (Nat.zero_le _) h.2.2.2⟩

section
variable {w w0 : World} {S0 S : Nat → Prop} {K : Value → World → Prop} {b : Nat} {D : Dev} {B : List Res}
theorem b84 {f : Fal} (hS : St w0 S0 w [DevR S b D]) (h : ∀ w' S', St w0 S0 w' [DevR S' b (D.crash f)] → K (.tuple ⟨[]⟩) w') : CK Try.prog 84 [dp b, falV f] w K := by
  obtain ⟨hw, bc, cap, rest, a, c, h1, h2, hS⟩ := DevR.opn hS
  refine d84 hw.2.1 hw.2.2.1 (Nat.lt_trans hw.2.2.2 (by decide)) hS fun w' hS => ?_
  have hl : (crashC f 0 D.waits D.cells).length = D.cells.length := crashC_len f _ _ _
  have hw' := hw.crash f
  obtain ⟨S', hS⟩ := DevR.cls' (D := D.crash f) (cap := cap) (rest := rest) (bc := bc) (b := b) (B := []) hw' (by rw [show (D.crash f).cells.length = D.cells.length from hl]; exact h1)
    (by rw [← h2, List.length_append, List.length_append, fc_len hw'.2.1, fc_len hw.2.1, show (D.crash f).cells.length = D.cells.length from hl]) (by
      have e : (D.crash f).cells.length = D.cells.length := hl
      rw [e]
      exact hS)
  exact h _ _ hS

theorem c84 {f : Fal} (hS : St w0 S0 w (DevR S b D :: B)) (h : ∀ w' S', St w0 S0 w' (DevR S' b (D.crash f) :: B) → K (.tuple ⟨[]⟩) w') : CK Try.prog 84 [dp b, falV f] w K := CK.dev hS b84 h
theorem b81 (hS : St w0 S0 w [DevR S b D]) (h : ∀ w' S', St w0 S0 w' [DevR S' b D.oper.1] → K (.int .i64 D.oper.2) w') : CK Try.prog 81 [dp b] w K := by
  obtain ⟨hw, bc, cap, rest, a, c, h1, h2, hS⟩ := DevR.opn hS
  refine call_k Try.func81 k81 Try.ntmps81 (Nat.le_of_ble_eq_true rfl) ?_
  (repeat (first | refine g_sq ?_ | refine g_rg ?_ | refine g_r0 ?_ | refine g_ok rfl rfl ?_ | refine g_no rfl ?_ | refine g_no0 rfl ?_ | refine g_bk ?_ | refine g_b ?_ | refine g_sk ?_ | refine g_cT rfl ?_ | refine g_cF rfl ?_ | refine g_x rfl ?_ | refine g_lb ?_))
  refine g_l1 rfl rfl (hS.b  0 rfl) rfl ?_
  (repeat (first | refine g_sq ?_ | refine g_rg ?_ | refine g_r0 ?_ | refine g_ok rfl rfl ?_ | refine g_no rfl ?_ | refine g_no0 rfl ?_ | refine g_bk ?_ | refine g_b ?_ | refine g_sk ?_ | refine g_cT rfl ?_ | refine g_cF rfl ?_ | refine g_x rfl ?_ | refine g_lb ?_))
  refine g_ef0 rfl (ef_st hS 0 rfl rfl rfl rfl (Nat.le_of_ble_eq_true rfl) rfl fun w hS => ?_)
  (repeat (first | refine g_sq ?_ | refine g_rg ?_ | refine g_r0 ?_ | refine g_ok rfl rfl ?_ | refine g_no rfl ?_ | refine g_no0 rfl ?_ | refine g_bk ?_ | refine g_b ?_ | refine g_sk ?_ | refine g_cT rfl ?_ | refine g_cF rfl ?_ | refine g_x rfl ?_ | refine g_lb ?_))
  refine g_dr mixed ?_
  have hS := hS.drew
  have hS : St _ _ _ [cel b (DevC (.slice (some ⟨bc, 0, none⟩) D.cells.length cap) (.slice a D.waits.length c) { D with since := inc D.since }) 65, cel bc (fc D.cells ++ rest) 122, row (.slice a D.waits.length c) 124 129 D.waits.length (fw D.waits)] := hS
  (repeat (first | refine d_ok rfl rfl rfl ?_ | refine d_no rfl rfl ?_))
  refine d_l1 rfl rfl rfl (hS.b 0 rfl) rfl ?_
  (repeat (first | refine d_ok rfl rfl rfl ?_ | refine d_no rfl rfl ?_))
  generalize hg : cmv BinOp.gtr D.fall.a 0 = g
  have e0 : ¬ (0 < D.fall.a ∧ inc D.since = D.fall.a) → D.oper = ({ D with since := inc D.since, many := inc D.many }, 0) := fun h => by simp only [Dev.oper, if_neg h]
  have e1 : (0 < D.fall.a ∧ inc D.since = D.fall.a) → D.oper = (Dev.crash { D with since := inc D.since } D.fall, 141) := fun h => by simp only [Dev.oper, if_pos h]
  have fin : ∀ {w'}, St w0 S0 w' [cel b (DevC (.slice (some ⟨bc, 0, none⟩) D.cells.length cap) (.slice a D.waits.length c) { D with since := inc D.since, many := inc D.many }) 65, cel bc (fc D.cells ++ rest) 122, row (.slice a D.waits.length c) 124 129 D.waits.length (fw D.waits)] → ¬ (0 < D.fall.a ∧ inc D.since = D.fall.a) → K (.int .i64 0) w' := by
    intro w' hS hn
    obtain ⟨S', hS⟩ := DevR.cls' (D := { D with since := inc D.since, many := inc D.many }) (cap := cap) (rest := rest) (bc := bc) (b := b) (B := []) hw h1 h2 hS
    rw [e0 hn] at h
    exact h _ _ hS
  cases g
  · have hn : ¬ (0 < D.fall.a ∧ inc D.since = D.fall.a) := by simp only [cmv, decide_eq_false_iff_not] at hg; omega
    (repeat (first | refine d_ok rfl rfl rfl ?_ | refine d_no rfl rfl ?_))
    refine d_fin ?_
    (repeat (first | refine g_sq ?_ | refine g_rg ?_ | refine g_r0 ?_ | refine g_ok rfl rfl ?_ | refine g_no rfl ?_ | refine g_no0 rfl ?_ | refine g_bk ?_ | refine g_b ?_ | refine g_sk ?_ | refine g_cT rfl ?_ | refine g_cF rfl ?_ | refine g_x rfl ?_ | refine g_lb ?_))
    refine g_l1 rfl rfl (hS.b  0 rfl) rfl ?_
    (repeat (first | refine g_sq ?_ | refine g_rg ?_ | refine g_r0 ?_ | refine g_ok rfl rfl ?_ | refine g_no rfl ?_ | refine g_no0 rfl ?_ | refine g_bk ?_ | refine g_b ?_ | refine g_sk ?_ | refine g_cT rfl ?_ | refine g_cF rfl ?_ | refine g_x rfl ?_ | refine g_lb ?_))
    refine g_ef0 rfl (ef_st hS 0 rfl rfl rfl rfl (Nat.le_of_ble_eq_true rfl) rfl fun w hS => ?_)
    (repeat (first | refine g_sq ?_ | refine g_rg ?_ | refine g_r0 ?_ | refine g_ok rfl rfl ?_ | refine g_no rfl ?_ | refine g_no0 rfl ?_ | refine g_bk ?_ | refine g_b ?_ | refine g_sk ?_ | refine g_cT rfl ?_ | refine g_cF rfl ?_ | refine g_x rfl ?_ | refine g_lb ?_))
    exact g_ret (q_1 rfl (fin hS hn))
  · (repeat (first | refine d_ok rfl rfl rfl ?_ | refine d_no rfl rfl ?_))
    refine d_l1 rfl rfl rfl (hS.b 0 rfl) rfl ?_
    (repeat (first | refine d_ok rfl rfl rfl ?_ | refine d_no rfl rfl ?_))
    refine d_l1 rfl rfl rfl (hS.b 0 rfl) rfl ?_
    (repeat (first | refine d_ok rfl rfl rfl ?_ | refine d_no rfl rfl ?_))
    refine d_fin ?_
    refine g_cd rfl (fun hc => ?_) (fun hc => ?_)
    · have hn : 0 < D.fall.a ∧ inc D.since = D.fall.a := by simp only [cmv, decide_eq_true_eq] at hg hc; exact ⟨hg, hc⟩
      rw [e1 hn] at h
      (repeat (first | refine g_sq ?_ | refine g_rg ?_ | refine g_r0 ?_ | refine g_ok rfl rfl ?_ | refine g_no rfl ?_ | refine g_no0 rfl ?_ | refine g_bk ?_ | refine g_b ?_ | refine g_sk ?_ | refine g_cT rfl ?_ | refine g_cF rfl ?_ | refine g_x rfl ?_ | refine g_lb ?_))
      refine g_lm rfl rfl (hS.b 0 rfl) (Nat.le_of_ble_eq_true rfl) ?_
      (repeat (first | refine g_sq ?_ | refine g_rg ?_ | refine g_r0 ?_ | refine g_ok rfl rfl ?_ | refine g_no rfl ?_ | refine g_no0 rfl ?_ | refine g_bk ?_ | refine g_b ?_ | refine g_sk ?_ | refine g_cT rfl ?_ | refine g_cF rfl ?_ | refine g_x rfl ?_ | refine g_lb ?_))
      obtain ⟨S', hS⟩ := DevR.cls' (D := { D with since := inc D.since }) (cap := cap) (rest := rest) (bc := bc) (b := b) (B := []) hw h1 h2 hS
      refine g_cl rfl rfl (c84 (f := D.fall) hS fun w S' hS => ?_)
      (repeat (first | refine g_sq ?_ | refine g_rg ?_ | refine g_r0 ?_ | refine g_ok rfl rfl ?_ | refine g_no rfl ?_ | refine g_no0 rfl ?_ | refine g_bk ?_ | refine g_b ?_ | refine g_sk ?_ | refine g_cT rfl ?_ | refine g_cF rfl ?_ | refine g_x rfl ?_ | refine g_lb ?_))
      exact g_ret (q_1 rfl (h _ _ hS))
    · have hn : ¬ (0 < D.fall.a ∧ inc D.since = D.fall.a) := by simp only [cmv, decide_eq_true_eq, decide_eq_false_iff_not] at hg hc; exact fun h => hc h.2
      (repeat (first | refine g_sq ?_ | refine g_rg ?_ | refine g_r0 ?_ | refine g_ok rfl rfl ?_ | refine g_no rfl ?_ | refine g_no0 rfl ?_ | refine g_bk ?_ | refine g_b ?_ | refine g_sk ?_ | refine g_cT rfl ?_ | refine g_cF rfl ?_ | refine g_x rfl ?_ | refine g_lb ?_))
      refine g_l1 rfl rfl (hS.b  0 rfl) rfl ?_
      (repeat (first | refine g_sq ?_ | refine g_rg ?_ | refine g_r0 ?_ | refine g_ok rfl rfl ?_ | refine g_no rfl ?_ | refine g_no0 rfl ?_ | refine g_bk ?_ | refine g_b ?_ | refine g_sk ?_ | refine g_cT rfl ?_ | refine g_cF rfl ?_ | refine g_x rfl ?_ | refine g_lb ?_))
      refine g_ef0 rfl (ef_st hS 0 rfl rfl rfl rfl (Nat.le_of_ble_eq_true rfl) rfl fun w hS => ?_)
      (repeat (first | refine g_sq ?_ | refine g_rg ?_ | refine g_r0 ?_ | refine g_ok rfl rfl ?_ | refine g_no rfl ?_ | refine g_no0 rfl ?_ | refine g_bk ?_ | refine g_b ?_ | refine g_sk ?_ | refine g_cT rfl ?_ | refine g_cF rfl ?_ | refine g_x rfl ?_ | refine g_lb ?_))
      exact g_ret (q_1 rfl (fin hS hn))
theorem c81 (hS : St w0 S0 w (DevR S b D :: B)) (h : ∀ w' S', St w0 S0 w' (DevR S' b D.oper.1 :: B) → K (.int .i64 D.oper.2) w') : CK Try.prog 81 [dp b] w K := CK.dev hS b81 h
end
end Go.Proofs.Ytegjocpjmfaigaa
namespace Go.Proofs.Ytegjocpjmfaigaa
open Go.En

def Dev.boot (D : Dev) : Dev := { D with waits := [], down := false }
def Dev.arm (D : Dev) (f : Fal) : Dev := { D with fall := f, since := 0 }
def putAll (cs : List (List UInt8)) (ws : List (Int × List UInt8)) : List (List UInt8) := ws.foldl (fun cs x => putB cs x 128) cs
def Dev.sync1 (D : Dev) : Dev := { D with cells := putAll D.cells D.waits, waits := [] }
theorem Dev.wf.boot {D : Dev} (h : D.wf) : D.boot.wf := ⟨h.1, h.2.1, (fun x hx => nomatch hx), Nat.lt_of_le_of_lt (Nat.zero_le _) h.2.2.2⟩
theorem putAll_len : ∀ (ws : List (Int × List UInt8)) (cs : List (List UInt8)), (putAll cs ws).length = cs.length
  | [], cs => rfl
  | x :: ws, cs => (putAll_len ws (putB cs x 128)).trans (putB_len _ _ _)
theorem putAll_mem : ∀ (ws : List (Int × List UInt8)) (cs : List (List UInt8)), (∀ c ∈ cs, c.length = 128) → (∀ x ∈ ws, x.2.length = 128 ∧ 0 ≤ x.1 ∧ x.1 < cs.length) → ∀ c ∈ putAll cs ws, c.length = 128
  | [], cs, h, _ => h
  | x :: ws, cs, h, hw => by
    have hx := hw x (by simp)
    refine putAll_mem ws _ (putB_mem h hx.1 (by omega) (by omega)) (fun y hy => ?_)
    rw [putB_len]
    exact hw y (by simp [hy])
theorem putAll_step {ws : List (Int × List UInt8)} {cs : List (List UInt8)} {k : Nat} {x : Int × List UInt8} (hx : ws[k]? = some x) : putAll cs (ws.take (k + 1)) = putB (putAll cs (ws.take k)) x 128 := by
  rw [List.take_add_one, hx, putAll, List.foldl_append]
  rfl
theorem Dev.wf.sync1 {D : Dev} (h : D.wf) : D.sync1.wf :=
  ⟨fun e => h.1 (List.length_eq_zero_iff.1 (by rw [← putAll_len D.waits D.cells]; exact List.length_eq_zero_iff.2 e)), putAll_mem _ _ h.2.1 h.2.2.1, (fun x hx => nomatch hx), Nat.lt_of_le_of_lt (Nat.zero_le _) h.2.2.2⟩

section
variable {w w0 : World} {S0 S : Nat → Prop} {K : Value → World → Prop} {b : Nat} {D : Dev} {B : List Res}
theorem b29 (hS : St w0 S0 w [DevR S b D]) (h : ∀ w' S', St w0 S0 w' [DevR S' b D.boot] → K (.int .i64 0) w') : CK Try.prog 29 [dp b] w K := by
  obtain ⟨hw, bc, cap, rest, a, c, h1, h2, hS⟩ := DevR.opn hS
  obtain ⟨n, hn⟩ : ∃ n, D.cells.length = n + 1 := ⟨D.cells.length - 1, by have := List.length_pos_iff.2 hw.1; omega⟩
  refine call_k Try.func29 k29 Try.ntmps29 (Nat.le_of_ble_eq_true rfl) ?_
  (repeat (first | refine g_sq ?_ | refine g_rg ?_ | refine g_r0 ?_ | refine g_ok rfl rfl ?_ | refine g_no rfl ?_ | refine g_no0 rfl ?_ | refine g_bk ?_ | refine g_b ?_ | refine g_sk ?_ | refine g_cT rfl ?_ | refine g_cF rfl ?_ | refine g_x rfl ?_ | refine g_lb ?_))
  refine g_cl rfl rfl (d85 (hS.b 0 rfl) ?_)
  rw [show decide (D.cells.length = 0) = false by rw [hn]; rfl]
  (repeat (first | refine g_sq ?_ | refine g_rg ?_ | refine g_r0 ?_ | refine g_ok rfl rfl ?_ | refine g_no rfl ?_ | refine g_no0 rfl ?_ | refine g_bk ?_ | refine g_b ?_ | refine g_sk ?_ | refine g_cT rfl ?_ | refine g_cF rfl ?_ | refine g_x rfl ?_ | refine g_lb ?_))
  refine g_ef0 rfl (ef_st hS 0 rfl rfl rfl rfl (Nat.le_of_ble_eq_true rfl) rfl fun w hS => ?_)
  (repeat (first | refine g_sq ?_ | refine g_rg ?_ | refine g_r0 ?_ | refine g_ok rfl rfl ?_ | refine g_no rfl ?_ | refine g_no0 rfl ?_ | refine g_bk ?_ | refine g_b ?_ | refine g_sk ?_ | refine g_cT rfl ?_ | refine g_cF rfl ?_ | refine g_x rfl ?_ | refine g_lb ?_))
  refine g_ef0 rfl (ef_st hS 0 rfl rfl rfl rfl (Nat.le_of_ble_eq_true rfl) rfl fun w hS => ?_)
  (repeat (first | refine g_sq ?_ | refine g_rg ?_ | refine g_r0 ?_ | refine g_ok rfl rfl ?_ | refine g_no rfl ?_ | refine g_no0 rfl ?_ | refine g_bk ?_ | refine g_b ?_ | refine g_sk ?_ | refine g_cT rfl ?_ | refine g_cF rfl ?_ | refine g_x rfl ?_ | refine g_lb ?_))
  refine g_ret (q_1 rfl ?_)
  have hS := (hS.nilrow 124 129).sel [0, 1, 3] rfl rfl
  obtain ⟨S', hS⟩ := DevR.cls' (D := D.boot) (vw := .slice none 0 0) (cap := cap) (rest := rest) (bc := bc) (b := b) (B := []) hw.boot h1 h2 hS
  exact h _ _ hS
theorem c29 (hS : St w0 S0 w (DevR S b D :: B)) (h : ∀ w' S', St w0 S0 w' (DevR S' b D.boot :: B) → K (.int .i64 0) w') : CK Try.prog 29 [dp b] w K := CK.dev hS b29 h
theorem n29 (h : K (.int .i64 1) w) : CK Try.prog 29 [.pointer none] w K := by
  refine call_k Try.func29 k29 Try.ntmps29 (Nat.le_of_ble_eq_true rfl) ?_
  (repeat (first | refine g_sq ?_ | refine g_rg ?_ | refine g_r0 ?_ | refine g_ok rfl rfl ?_ | refine g_no rfl ?_ | refine g_no0 rfl ?_ | refine g_bk ?_ | refine g_b ?_ | refine g_sk ?_ | refine g_cT rfl ?_ | refine g_cF rfl ?_ | refine g_x rfl ?_ | refine g_lb ?_))
  refine g_cl rfl rfl (n85 ?_)
  (repeat (first | refine g_sq ?_ | refine g_rg ?_ | refine g_r0 ?_ | refine g_ok rfl rfl ?_ | refine g_no rfl ?_ | refine g_no0 rfl ?_ | refine g_bk ?_ | refine g_b ?_ | refine g_sk ?_ | refine g_cT rfl ?_ | refine g_cF rfl ?_ | refine g_x rfl ?_ | refine g_lb ?_))
  exact g_ret (q_1 rfl h)

theorem b32 {f : Fal} (hS : St w0 S0 w [DevR S b D]) (h : ∀ w' S', St w0 S0 w' [DevR S' b (if D.down then D else D.arm f)] → K (.int .i64 (if D.down then 141 else 0)) w') : CK Try.prog 32 [dp b, falV f] w K := by
  refine call_k Try.func32 k32 Try.ntmps32 (Nat.le_of_ble_eq_true rfl) ?_
  (repeat (first | refine g_sq ?_ | refine g_rg ?_ | refine g_r0 ?_ | refine g_ok rfl rfl ?_ | refine g_no rfl ?_ | refine g_no0 rfl ?_ | refine g_bk ?_ | refine g_b ?_ | refine g_sk ?_ | refine g_cT rfl ?_ | refine g_cF rfl ?_ | refine g_x rfl ?_ | refine g_lb ?_))
  refine g_ef rfl (ef_bx hS rfl fun b3 w hS => ?_)
  (repeat (first | refine g_sq ?_ | refine g_rg ?_ | refine g_r0 ?_ | refine g_ok rfl rfl ?_ | refine g_no rfl ?_ | refine g_no0 rfl ?_ | refine g_bk ?_ | refine g_b ?_ | refine g_sk ?_ | refine g_cT rfl ?_ | refine g_cF rfl ?_ | refine g_x rfl ?_ | refine g_lb ?_))
  refine g_cl rfl rfl (d78' hS ?_)
  generalize hd : D.down = dn
  rw [hd] at h
  cases dn
  · simp only [Bool.false_eq_true, if_false] at h ⊢
    obtain ⟨hw, bc, cap, rest, a, c, h1, h2, hS⟩ := DevR.opn (B := [_]) hS
    (repeat (first | refine g_sq ?_ | refine g_rg ?_ | refine g_r0 ?_ | refine g_ok rfl rfl ?_ | refine g_no rfl ?_ | refine g_no0 rfl ?_ | refine g_bk ?_ | refine g_b ?_ | refine g_sk ?_ | refine g_cT rfl ?_ | refine g_cF rfl ?_ | refine g_x rfl ?_ | refine g_lb ?_))
    refine g_lm rfl rfl (hS.b 3 rfl) (Nat.le_of_ble_eq_true rfl) ?_
    (repeat (first | refine g_sq ?_ | refine g_rg ?_ | refine g_r0 ?_ | refine g_ok rfl rfl ?_ | refine g_no rfl ?_ | refine g_no0 rfl ?_ | refine g_bk ?_ | refine g_b ?_ | refine g_sk ?_ | refine g_cT rfl ?_ | refine g_cF rfl ?_ | refine g_x rfl ?_ | refine g_lb ?_))
    refine g_ef0 rfl (ef_st hS 0 rfl rfl rfl rfl (Nat.le_of_ble_eq_true rfl) rfl fun w hS => ?_)
    (repeat (first | refine g_sq ?_ | refine g_rg ?_ | refine g_r0 ?_ | refine g_ok rfl rfl ?_ | refine g_no rfl ?_ | refine g_no0 rfl ?_ | refine g_bk ?_ | refine g_b ?_ | refine g_sk ?_ | refine g_cT rfl ?_ | refine g_cF rfl ?_ | refine g_x rfl ?_ | refine g_lb ?_))
    refine g_ef0 rfl (ef_st hS 0 rfl rfl rfl rfl (Nat.le_of_ble_eq_true rfl) rfl fun w hS => ?_)
    (repeat (first | refine g_sq ?_ | refine g_rg ?_ | refine g_r0 ?_ | refine g_ok rfl rfl ?_ | refine g_no rfl ?_ | refine g_no0 rfl ?_ | refine g_bk ?_ | refine g_b ?_ | refine g_sk ?_ | refine g_cT rfl ?_ | refine g_cF rfl ?_ | refine g_x rfl ?_ | refine g_lb ?_))
    refine g_ret (q_1 rfl ?_)
    have hS := hS.sel [0, 1, 2] rfl rfl
    obtain ⟨S', hS⟩ := DevR.cls' (D := D.arm f) (cap := cap) (rest := rest) (bc := bc) (b := b) (B := []) hw h1 h2 hS
    exact h _ _ hS
  · simp only [if_true] at h ⊢
    (repeat (first | refine g_sq ?_ | refine g_rg ?_ | refine g_r0 ?_ | refine g_ok rfl rfl ?_ | refine g_no rfl ?_ | refine g_no0 rfl ?_ | refine g_bk ?_ | refine g_b ?_ | refine g_sk ?_ | refine g_cT rfl ?_ | refine g_cF rfl ?_ | refine g_x rfl ?_ | refine g_lb ?_))
    exact g_ret (q_1 rfl (h _ _ (hS.sel [0] rfl rfl)))
theorem c32 {f : Fal} (hS : St w0 S0 w (DevR S b D :: B)) (h : ∀ w' S', St w0 S0 w' (DevR S' b (if D.down then D else D.arm f) :: B) → K (.int .i64 (if D.down then 141 else 0)) w') : CK Try.prog 32 [dp b, falV f] w K := CK.dev hS b32 h
theorem b27 {f : Fal} (hS : St w0 S0 w [DevR S b D]) (h : ∀ w' S', St w0 S0 w' [DevR S' b (if D.down then D else D.crash f)] → K (.int .i64 (if D.down then 141 else 0)) w') : CK Try.prog 27 [dp b, falV f] w K := by
  refine call_k Try.func27 k27 Try.ntmps27 (Nat.le_of_ble_eq_true rfl) ?_
  (repeat (first | refine g_sq ?_ | refine g_rg ?_ | refine g_r0 ?_ | refine g_ok rfl rfl ?_ | refine g_no rfl ?_ | refine g_no0 rfl ?_ | refine g_bk ?_ | refine g_b ?_ | refine g_sk ?_ | refine g_cT rfl ?_ | refine g_cF rfl ?_ | refine g_x rfl ?_ | refine g_lb ?_))
  refine g_ef rfl (ef_bx hS rfl fun b3 w hS => ?_)
  (repeat (first | refine g_sq ?_ | refine g_rg ?_ | refine g_r0 ?_ | refine g_ok rfl rfl ?_ | refine g_no rfl ?_ | refine g_no0 rfl ?_ | refine g_bk ?_ | refine g_b ?_ | refine g_sk ?_ | refine g_cT rfl ?_ | refine g_cF rfl ?_ | refine g_x rfl ?_ | refine g_lb ?_))
  refine g_cl rfl rfl (d78' hS ?_)
  generalize hd : D.down = dn
  rw [hd] at h
  cases dn
  · simp only [Bool.false_eq_true, if_false] at h ⊢
    (repeat (first | refine g_sq ?_ | refine g_rg ?_ | refine g_r0 ?_ | refine g_ok rfl rfl ?_ | refine g_no rfl ?_ | refine g_no0 rfl ?_ | refine g_bk ?_ | refine g_b ?_ | refine g_sk ?_ | refine g_cT rfl ?_ | refine g_cF rfl ?_ | refine g_x rfl ?_ | refine g_lb ?_))
    refine g_lm rfl rfl (hS.b 1 rfl) (Nat.le_of_ble_eq_true rfl) ?_
    refine g_cl rfl rfl (c84 (f := f) (B := [_]) hS fun w S' hS => ?_)
    (repeat (first | refine g_sq ?_ | refine g_rg ?_ | refine g_r0 ?_ | refine g_ok rfl rfl ?_ | refine g_no rfl ?_ | refine g_no0 rfl ?_ | refine g_bk ?_ | refine g_b ?_ | refine g_sk ?_ | refine g_cT rfl ?_ | refine g_cF rfl ?_ | refine g_x rfl ?_ | refine g_lb ?_))
    exact g_ret (q_1 rfl (h _ _ (hS.sel [0] rfl rfl)))
  · simp only [if_true] at h ⊢
    (repeat (first | refine g_sq ?_ | refine g_rg ?_ | refine g_r0 ?_ | refine g_ok rfl rfl ?_ | refine g_no rfl ?_ | refine g_no0 rfl ?_ | refine g_bk ?_ | refine g_b ?_ | refine g_sk ?_ | refine g_cT rfl ?_ | refine g_cF rfl ?_ | refine g_x rfl ?_ | refine g_lb ?_))
    exact g_ret (q_1 rfl (h _ _ (hS.sel [0] rfl rfl)))
theorem c27 {f : Fal} (hS : St w0 S0 w (DevR S b D :: B)) (h : ∀ w' S', St w0 S0 w' (DevR S' b (if D.down then D else D.crash f) :: B) → K (.int .i64 (if D.down then 141 else 0)) w') : CK Try.prog 27 [dp b, falV f] w K := CK.dev hS b27 h

/-- what a sync comes to -/
def Dev.sync (D : Dev) : Dev × Int := if D.down then (D, 141) else if D.oper.2 = 0 then (D.oper.1.sync1, 0) else D.oper
theorem b24 (hS : St w0 S0 w [DevR S b D]) (h : ∀ w' S', St w0 S0 w' [DevR S' b D.sync.1] → K (.int .i64 D.sync.2) w') : CK Try.prog 24 [dp b] w K := by
  refine call_k Try.func24 k24 Try.ntmps24 (Nat.le_of_ble_eq_true rfl) ?_
  (repeat (first | refine g_sq ?_ | refine g_rg ?_ | refine g_r0 ?_ | refine g_ok rfl rfl ?_ | refine g_no rfl ?_ | refine g_no0 rfl ?_ | refine g_bk ?_ | refine g_b ?_ | refine g_sk ?_ | refine g_cT rfl ?_ | refine g_cF rfl ?_ | refine g_x rfl ?_ | refine g_lb ?_))
  refine g_cl rfl rfl (d78' hS ?_)
  generalize hd : D.down = dn
  cases dn
  · simp only [Bool.false_eq_true, if_false]
    (repeat (first | refine g_sq ?_ | refine g_rg ?_ | refine g_r0 ?_ | refine g_ok rfl rfl ?_ | refine g_no rfl ?_ | refine g_no0 rfl ?_ | refine g_bk ?_ | refine g_b ?_ | refine g_sk ?_ | refine g_cT rfl ?_ | refine g_cF rfl ?_ | refine g_x rfl ?_ | refine g_lb ?_))
    refine g_cl rfl rfl (c81 hS fun w S' hS => ?_)
    (repeat (first | refine g_sq ?_ | refine g_rg ?_ | refine g_r0 ?_ | refine g_ok rfl rfl ?_ | refine g_no rfl ?_ | refine g_no0 rfl ?_ | refine g_bk ?_ | refine g_b ?_ | refine g_sk ?_ | refine g_cT rfl ?_ | refine g_cF rfl ?_ | refine g_x rfl ?_ | refine g_lb ?_))
    refine g_cd rfl (fun hc => ?_) (fun hc => ?_)
    all_goals simp only [cmv, Bool.not_eq_true', Bool.not_eq_false', decide_eq_true_eq, decide_eq_false_iff_not] at hc
    · have e : D.sync = D.oper := by simp [Dev.sync, hd, hc]
      rw [e] at h
      (repeat (first | refine g_sq ?_ | refine g_rg ?_ | refine g_r0 ?_ | refine g_ok rfl rfl ?_ | refine g_no rfl ?_ | refine g_no0 rfl ?_ | refine g_bk ?_ | refine g_b ?_ | refine g_sk ?_ | refine g_cT rfl ?_ | refine g_cF rfl ?_ | refine g_x rfl ?_ | refine g_lb ?_))
      exact g_ret (q_1 rfl (h _ _ hS))
    · have e : D.sync = (D.oper.1.sync1, 0) := by simp [Dev.sync, hd, hc]
      rw [e] at h
      generalize D.oper.1 = D1 at h hS
      obtain ⟨hw, bc, cap, rest, a, c, h1, h2, hS⟩ := DevR.opn hS
      (repeat (first | refine g_sq ?_ | refine g_rg ?_ | refine g_r0 ?_ | refine g_ok rfl rfl ?_ | refine g_no rfl ?_ | refine g_no0 rfl ?_ | refine g_bk ?_ | refine g_b ?_ | refine g_sk ?_ | refine g_cT rfl ?_ | refine g_cF rfl ?_ | refine g_x rfl ?_ | refine g_lb ?_))
      refine g_l1 rfl rfl (hS.b  0 rfl) rfl ?_
      (repeat (first | refine g_sq ?_ | refine g_rg ?_ | refine g_r0 ?_ | refine g_ok rfl rfl ?_ | refine g_no rfl ?_ | refine g_no0 rfl ?_ | refine g_bk ?_ | refine g_b ?_ | refine g_sk ?_ | refine g_cT rfl ?_ | refine g_cF rfl ?_ | refine g_x rfl ?_ | refine g_lb ?_))
      refine g_lp (ι := Nat) (fun k => [(0, dp b), (20, .slice a D1.waits.length c), (21, .int .i64 D1.waits.length), (22, .int .i64 k)])
        (fun k w => k ≤ D1.waits.length ∧ St w0 S0 w [cel b (DevC (.slice (some ⟨bc, 0, none⟩) D1.cells.length cap) (.slice a D1.waits.length c) D1) 65, cel bc (fc (putAll D1.cells (D1.waits.take k)) ++ rest) 122, row (.slice a D1.waits.length c) 124 129 D1.waits.length (fw D1.waits)]) (fun k => D1.waits.length - k) 0 ⟨rfl, rfl, rfl, rfl, trivial⟩ ⟨Nat.zero_le _, hS⟩ ?_
      clear hS
      rintro k w ⟨hk, hS⟩
      have hwn := hw.2.2.2
      (repeat (first | refine g_sq ?_ | refine g_rg ?_ | refine g_r0 ?_ | refine g_ok rfl rfl ?_ | refine g_no rfl ?_ | refine g_no0 rfl ?_ | refine g_bk ?_ | refine g_b ?_ | refine g_sk ?_ | refine g_cT rfl ?_ | refine g_cF rfl ?_ | refine g_x rfl ?_ | refine g_lb ?_))
      refine g_cd rfl (fun hc => ?_) (fun hc => ?_)
      all_goals simp only [cmv, decide_eq_true_eq, decide_eq_false_iff_not] at hc
      · have hlt : k < D1.waits.length := by omega
        have hx : D1.waits[k]? = some D1.waits[k] := List.getElem?_eq_getElem hlt
        have hxw := hw.2.2.1 _ (List.getElem_mem hlt)
        obtain ⟨a', m', c', hv⟩ := hS.rowb 2 rfl (by omega)
        cases hv
        rcases hS.ok 2 _ rfl with ⟨hv, _⟩ | ⟨bw, capw, restw, hv, hcap, hxl, hl, hB⟩
        · cases hv
        cases hv
        (repeat (first | refine g_sq ?_ | refine g_rg ?_ | refine g_r0 ?_ | refine g_ok rfl rfl ?_ | refine g_no rfl ?_ | refine g_no0 rfl ?_ | refine g_bk ?_ | refine g_b ?_ | refine g_sk ?_ | refine g_cT rfl ?_ | refine g_cF rfl ?_ | refine g_x rfl ?_ | refine g_lb ?_))
        refine g_rq rfl rfl ⟨by omega, by omega⟩ ?_
        refine g_lm rfl rfl hB ?_ ?_
        · show 0 + k * 129 + 129 ≤ _
          rw [hl]
          omega
        have e : List.take 129 (List.drop (0 + k * 129) (fw D1.waits ++ restw)) = wv D1.waits[k] := by
          rw [Nat.zero_add, fw, flat_get (wv_flat fun x hx => (hw.2.2.1 x hx).1) (by simpa using hlt)]
          simp
        rw [show ((k : Int).toNat) = k from rfl, e]
        refine g_ef rfl (ef_al hS fun g w hS => ?_)
        refine g_ef0 rfl (ef_st hS 3 rfl rfl rfl (wv_len hxw.1) (by simp [zx]) (wv_one _) fun w hS => ?_)
        have hS := hS.ceq 3 rfl (spl_wv hxw.1)
        (repeat (first | refine g_sq ?_ | refine g_rg ?_ | refine g_r0 ?_ | refine g_ok rfl rfl ?_ | refine g_no rfl ?_ | refine g_no0 rfl ?_ | refine g_bk ?_ | refine g_b ?_ | refine g_sk ?_ | refine g_cT rfl ?_ | refine g_cF rfl ?_ | refine g_x rfl ?_ | refine g_lb ?_))
        refine g_lm rfl rfl (hS.b 3 rfl) (by rw [wv_len hxw.1]; decide) ?_
        rw [take_wv hxw.1]
        have hcl : (putAll D1.cells (D1.waits.take k)).length = D1.cells.length := putAll_len _ _
        have hS := hS.sel [0, 1, 2] rfl rfl
        rw [← hcl] at hS
        refine g_cl rfl rfl (CK.fr (A := [_, _]) hS (fun hS h => d82 hS (putAll_mem _ _ hw.2.1 (fun y hy => hw.2.2.1 y (List.mem_of_mem_take hy))) hxw.1 (by rw [hcl]; exact hxw.2) ⟨by decide, by decide⟩ h) fun w hS => ?_)
        (repeat (first | refine g_sq ?_ | refine g_rg ?_ | refine g_r0 ?_ | refine g_ok rfl rfl ?_ | refine g_no rfl ?_ | refine g_no0 rfl ?_ | refine g_bk ?_ | refine g_b ?_ | refine g_sk ?_ | refine g_cT rfl ?_ | refine g_cF rfl ?_ | refine g_x rfl ?_ | refine g_lb ?_))
        refine g_rq rfl rfl (in64 (by simp only [arv]; omega)) ?_
        (repeat (first | refine g_sq ?_ | refine g_rg ?_ | refine g_r0 ?_ | refine g_ok rfl rfl ?_ | refine g_no rfl ?_ | refine g_no0 rfl ?_ | refine g_bk ?_ | refine g_b ?_ | refine g_sk ?_ | refine g_cT rfl ?_ | refine g_cF rfl ?_ | refine g_x rfl ?_ | refine g_lb ?_))
        refine g_l (k + 1) ⟨rfl, rfl, rfl, rfl, trivial⟩ ⟨by omega, ?_⟩ (by omega)
        rw [putAll_step hx]
        rw [hcl] at hS
        exact hS
      · have : k = D1.waits.length := by omega
        subst this
        rw [List.take_length] at hS
        (repeat (first | refine g_sq ?_ | refine g_rg ?_ | refine g_r0 ?_ | refine g_ok rfl rfl ?_ | refine g_no rfl ?_ | refine g_no0 rfl ?_ | refine g_bk ?_ | refine g_b ?_ | refine g_sk ?_ | refine g_cT rfl ?_ | refine g_cF rfl ?_ | refine g_x rfl ?_ | refine g_lb ?_))
        refine g_ef0 rfl (ef_st hS 0 rfl rfl rfl rfl (Nat.le_of_ble_eq_true rfl) rfl fun w hS => ?_)
        (repeat (first | refine g_sq ?_ | refine g_rg ?_ | refine g_r0 ?_ | refine g_ok rfl rfl ?_ | refine g_no rfl ?_ | refine g_no0 rfl ?_ | refine g_bk ?_ | refine g_b ?_ | refine g_sk ?_ | refine g_cT rfl ?_ | refine g_cF rfl ?_ | refine g_x rfl ?_ | refine g_lb ?_))
        refine g_ret (q_1 rfl ?_)
        have hS := (hS.nilrow 124 129).sel [0, 1, 3] rfl rfl
        have hl : D1.sync1.cells.length = D1.cells.length := putAll_len _ _
        have hw' := hw.sync1
        obtain ⟨S', hS⟩ := DevR.cls' (D := D1.sync1) (vw := .slice none 0 0) (cap := cap) (rest := rest) (bc := bc) (b := b) (B := []) hw' (by rw [hl]; exact h1)
          (by rw [← h2, List.length_append, List.length_append, fc_len hw'.2.1, fc_len hw.2.1, hl]) (by rw [hl]; exact hS)
        exact h _ _ hS
  · simp only [if_true]
    have e : D.sync = (D, 141) := by simp [Dev.sync, hd]
    rw [e] at h
    (repeat (first | refine g_sq ?_ | refine g_rg ?_ | refine g_r0 ?_ | refine g_ok rfl rfl ?_ | refine g_no rfl ?_ | refine g_no0 rfl ?_ | refine g_bk ?_ | refine g_b ?_ | refine g_sk ?_ | refine g_cT rfl ?_ | refine g_cF rfl ?_ | refine g_x rfl ?_ | refine g_lb ?_))
    exact g_ret (q_1 rfl (h _ _ hS))
theorem c24 (hS : St w0 S0 w (DevR S b D :: B)) (h : ∀ w' S', St w0 S0 w' (DevR S' b D.sync.1 :: B) → K (.int .i64 D.sync.2) w') : CK Try.prog 24 [dp b] w K := CK.dev hS b24 h
end
end Go.Proofs.Ytegjocpjmfaigaa
namespace Go.Proofs.Ytegjocpjmfaigaa
open Go.En

/-- bytes, and noughts up to a block's end -/
def pad (bs : List UInt8) : List UInt8 := bs ++ List.replicate (128 - bs.length) 0
theorem pad_len {bs : List UInt8} (h : bs.length ≤ 128) : (pad bs).length = 128 := by simp [pad]; omega
def Dev.wr1 (D : Dev) (i : Int) (bs : List UInt8) : Dev := { D with waits := D.waits ++ [(i, pad bs)] }
def Dev.write (D : Dev) (i : Int) (bs : List UInt8) : Dev × Int := if D.down then (D, 141) else if (0 ≤ i ∧ i < D.cells.length) ∧ bs.length ≤ 128 then (D.wr1 i bs).oper else (D, 140)

section
variable {w w0 : World} {S0 S : Nat → Prop} {K : Value → World → Prop} {b : Nat} {D : Dev} {B L : List Res}
theorem d80 {a : Option Addr} {n c : Nat} (hc : n ≤ c) (hav : ∀ {x o v}, a = some ⟨x, o, some v⟩ → False) (h : K (.slice a n n) w) : CK Try.prog 80 [.slice a n c] w K := by
  refine call_k Try.func80 k80 Try.ntmps80 (Nat.le_of_ble_eq_true rfl) ?_
  cases a with
  | none =>
    (repeat (first | refine g_sq ?_ | refine g_rg ?_ | refine g_r0 ?_ | refine g_ok rfl rfl ?_ | refine g_no rfl ?_ | refine g_no0 rfl ?_ | refine g_bk ?_ | refine g_b ?_ | refine g_sk ?_ | refine g_cT rfl ?_ | refine g_cF rfl ?_ | refine g_x rfl ?_ | refine g_lb ?_))
    refine g_rq rfl rfl ⟨Int.le_refl _, by omega, by omega, by omega⟩ ?_
    (repeat (first | refine g_sq ?_ | refine g_rg ?_ | refine g_r0 ?_ | refine g_ok rfl rfl ?_ | refine g_no rfl ?_ | refine g_no0 rfl ?_ | refine g_bk ?_ | refine g_b ?_ | refine g_sk ?_ | refine g_cT rfl ?_ | refine g_cF rfl ?_ | refine g_x rfl ?_ | refine g_lb ?_))
    exact g_ret (q_1 rfl h)
  | some a =>
    obtain ⟨ab, ao, av⟩ := a
    cases av with
    | some _ => exact (hav rfl).elim
    | none =>
      (repeat (first | refine g_sq ?_ | refine g_rg ?_ | refine g_r0 ?_ | refine g_ok rfl rfl ?_ | refine g_no rfl ?_ | refine g_no0 rfl ?_ | refine g_bk ?_ | refine g_b ?_ | refine g_sk ?_ | refine g_cT rfl ?_ | refine g_cF rfl ?_ | refine g_x rfl ?_ | refine g_lb ?_))
      refine g_rq rfl rfl ⟨Int.le_refl _, by omega, by omega, by omega⟩ ?_
      (repeat (first | refine g_sq ?_ | refine g_rg ?_ | refine g_r0 ?_ | refine g_ok rfl rfl ?_ | refine g_no rfl ?_ | refine g_no0 rfl ?_ | refine g_bk ?_ | refine g_b ?_ | refine g_sk ?_ | refine g_cT rfl ?_ | refine g_cF rfl ?_ | refine g_x rfl ?_ | refine g_lb ?_))
      exact g_ret (q_1 rfl h)
theorem spl_at (i : Int) : spl (zx [(1, Value.int .i64 0), (128, Value.int .u8 0)]) 0 [.int .i64 i] = wv (i, List.replicate 128 0) := by
  simp [spl, zx, wv, bys]
theorem spl_pad (i : Int) {bs : List UInt8} {n : Nat} (h : bs.length ≤ 128) (hn : bs.length = n) : spl (wv (i, List.replicate 128 0)) (0 + 1) (List.take (min n 128 * 1) (bys bs)) = wv (i, pad bs) := by
  have h1 : min n 128 = bs.length := by omega
  rw [h1, Nat.mul_one, List.take_of_length_le (by simp)]
  show ([Value.int .i64 i] ++ bys bs) ++ (List.drop (1 + (bys bs).length) (Value.int .i64 i :: bys (List.replicate 128 0))) = Value.int .i64 i :: bys (pad bs)
  rw [bys_length, Nat.add_comm 1, List.drop_succ_cons, bys_drop, List.drop_replicate, pad, bys_append]
  rfl
theorem rep_len : (List.replicate 128 (0 : UInt8)).length = 128 := List.length_replicate
theorem Dev.wf.wr1 {D : Dev} (h : D.wf) {i : Int} {bs : List UInt8} (hi : 0 ≤ i ∧ i < D.cells.length) (hb : bs.length ≤ 128) (hn : D.waits.length + 1 < 1152921504) : (D.wr1 i bs).wf := by
  refine ⟨h.1, h.2.1, fun x hx => ?_, by simpa [Dev.wr1] using hn⟩
  rcases List.mem_append.1 hx with hx | hx
  · exact h.2.2.1 x hx
  · simp at hx; subst hx; exact ⟨pad_len hb, hi⟩
set_option maxRecDepth 100000 in
theorem b23 {i : Int} {v : Value} {E n : Nat} {bs : List UInt8} (hS : St w S0 w [DevR S b D]) (hb : Rd v E 1 n (bys bs) w) (hd : ∀ x, vb v x → ¬ S0 x) (hn : D.waits.length + 1 < 1152921504)
    (h : ∀ w' S', St w S0 w' [DevR S' b (D.write i bs).1] → K (.int .i64 (D.write i bs).2) w') : CK Try.prog 23 [dp b, .int .i64 i, v] w K := by
  have hlen : bs.length = n := by have := hb.len; simpa using this
  have hv : ∃ a c, v = .slice a n c := by
    rcases hb with ⟨⟨a, rfl⟩, rfl, _⟩ | ⟨bb, off, cap, l, rfl, _⟩
    · exact ⟨_, _, rfl⟩
    · exact ⟨_, _, rfl⟩
  obtain ⟨av, cv, rfl⟩ := hv
  refine call_k Try.func23 k23 Try.ntmps23 (Nat.le_of_ble_eq_true rfl) ?_
  (repeat (first | refine g_sq ?_ | refine g_rg ?_ | refine g_r0 ?_ | refine g_ok rfl rfl ?_ | refine g_no rfl ?_ | refine g_no0 rfl ?_ | refine g_bk ?_ | refine g_b ?_ | refine g_sk ?_ | refine g_cT rfl ?_ | refine g_cF rfl ?_ | refine g_x rfl ?_ | refine g_lb ?_))
  refine g_cl rfl rfl (d78' hS ?_)
  generalize hdn : D.down = dn
  cases dn
  · simp only [Bool.false_eq_true, if_false]
    (repeat (first | refine g_sq ?_ | refine g_rg ?_ | refine g_r0 ?_ | refine g_ok rfl rfl ?_ | refine g_no rfl ?_ | refine g_no0 rfl ?_ | refine g_bk ?_ | refine g_b ?_ | refine g_sk ?_ | refine g_cT rfl ?_ | refine g_cF rfl ?_ | refine g_x rfl ?_ | refine g_lb ?_))
    obtain ⟨hw, bc, nc, cap, a, c, en, hB⟩ := DevR.blk hS
    refine g_cl rfl rfl (d79 hB ?_)
    rw [← en]
    (repeat (first | refine g_sq ?_ | refine g_rg ?_ | refine g_r0 ?_ | refine g_ok rfl rfl ?_ | refine g_no rfl ?_ | refine g_no0 rfl ?_ | refine g_bk ?_ | refine g_b ?_ | refine g_sk ?_ | refine g_cT rfl ?_ | refine g_cF rfl ?_ | refine g_x rfl ?_ | refine g_lb ?_))
    generalize hin : decide (0 ≤ i ∧ i < (D.cells.length : Int)) = iin
    cases iin
    · (repeat (first | refine g_sq ?_ | refine g_rg ?_ | refine g_r0 ?_ | refine g_ok rfl rfl ?_ | refine g_no rfl ?_ | refine g_no0 rfl ?_ | refine g_bk ?_ | refine g_b ?_ | refine g_sk ?_ | refine g_cT rfl ?_ | refine g_cF rfl ?_ | refine g_x rfl ?_ | refine g_lb ?_))
      have e : D.write i bs = (D, 140) := by
        simp only [decide_eq_false_iff_not] at hin
        simp [Dev.write, hdn, hin]
      rw [e] at h
      exact g_ret (q_1 rfl (h _ _ hS))
    · (repeat (first | refine g_sq ?_ | refine g_rg ?_ | refine g_r0 ?_ | refine g_ok rfl rfl ?_ | refine g_no rfl ?_ | refine g_no0 rfl ?_ | refine g_bk ?_ | refine g_b ?_ | refine g_sk ?_ | refine g_cT rfl ?_ | refine g_cF rfl ?_ | refine g_x rfl ?_ | refine g_lb ?_))
      refine g_cd rfl (fun hc => ?_) (fun hc => ?_)
      all_goals simp only [cmv, decide_eq_true_eq, decide_eq_false_iff_not] at hc hin
      · have e : D.write i bs = (D, 140) := by
          have : ¬ bs.length ≤ 128 := by omega
          simp [Dev.write, hdn, this]
        rw [e] at h
        (repeat (first | refine g_sq ?_ | refine g_rg ?_ | refine g_r0 ?_ | refine g_ok rfl rfl ?_ | refine g_no rfl ?_ | refine g_no0 rfl ?_ | refine g_bk ?_ | refine g_b ?_ | refine g_sk ?_ | refine g_cT rfl ?_ | refine g_cF rfl ?_ | refine g_x rfl ?_ | refine g_lb ?_))
        exact g_ret (q_1 rfl (h _ _ hS))
      · have hb128 : bs.length ≤ 128 := by omega
        have e : D.write i bs = (D.wr1 i bs).oper := by simp [Dev.write, hdn, hin, hb128]
        rw [e] at h
        (repeat (first | refine g_sq ?_ | refine g_rg ?_ | refine g_r0 ?_ | refine g_ok rfl rfl ?_ | refine g_no rfl ?_ | refine g_no0 rfl ?_ | refine g_bk ?_ | refine g_b ?_ | refine g_sk ?_ | refine g_cT rfl ?_ | refine g_cF rfl ?_ | refine g_x rfl ?_ | refine g_lb ?_))
        refine g_ef rfl (ef_al hS fun g w1 hS => ?_)
        refine g_ef0 rfl ?_
        have e1 := spl_at i
        refine ef_st (u := .agg ⟨wv (i, List.replicate 128 0)⟩) hS 1 rfl rfl (congrArg (fun l => some (Value.agg ⟨l⟩)) e1) (wv_len rep_len) (by simp [zx]) (wv_one _) fun w1 hS => ?_
        have hS := hS.ceq 1 rfl (spl_wv (x := (i, List.replicate 128 0)) rep_len)
        (repeat (first | refine g_sq ?_ | refine g_rg ?_ | refine g_r0 ?_ | refine g_ok rfl rfl ?_ | refine g_no rfl ?_ | refine g_no0 rfl ?_ | refine g_bk ?_ | refine g_b ?_ | refine g_sk ?_ | refine g_cT rfl ?_ | refine g_cF rfl ?_ | refine g_x rfl ?_ | refine g_lb ?_))
        refine g_rq rfl rfl ⟨Int.le_refl _, by decide, by decide⟩ ?_
        (repeat (first | refine g_sq ?_ | refine g_rg ?_ | refine g_r0 ?_ | refine g_ok rfl rfl ?_ | refine g_no rfl ?_ | refine g_no0 rfl ?_ | refine g_bk ?_ | refine g_b ?_ | refine g_sk ?_ | refine g_cT rfl ?_ | refine g_cF rfl ?_ | refine g_x rfl ?_ | refine g_lb ?_))
        refine g_ef rfl (ef_cp hS 1 rfl rfl rfl (.inl ⟨E, hS.ro (r := rdR (.slice av n cv) E 1 n (bys bs)) hb fun x hx => ⟨hb.lt x hx, hd x hx⟩⟩) (by rw [wv_len rep_len]; decide) (bys_one _) fun w1 hS => ?_)
        have hS := hS.ceq 1 rfl (spl_pad i hb128 hlen)
        have hpl := pad_len hb128
        obtain ⟨hw, bc, cap, rest, a, c, h1, h2, hS⟩ := DevR.opn (B := [_]) hS
        have hle := Ow.le (hS.ok 2 _ rfl)
        have hwl := hw.2.2.2
        have fin : ∀ {w' a' m' c' B'}, St w S0 w' (cel b (DevC (.slice (some ⟨bc, 0, none⟩) D.cells.length cap) (.slice a' m' c') D) 65 :: cel bc (fc D.cells ++ rest) 122 :: row (.slice a' m' c') 124 129 (D.waits.length + 1) (fw D.waits ++ wv (i, pad bs)) :: B') → CK Try.prog 81 [dp b] w' fun v w1 => ∃ S', St w S0 w1 [DevR S' b (D.wr1 i bs).oper.1] ∧ v = .int .i64 (D.wr1 i bs).oper.2 := by
          intro w' a' m' c' B' hS
          have ef : fw (D.wr1 i bs).waits = fw D.waits ++ wv (i, pad bs) := by simp [Dev.wr1, fw]
          have el : (D.wr1 i bs).waits.length = D.waits.length + 1 := by simp [Dev.wr1]
          rw [← ef, ← el] at hS
          obtain ⟨S', hS⟩ := DevR.cls' (D := D.wr1 i bs) (cap := cap) (rest := rest) (bc := bc) (b := b) (hw.wr1 hin hb128 hn) h1 h2 hS
          exact c81 hS fun w1 S1 hS => ⟨S1, hS.sel [0] rfl rfl, rfl⟩
        (repeat (first | refine g_sq ?_ | refine g_rg ?_ | refine g_r0 ?_ | refine g_ok rfl rfl ?_ | refine g_no rfl ?_ | refine g_no0 rfl ?_ | refine g_bk ?_ | refine g_b ?_ | refine g_sk ?_ | refine g_cT rfl ?_ | refine g_cF rfl ?_ | refine g_x rfl ?_ | refine g_lb ?_))
        refine g_dr mixed ?_
        have hS := hS.drew
        (repeat (first | refine d_ok rfl rfl rfl ?_ | refine d_no rfl rfl ?_))
        refine d_l1 rfl rfl rfl (hS.b 0 rfl) rfl ?_
        refine d_lm rfl rfl rfl (hS.b 3 rfl) (by rw [wv_len hpl]; decide) ?_
        rw [take_wv hpl]
        refine d_a2 ?_ (d_a1 ?_)
        · refine d_cl rfl rfl rfl (d80 hle.1 hle.2 ⟨rc_m rfl rfl rfl rfl (hS.b 3 rfl) (by rw [wv_len hpl]; decide) (take_wv hpl) rc_0, ?_⟩)
          refine d_e rfl rfl ?_
          refine ef_bl (rs := wv (i, pad bs)) hS (evcs_one (v := .agg ⟨wv (i, pad bs)⟩) rfl (wv_len (x := (i, pad bs)) hpl)) fun g2 w1 hS => ⟨rc_0, ?_⟩
          refine d_e rfl rfl ?_
          refine ef_apf (n := D.waits.length) (m := 1) (ys := wv (i, pad bs)) hS rfl (Ow.rd (hS.ok 2 _ rfl)).clip rfl (.inl ⟨124, .inr ⟨g2, 0, 1, _, rfl, Nat.le_refl _, ?_, ?_, (hS.b 4 rfl).r⟩⟩) (by decide) (by omega) (by omega) fun v' w1 hS => ⟨rc_0, ?_⟩
          · rw [wv_len (x := (i, pad bs)) hpl]; decide
          · have := wv_len (x := (i, pad bs)) hpl
            rw [List.drop_zero, List.take_of_length_le (by omega)]
          obtain ⟨a', c', rfl⟩ := hS.rlen 5 rfl
          (repeat (first | refine d_ok rfl rfl rfl ?_ | refine d_no rfl rfl ?_))
          refine d_e0 rfl rfl ?_
          refine ef_st hS 0 rfl rfl rfl rfl (Nat.le_of_ble_eq_true rfl) rfl fun w1 hS => ⟨rc_0, ?_⟩
          refine d_fin ?_
          (repeat (first | refine g_sq ?_ | refine g_rg ?_ | refine g_r0 ?_ | refine g_ok rfl rfl ?_ | refine g_no rfl ?_ | refine g_no0 rfl ?_ | refine g_bk ?_ | refine g_b ?_ | refine g_sk ?_ | refine g_cT rfl ?_ | refine g_cF rfl ?_ | refine g_x rfl ?_ | refine g_lb ?_))
          refine g_cl rfl rfl ((fin (hS.sel [0, 1, 5] rfl rfl)).mono ?_)
          rintro v w1 ⟨S', hS, rfl⟩
          (repeat (first | refine g_sq ?_ | refine g_rg ?_ | refine g_r0 ?_ | refine g_ok rfl rfl ?_ | refine g_no rfl ?_ | refine g_no0 rfl ?_ | refine g_bk ?_ | refine g_b ?_ | refine g_sk ?_ | refine g_cT rfl ?_ | refine g_cF rfl ?_ | refine g_x rfl ?_ | refine g_lb ?_))
          exact g_ret (q_1 rfl (h _ _ hS))
        · refine d_e rfl rfl ?_
          refine ef_bl (rs := wv (i, pad bs)) hS (evcs_one (v := .agg ⟨wv (i, pad bs)⟩) rfl (wv_len (x := (i, pad bs)) hpl)) fun g2 w1 hS => ⟨rc_1 rfl rfl rfl rfl (hS.b 0 rfl) rfl rc_0, ?_⟩
          refine d_cl rfl rfl rfl (d80 hle.1 hle.2 ⟨rc_0, ?_⟩)
          refine d_e rfl rfl ?_
          refine ef_apf (n := D.waits.length) (m := 1) (ys := wv (i, pad bs)) hS rfl (Ow.rd (hS.ok 2 _ rfl)).clip rfl (.inl ⟨124, .inr ⟨g2, 0, 1, _, rfl, Nat.le_refl _, ?_, ?_, (hS.b 4 rfl).r⟩⟩) (by decide) (by omega) (by omega) fun v' w1 hS => ⟨rc_0, ?_⟩
          · rw [wv_len (x := (i, pad bs)) hpl]; decide
          · have := wv_len (x := (i, pad bs)) hpl
            rw [List.drop_zero, List.take_of_length_le (by omega)]
          obtain ⟨a', c', rfl⟩ := hS.rlen 5 rfl
          (repeat (first | refine d_ok rfl rfl rfl ?_ | refine d_no rfl rfl ?_))
          refine d_e0 rfl rfl ?_
          refine ef_st hS 0 rfl rfl rfl rfl (Nat.le_of_ble_eq_true rfl) rfl fun w1 hS => ⟨rc_0, ?_⟩
          refine d_fin ?_
          (repeat (first | refine g_sq ?_ | refine g_rg ?_ | refine g_r0 ?_ | refine g_ok rfl rfl ?_ | refine g_no rfl ?_ | refine g_no0 rfl ?_ | refine g_bk ?_ | refine g_b ?_ | refine g_sk ?_ | refine g_cT rfl ?_ | refine g_cF rfl ?_ | refine g_x rfl ?_ | refine g_lb ?_))
          refine g_cl rfl rfl ((fin (hS.sel [0, 1, 5] rfl rfl)).mono ?_)
          rintro v w1 ⟨S', hS, rfl⟩
          (repeat (first | refine g_sq ?_ | refine g_rg ?_ | refine g_r0 ?_ | refine g_ok rfl rfl ?_ | refine g_no rfl ?_ | refine g_no0 rfl ?_ | refine g_bk ?_ | refine g_b ?_ | refine g_sk ?_ | refine g_cT rfl ?_ | refine g_cF rfl ?_ | refine g_x rfl ?_ | refine g_lb ?_))
          exact g_ret (q_1 rfl (h _ _ hS))
  · simp only [if_true]
    have e : D.write i bs = (D, 141) := by simp [Dev.write, hdn]
    rw [e] at h
    (repeat (first | refine g_sq ?_ | refine g_rg ?_ | refine g_r0 ?_ | refine g_ok rfl rfl ?_ | refine g_no rfl ?_ | refine g_no0 rfl ?_ | refine g_bk ?_ | refine g_b ?_ | refine g_sk ?_ | refine g_cT rfl ?_ | refine g_cF rfl ?_ | refine g_x rfl ?_ | refine g_lb ?_))
    exact g_ret (q_1 rfl (h _ _ hS))
theorem c23 {i : Int} {v : Value} {E n : Nat} {bs : List UInt8} (hS : St w0 S0 w (DevR S b D :: B)) (hb : Rd v E 1 n (bys bs) w) (hd : ∀ x, vb v x → ¬ S x) (hn : D.waits.length + 1 < 1152921504)
    (h : ∀ w' S', St w0 S0 w' (DevR S' b (D.write i bs).1 :: B) → K (.int .i64 (D.write i bs).2) w') : CK Try.prog 23 [dp b, .int .i64 i, v] w K := by
  have hf := St.frame (A := [DevR S b D]) (B := B) hS
  refine b23 hf.1 hb (fun x hx => ?_) hn fun w' S' h' => h w' S' (hf.2 w' _ h')
  rintro ⟨j, r, hj, hr⟩
  cases j with
  | zero => simp at hj; subst hj; exact hd x hx hr
  | succ j => simp at hj
theorem n23 {i : Int} {v : Value} (h : K (.int .i64 1) w) : CK Try.prog 23 [.pointer none, .int .i64 i, v] w K := by
  refine call_k Try.func23 k23 Try.ntmps23 (Nat.le_of_ble_eq_true rfl) ?_
  (repeat (first | refine g_sq ?_ | refine g_rg ?_ | refine g_r0 ?_ | refine g_ok rfl rfl ?_ | refine g_no rfl ?_ | refine g_no0 rfl ?_ | refine g_bk ?_ | refine g_b ?_ | refine g_sk ?_ | refine g_cT rfl ?_ | refine g_cF rfl ?_ | refine g_x rfl ?_ | refine g_lb ?_))
  refine g_cl rfl rfl (n78 ?_)
  (repeat (first | refine g_sq ?_ | refine g_rg ?_ | refine g_r0 ?_ | refine g_ok rfl rfl ?_ | refine g_no rfl ?_ | refine g_no0 rfl ?_ | refine g_bk ?_ | refine g_b ?_ | refine g_sk ?_ | refine g_cT rfl ?_ | refine g_cF rfl ?_ | refine g_x rfl ?_ | refine g_lb ?_))
  exact g_ret (q_1 rfl h)
end
end Go.Proofs.Ytegjocpjmfaigaa
namespace Go.Proofs.Ytegjocpjmfaigaa
open Go.En

section
variable {w w0 : World} {S0 S : Nat → Prop} {K : Value → World → Prop} {b : Nat} {D : Dev} {B L : List Res}
theorem b86 {v : Value} {E' n : Nat} {xs : List Value} (hr : Rd v E' 1 n xs w) (h1 : xs.all (·.oneCell') = true) (hn : n * 1 ≤ 140737488355328) (h : ∀ v' w', St w (fun _ => False) w' [row v' 5 1 n xs] → K v' w') : CK Try.prog 86 [v] w K := by
  refine call_k Try.func86 k86 Try.ntmps86 (Nat.le_of_ble_eq_true rfl) ?_
  have hf : (v = .slice none 0 0 ∧ n = 0 ∧ xs = []) ∨ ∃ a c, v = .slice (some a) n c := by
    rcases hr with ⟨⟨a, rfl⟩, rfl, rfl⟩ | ⟨b, off, cap, l, rfl, _⟩
    · cases a
      · exact .inl ⟨rfl, rfl, rfl⟩
      · exact .inr ⟨_, _, rfl⟩
    · exact .inr ⟨_, _, rfl⟩
  rcases hf with ⟨rfl, rfl, rfl⟩ | ⟨a, cap, rfl⟩
  · (repeat (first | refine g_sq ?_ | refine g_rg ?_ | refine g_r0 ?_ | refine g_ok rfl rfl ?_ | refine g_no rfl ?_ | refine g_no0 rfl ?_ | refine g_bk ?_ | refine g_b ?_ | refine g_sk ?_ | refine g_cT rfl ?_ | refine g_cF rfl ?_ | refine g_x rfl ?_ | refine g_lb ?_))
    exact g_ret (q_1 rfl (h _ _ ((St.nil w _).nilrow 5 1)))
  · (repeat (first | refine g_sq ?_ | refine g_rg ?_ | refine g_r0 ?_ | refine g_ok rfl rfl ?_ | refine g_no rfl ?_ | refine g_no0 rfl ?_ | refine g_bk ?_ | refine g_b ?_ | refine g_sk ?_ | refine g_cT rfl ?_ | refine g_cF rfl ?_ | refine g_x rfl ?_ | refine g_lb ?_))
    refine g_ef rfl (ef_bl (rs := []) (St.nil w (fun _ => False)) rfl fun b0 w1 hS => ?_)
    have hS := hS.close_row (sz := 1) (n := 0) (cap := 0) (l := []) (xs := []) 0 rfl (Nat.le_refl _) rfl List.nil_prefix rfl
    (repeat (first | refine g_sq ?_ | refine g_rg ?_ | refine g_r0 ?_ | refine g_ok rfl rfl ?_ | refine g_no rfl ?_ | refine g_no0 rfl ?_ | refine g_bk ?_ | refine g_b ?_ | refine g_sk ?_ | refine g_cT rfl ?_ | refine g_cF rfl ?_ | refine g_x rfl ?_ | refine g_lb ?_))
    refine g_ef rfl (ef_ap (n := 0) (m := n) (xs := []) (ys := xs) hS 0 rfl rfl rfl (.inl ⟨E', hS.ro (r := rdR _ E' 1 n xs) hr fun x hx => ⟨hr.lt x hx, fun h => h⟩⟩) h1 (by omega) (by omega) fun v' w1 hS => ?_)
    rw [Nat.zero_add] at hS
    (repeat (first | refine g_sq ?_ | refine g_rg ?_ | refine g_r0 ?_ | refine g_ok rfl rfl ?_ | refine g_no rfl ?_ | refine g_no0 rfl ?_ | refine g_bk ?_ | refine g_b ?_ | refine g_sk ?_ | refine g_cT rfl ?_ | refine g_cF rfl ?_ | refine g_x rfl ?_ | refine g_lb ?_))
    exact g_ret (q_1 rfl (h _ _ hS))
theorem c86 {v : Value} {E' n : Nat} {xs : List Value} (hS : St w0 S0 w L) (hr : Rd v E' 1 n xs w) (h1 : xs.all (·.oneCell') = true) (hn : n * 1 ≤ 140737488355328) (h : ∀ v' w', St w0 S0 w' (L ++ [row v' 5 1 n xs]) → K v' w') : CK Try.prog 86 [v] w K :=
  b86 hr h1 hn fun v' w' h' => h v' w' (hS.call0.2 w' _ h')
theorem b87 {v : Value} {E' n : Nat} {xs : List Value} (hr : Rd v E' 128 n xs w) (h1 : xs.all (·.oneCell') = true) (hn : n * 128 ≤ 140737488355328) (h : ∀ v' w', St w (fun _ => False) w' [row v' 122 128 n xs] → K v' w') : CK Try.prog 87 [v] w K := by
  refine call_k Try.func87 k87 Try.ntmps87 (Nat.le_of_ble_eq_true rfl) ?_
  have hf : (v = .slice none 0 0 ∧ n = 0 ∧ xs = []) ∨ ∃ a c, v = .slice (some a) n c := by
    rcases hr with ⟨⟨a, rfl⟩, rfl, rfl⟩ | ⟨b, off, cap, l, rfl, _⟩
    · cases a
      · exact .inl ⟨rfl, rfl, rfl⟩
      · exact .inr ⟨_, _, rfl⟩
    · exact .inr ⟨_, _, rfl⟩
  rcases hf with ⟨rfl, rfl, rfl⟩ | ⟨a, cap, rfl⟩
  · (repeat (first | refine g_sq ?_ | refine g_rg ?_ | refine g_r0 ?_ | refine g_ok rfl rfl ?_ | refine g_no rfl ?_ | refine g_no0 rfl ?_ | refine g_bk ?_ | refine g_b ?_ | refine g_sk ?_ | refine g_cT rfl ?_ | refine g_cF rfl ?_ | refine g_x rfl ?_ | refine g_lb ?_))
    exact g_ret (q_1 rfl (h _ _ ((St.nil w _).nilrow 122 128)))
  · (repeat (first | refine g_sq ?_ | refine g_rg ?_ | refine g_r0 ?_ | refine g_ok rfl rfl ?_ | refine g_no rfl ?_ | refine g_no0 rfl ?_ | refine g_bk ?_ | refine g_b ?_ | refine g_sk ?_ | refine g_cT rfl ?_ | refine g_cF rfl ?_ | refine g_x rfl ?_ | refine g_lb ?_))
    refine g_ef rfl (ef_bl (rs := []) (St.nil w (fun _ => False)) rfl fun b0 w1 hS => ?_)
    have hS := hS.close_row (sz := 128) (n := 0) (cap := 0) (l := []) (xs := []) 0 rfl (Nat.le_refl _) rfl List.nil_prefix rfl
    (repeat (first | refine g_sq ?_ | refine g_rg ?_ | refine g_r0 ?_ | refine g_ok rfl rfl ?_ | refine g_no rfl ?_ | refine g_no0 rfl ?_ | refine g_bk ?_ | refine g_b ?_ | refine g_sk ?_ | refine g_cT rfl ?_ | refine g_cF rfl ?_ | refine g_x rfl ?_ | refine g_lb ?_))
    refine g_ef rfl (ef_ap (n := 0) (m := n) (xs := []) (ys := xs) hS 0 rfl rfl rfl (.inl ⟨E', hS.ro (r := rdR _ E' 128 n xs) hr fun x hx => ⟨hr.lt x hx, fun h => h⟩⟩) h1 (by omega) (by omega) fun v' w1 hS => ?_)
    rw [Nat.zero_add] at hS
    (repeat (first | refine g_sq ?_ | refine g_rg ?_ | refine g_r0 ?_ | refine g_ok rfl rfl ?_ | refine g_no rfl ?_ | refine g_no0 rfl ?_ | refine g_bk ?_ | refine g_b ?_ | refine g_sk ?_ | refine g_cT rfl ?_ | refine g_cF rfl ?_ | refine g_x rfl ?_ | refine g_lb ?_))
    exact g_ret (q_1 rfl (h _ _ hS))
theorem c87 {v : Value} {E' n : Nat} {xs : List Value} (hS : St w0 S0 w L) (hr : Rd v E' 128 n xs w) (h1 : xs.all (·.oneCell') = true) (hn : n * 128 ≤ 140737488355328) (h : ∀ v' w', St w0 S0 w' (L ++ [row v' 122 128 n xs]) → K v' w') : CK Try.prog 87 [v] w K :=
  b87 hr h1 hn fun v' w' h' => h v' w' (hS.call0.2 w' _ h')
theorem b88 {v : Value} {E' n : Nat} {xs : List Value} (hr : Rd v E' 129 n xs w) (h1 : xs.all (·.oneCell') = true) (hn : n * 136 ≤ 140737488355328) (h : ∀ v' w', St w (fun _ => False) w' [row v' 124 129 n xs] → K v' w') : CK Try.prog 88 [v] w K := by
  refine call_k Try.func88 k88 Try.ntmps88 (Nat.le_of_ble_eq_true rfl) ?_
  have hf : (v = .slice none 0 0 ∧ n = 0 ∧ xs = []) ∨ ∃ a c, v = .slice (some a) n c := by
    rcases hr with ⟨⟨a, rfl⟩, rfl, rfl⟩ | ⟨b, off, cap, l, rfl, _⟩
    · cases a
      · exact .inl ⟨rfl, rfl, rfl⟩
      · exact .inr ⟨_, _, rfl⟩
    · exact .inr ⟨_, _, rfl⟩
  rcases hf with ⟨rfl, rfl, rfl⟩ | ⟨a, cap, rfl⟩
  · (repeat (first | refine g_sq ?_ | refine g_rg ?_ | refine g_r0 ?_ | refine g_ok rfl rfl ?_ | refine g_no rfl ?_ | refine g_no0 rfl ?_ | refine g_bk ?_ | refine g_b ?_ | refine g_sk ?_ | refine g_cT rfl ?_ | refine g_cF rfl ?_ | refine g_x rfl ?_ | refine g_lb ?_))
    exact g_ret (q_1 rfl (h _ _ ((St.nil w _).nilrow 124 129)))
  · (repeat (first | refine g_sq ?_ | refine g_rg ?_ | refine g_r0 ?_ | refine g_ok rfl rfl ?_ | refine g_no rfl ?_ | refine g_no0 rfl ?_ | refine g_bk ?_ | refine g_b ?_ | refine g_sk ?_ | refine g_cT rfl ?_ | refine g_cF rfl ?_ | refine g_x rfl ?_ | refine g_lb ?_))
    refine g_ef rfl (ef_bl (rs := []) (St.nil w (fun _ => False)) rfl fun b0 w1 hS => ?_)
    have hS := hS.close_row (sz := 129) (n := 0) (cap := 0) (l := []) (xs := []) 0 rfl (Nat.le_refl _) rfl List.nil_prefix rfl
    (repeat (first | refine g_sq ?_ | refine g_rg ?_ | refine g_r0 ?_ | refine g_ok rfl rfl ?_ | refine g_no rfl ?_ | refine g_no0 rfl ?_ | refine g_bk ?_ | refine g_b ?_ | refine g_sk ?_ | refine g_cT rfl ?_ | refine g_cF rfl ?_ | refine g_x rfl ?_ | refine g_lb ?_))
    refine g_ef rfl (ef_ap (n := 0) (m := n) (xs := []) (ys := xs) hS 0 rfl rfl rfl (.inl ⟨E', hS.ro (r := rdR _ E' 129 n xs) hr fun x hx => ⟨hr.lt x hx, fun h => h⟩⟩) h1 (by omega) (by omega) fun v' w1 hS => ?_)
    rw [Nat.zero_add] at hS
    (repeat (first | refine g_sq ?_ | refine g_rg ?_ | refine g_r0 ?_ | refine g_ok rfl rfl ?_ | refine g_no rfl ?_ | refine g_no0 rfl ?_ | refine g_bk ?_ | refine g_b ?_ | refine g_sk ?_ | refine g_cT rfl ?_ | refine g_cF rfl ?_ | refine g_x rfl ?_ | refine g_lb ?_))
    exact g_ret (q_1 rfl (h _ _ hS))
theorem c88 {v : Value} {E' n : Nat} {xs : List Value} (hS : St w0 S0 w L) (hr : Rd v E' 129 n xs w) (h1 : xs.all (·.oneCell') = true) (hn : n * 136 ≤ 140737488355328) (h : ∀ v' w', St w0 S0 w' (L ++ [row v' 124 129 n xs]) → K v' w') : CK Try.prog 88 [v] w K :=
  b88 hr h1 hn fun v' w' h' => h v' w' (hS.call0.2 w' _ h')

theorem spl_all {l vs : List Value} (h : vs.length = l.length) : spl l 0 vs = vs := by simp [spl, h]
theorem bys_len {bs : List UInt8} (h : bs.length = 128) : (bys bs).length = 128 := by rw [bys_length]; exact h
/-- what is read of a block: the last write that waits, or its bytes -/
def Dev.rdK (D : Dev) (i : Int) (k : Nat) : List UInt8 := (D.waits.take k).foldl (fun c x => if x.1 = i then x.2 else c) (D.cells.getD i.toNat [])
def Dev.rd (D : Dev) (i : Int) : List UInt8 := D.waits.foldl (fun c x => if x.1 = i then x.2 else c) (D.cells.getD i.toNat [])
theorem Dev.rdK_step {D : Dev} {i : Int} {k : Nat} {x : Int × List UInt8} (hx : D.waits[k]? = some x) : D.rdK i (k + 1) = if x.1 = i then x.2 else D.rdK i k := by
  unfold Dev.rdK
  rw [List.take_add_one, hx, List.foldl_append]
  rfl
theorem Dev.rdK_len {D : Dev} (hw : D.wf) {i : Int} (hi : 0 ≤ i ∧ i < D.cells.length) : ∀ k, (D.rdK i k).length = 128
  | 0 => by
    have hlt : i.toNat < D.cells.length := by omega
    show (D.cells.getD i.toNat []).length = 128
    rw [List.getD_eq_getElem?_getD, List.getElem?_eq_getElem hlt]
    exact hw.2.1 _ (List.getElem_mem hlt)
  | k + 1 => by
    by_cases h : k < D.waits.length
    · rw [Dev.rdK_step (List.getElem?_eq_getElem h)]
      split
      · exact (hw.2.2.1 _ (List.getElem_mem h)).1
      · exact Dev.rdK_len hw hi k
    · have : D.rdK i (k + 1) = D.rdK i k := by unfold Dev.rdK; rw [List.take_of_length_le (by omega), List.take_of_length_le (by omega)]
      rw [this]; exact Dev.rdK_len hw hi k
set_option maxRecDepth 100000 in
theorem b33 {i : Int} (hS : St w0 S0 w [DevR S b D]) (h1 : D.down = true → K (.tuple ⟨[.slice none 0 0, .int .i64 141]⟩) w) (h2 : D.down = false → ¬ (0 ≤ i ∧ i < D.cells.length) → K (.tuple ⟨[.slice none 0 0, .int .i64 140]⟩) w)
    (h3 : D.down = false → (0 ≤ i ∧ i < D.cells.length) → ∀ w' S' v', St w0 S0 w' [DevR S' b D, row v' 5 1 128 (bys (D.rd i))] → K (.tuple ⟨[v', .int .i64 0]⟩) w') : CK Try.prog 33 [dp b, .int .i64 i] w K := by
  refine call_k Try.func33 k33 Try.ntmps33 (Nat.le_of_ble_eq_true rfl) ?_
  (repeat (first | refine g_sq ?_ | refine g_rg ?_ | refine g_r0 ?_ | refine g_ok rfl rfl ?_ | refine g_no rfl ?_ | refine g_no0 rfl ?_ | refine g_bk ?_ | refine g_b ?_ | refine g_sk ?_ | refine g_cT rfl ?_ | refine g_cF rfl ?_ | refine g_x rfl ?_ | refine g_lb ?_))
  refine g_cl rfl rfl (d78' hS ?_)
  generalize hd : D.down = dn at h1 h2 h3
  cases dn
  · simp only [Bool.false_eq_true, if_false]
    (repeat (first | refine g_sq ?_ | refine g_rg ?_ | refine g_r0 ?_ | refine g_ok rfl rfl ?_ | refine g_no rfl ?_ | refine g_no0 rfl ?_ | refine g_bk ?_ | refine g_b ?_ | refine g_sk ?_ | refine g_cT rfl ?_ | refine g_cF rfl ?_ | refine g_x rfl ?_ | refine g_lb ?_))
    obtain ⟨hw, bc, nc, cap, a, c, en, hB⟩ := DevR.blk hS
    refine g_cl rfl rfl (d79 hB ?_)
    rw [← en]
    clear hB en
    (repeat (first | refine g_sq ?_ | refine g_rg ?_ | refine g_r0 ?_ | refine g_ok rfl rfl ?_ | refine g_no rfl ?_ | refine g_no0 rfl ?_ | refine g_bk ?_ | refine g_b ?_ | refine g_sk ?_ | refine g_cT rfl ?_ | refine g_cF rfl ?_ | refine g_x rfl ?_ | refine g_lb ?_))
    generalize hin : decide (0 ≤ i ∧ i < (D.cells.length : Int)) = iin
    cases iin
    all_goals simp only [decide_eq_true_eq, decide_eq_false_iff_not] at hin
    · (repeat (first | refine g_sq ?_ | refine g_rg ?_ | refine g_r0 ?_ | refine g_ok rfl rfl ?_ | refine g_no rfl ?_ | refine g_no0 rfl ?_ | refine g_bk ?_ | refine g_b ?_ | refine g_sk ?_ | refine g_cT rfl ?_ | refine g_cF rfl ?_ | refine g_x rfl ?_ | refine g_lb ?_))
      exact g_ret (q_2 rfl rfl (h2 rfl hin))
    · obtain ⟨_, bc, cap, rest, a, c, hc1, hc2, hS⟩ := DevR.opn hS
      have hlt : i.toNat < D.cells.length := by omega
      (repeat (first | refine g_sq ?_ | refine g_rg ?_ | refine g_r0 ?_ | refine g_ok rfl rfl ?_ | refine g_no rfl ?_ | refine g_no0 rfl ?_ | refine g_bk ?_ | refine g_b ?_ | refine g_sk ?_ | refine g_cT rfl ?_ | refine g_cF rfl ?_ | refine g_x rfl ?_ | refine g_lb ?_))
      refine g_l1 rfl rfl (hS.b  0 rfl) rfl ?_
      (repeat (first | refine g_sq ?_ | refine g_rg ?_ | refine g_r0 ?_ | refine g_ok rfl rfl ?_ | refine g_no rfl ?_ | refine g_no0 rfl ?_ | refine g_bk ?_ | refine g_b ?_ | refine g_sk ?_ | refine g_cT rfl ?_ | refine g_cF rfl ?_ | refine g_x rfl ?_ | refine g_lb ?_))
      refine g_rq rfl rfl hin ?_
      have hfl := flat_get (ls := D.cells.map bys) (k := 128) (i := i.toNat) (fun l hl => by simp only [List.mem_map] at hl; obtain ⟨c, hcm, rfl⟩ := hl; simpa using hw.2.1 c hcm) (by simpa using hlt) rest
      have e0 : List.take 128 (List.drop (0 + i.toNat * 128) (fc D.cells ++ rest)) = bys (D.rdK i 0) := by
        rw [Nat.zero_add, fc, hfl, Dev.rdK]
        simp [List.getD_eq_getElem?_getD, List.getElem?_eq_getElem hlt]
      have l0 := Dev.rdK_len hw hin 0
      refine g_lm rfl rfl (hS.b 1 rfl) ?_ ?_
      · rw [List.length_append, fc_len hw.2.1]; omega
      rw [e0]
      refine g_ef rfl (ef_al hS fun g w hS => ?_)
      refine g_ef0 rfl (ef_st hS 3 rfl rfl rfl (bys_len l0) (by simp [zx]) (bys_one _) fun w hS => ?_)
      have hS := hS.ceq (l' := bys (D.rdK i 0)) 3 rfl (spl_all ((bys_len l0).trans (by simp [zx])))
      (repeat (first | refine g_sq ?_ | refine g_rg ?_ | refine g_r0 ?_ | refine g_ok rfl rfl ?_ | refine g_no rfl ?_ | refine g_no0 rfl ?_ | refine g_bk ?_ | refine g_b ?_ | refine g_sk ?_ | refine g_cT rfl ?_ | refine g_cF rfl ?_ | refine g_x rfl ?_ | refine g_lb ?_))
      refine g_l1 rfl rfl (hS.b  0 rfl) rfl ?_
      (repeat (first | refine g_sq ?_ | refine g_rg ?_ | refine g_r0 ?_ | refine g_ok rfl rfl ?_ | refine g_no rfl ?_ | refine g_no0 rfl ?_ | refine g_bk ?_ | refine g_b ?_ | refine g_sk ?_ | refine g_cT rfl ?_ | refine g_cF rfl ?_ | refine g_x rfl ?_ | refine g_lb ?_))
      have hwl := hw.2.2.2
      refine g_at 2 [(7, dp g)] (fun w => St w0 S0 w [cel b (DevC (.slice (some ⟨bc, 0, none⟩) D.cells.length cap) (.slice a D.waits.length c) D) 65, cel bc (fc D.cells ++ rest) 122, row (.slice a D.waits.length c) 124 129 D.waits.length (fw D.waits), cel g (bys (D.rd i)) 122]) rfl ?_ ?_
      · (repeat (first | refine g_sq ?_ | refine g_rg ?_ | refine g_r0 ?_ | refine g_ok rfl rfl ?_ | refine g_no rfl ?_ | refine g_no0 rfl ?_ | refine g_bk ?_ | refine g_b ?_ | refine g_sk ?_ | refine g_cT rfl ?_ | refine g_cF rfl ?_ | refine g_x rfl ?_ | refine g_lb ?_))
        refine g_lp (ι := Nat) (fun k => [(1, .int .i64 i), (7, dp g), (29, .slice a D.waits.length c), (30, .int .i64 D.waits.length), (31, .int .i64 k)])
          (fun k w => k ≤ D.waits.length ∧ St w0 S0 w [cel b (DevC (.slice (some ⟨bc, 0, none⟩) D.cells.length cap) (.slice a D.waits.length c) D) 65, cel bc (fc D.cells ++ rest) 122, row (.slice a D.waits.length c) 124 129 D.waits.length (fw D.waits), cel g (bys (D.rdK i k)) 122]) (fun k => D.waits.length - k) 0 ⟨rfl, rfl, rfl, rfl, rfl, trivial⟩ ⟨Nat.zero_le _, hS⟩ ?_
        clear hS
        rintro k w ⟨hk, hS⟩
        (repeat (first | refine g_sq ?_ | refine g_rg ?_ | refine g_r0 ?_ | refine g_ok rfl rfl ?_ | refine g_no rfl ?_ | refine g_no0 rfl ?_ | refine g_bk ?_ | refine g_b ?_ | refine g_sk ?_ | refine g_cT rfl ?_ | refine g_cF rfl ?_ | refine g_x rfl ?_ | refine g_lb ?_))
        refine g_cd rfl (fun hc => ?_) (fun hc => ?_)
        all_goals simp only [cmv, decide_eq_true_eq, decide_eq_false_iff_not] at hc
        · have hlt : k < D.waits.length := by omega
          have hx : D.waits[k]? = some D.waits[k] := List.getElem?_eq_getElem hlt
          have hxw := hw.2.2.1 _ (List.getElem_mem hlt)
          have hst := Dev.rdK_step (i := i) hx
          have hrl := Dev.rdK_len hw hin k
          generalize D.waits[k] = x at hx hxw hst
          obtain ⟨a', m', c', hv⟩ := hS.rowb 2 rfl (by omega)
          cases hv
          rcases hS.ok 2 _ rfl with ⟨hv, _⟩ | ⟨bw, capw, restw, hv, hcap, hxl, hl, hB⟩
          · cases hv
          cases hv
          (repeat (first | refine g_sq ?_ | refine g_rg ?_ | refine g_r0 ?_ | refine g_ok rfl rfl ?_ | refine g_no rfl ?_ | refine g_no0 rfl ?_ | refine g_bk ?_ | refine g_b ?_ | refine g_sk ?_ | refine g_cT rfl ?_ | refine g_cF rfl ?_ | refine g_x rfl ?_ | refine g_lb ?_))
          refine g_rq rfl rfl ⟨by omega, by omega⟩ ?_
          refine g_lm rfl rfl hB ?_ ?_
          · show 0 + k * 129 + 129 ≤ _
            rw [hl]
            omega
          have e : List.take 129 (List.drop (0 + k * 129) (fw D.waits ++ restw)) = wv x := by
            rw [Nat.zero_add, fw, flat_get (wv_flat fun x hx => (hw.2.2.1 x hx).1) (by simpa using hlt)]
            have := (List.getElem?_eq_some_iff.1 hx).2
            simp [this]
          rw [show ((k : Int).toNat) = k from rfl, e]
          refine g_ef rfl (ef_al hS fun g9 w hS => ?_)
          refine g_ef0 rfl (ef_st hS 4 rfl rfl rfl (wv_len hxw.1) (by simp [zx]) (wv_one _) fun w hS => ?_)
          have hS := hS.ceq 4 rfl (spl_wv hxw.1)
          (repeat (first | refine g_sq ?_ | refine g_rg ?_ | refine g_r0 ?_ | refine g_ok rfl rfl ?_ | refine g_no rfl ?_ | refine g_no0 rfl ?_ | refine g_bk ?_ | refine g_b ?_ | refine g_sk ?_ | refine g_cT rfl ?_ | refine g_cF rfl ?_ | refine g_x rfl ?_ | refine g_lb ?_))
          refine g_l1 rfl rfl (hS.b  4 rfl) rfl ?_
          (repeat (first | refine g_sq ?_ | refine g_rg ?_ | refine g_r0 ?_ | refine g_ok rfl rfl ?_ | refine g_no rfl ?_ | refine g_no0 rfl ?_ | refine g_bk ?_ | refine g_b ?_ | refine g_sk ?_ | refine g_cT rfl ?_ | refine g_cF rfl ?_ | refine g_x rfl ?_ | refine g_lb ?_))
          refine g_at 1 [(1, .int .i64 i), (7, dp g), (29, .slice (some ⟨bw, 0, none⟩) D.waits.length c), (30, .int .i64 D.waits.length), (31, .int .i64 k)] (fun w => St w0 S0 w [cel b (DevC (.slice (some ⟨bc, 0, none⟩) D.cells.length cap) (.slice (some ⟨bw, 0, none⟩) D.waits.length c) D) 65, cel bc (fc D.cells ++ rest) 122, row (.slice (some ⟨bw, 0, none⟩) D.waits.length c) 124 129 D.waits.length (fw D.waits), cel g (bys (D.rdK i (k + 1))) 122]) rfl ?_ ?_
          · refine g_cd rfl (fun hq => ?_) (fun hq => ?_)
            all_goals simp only [cmv, decide_eq_true_eq, decide_eq_false_iff_not] at hq
            · rw [if_pos hq] at hst
              (repeat (first | refine g_sq ?_ | refine g_rg ?_ | refine g_r0 ?_ | refine g_ok rfl rfl ?_ | refine g_no rfl ?_ | refine g_no0 rfl ?_ | refine g_bk ?_ | refine g_b ?_ | refine g_sk ?_ | refine g_cT rfl ?_ | refine g_cF rfl ?_ | refine g_x rfl ?_ | refine g_lb ?_))
              have h128 : List.take 128 (List.drop (0 + 1) (wv x)) = bys x.2 := by
                have := hxw.1
                simp only [wv, Nat.zero_add, List.drop_succ_cons, List.drop_zero]
                rw [List.take_of_length_le (by simp [this])]
              refine g_lm rfl rfl (hS.b 4 rfl) (by rw [wv_len hxw.1]; decide) ?_
              rw [h128]
              refine g_ef0 rfl (ef_st hS 3 rfl rfl rfl (bys_len hxw.1) (by rw [bys_len hrl]; decide) (bys_one _) fun w hS => ?_)
              have hS := hS.ceq (l' := bys (D.rdK i (k + 1))) 3 rfl (by rw [hst]; exact spl_all ((bys_len hxw.1).trans (bys_len hrl).symm))
              refine g_r0 (g_j ⟨rfl, rfl, rfl, rfl, rfl, trivial⟩ (hS.sel [0, 1, 2, 3] rfl rfl))
            · rw [if_neg hq] at hst
              refine g_sk (g_j ⟨rfl, rfl, rfl, rfl, rfl, trivial⟩ ?_)
              rw [hst]
              exact hS.sel [0, 1, 2, 3] rfl rfl
          · clear hS
            intro T w hT hS
            refine g_b (g_wkc hT ?_)
            (repeat (first | refine g_sq ?_ | refine g_rg ?_ | refine g_r0 ?_ | refine g_ok rfl rfl ?_ | refine g_no rfl ?_ | refine g_no0 rfl ?_ | refine g_bk ?_ | refine g_b ?_ | refine g_sk ?_ | refine g_cT rfl ?_ | refine g_cF rfl ?_ | refine g_x rfl ?_ | refine g_lb ?_))
            refine g_rq rfl rfl (in64 (by simp only [arv]; omega)) ?_
            (repeat (first | refine g_sq ?_ | refine g_rg ?_ | refine g_r0 ?_ | refine g_ok rfl rfl ?_ | refine g_no rfl ?_ | refine g_no0 rfl ?_ | refine g_bk ?_ | refine g_b ?_ | refine g_sk ?_ | refine g_cT rfl ?_ | refine g_cF rfl ?_ | refine g_x rfl ?_ | refine g_lb ?_))
            exact g_l (k + 1) ⟨rfl, rfl, rfl, rfl, rfl, trivial⟩ ⟨by omega, hS⟩ (by omega)
        · have : k = D.waits.length := by omega
          subst this
          (repeat (first | refine g_sq ?_ | refine g_rg ?_ | refine g_r0 ?_ | refine g_ok rfl rfl ?_ | refine g_no rfl ?_ | refine g_no0 rfl ?_ | refine g_bk ?_ | refine g_b ?_ | refine g_sk ?_ | refine g_cT rfl ?_ | refine g_cF rfl ?_ | refine g_x rfl ?_ | refine g_lb ?_))
          refine g_j ⟨rfl, trivial⟩ ?_
          have : D.rd i = D.rdK i D.waits.length := by rw [Dev.rdK, List.take_length]; rfl
          rw [this]
          exact hS
      · clear hS
        intro T w hT hS
        refine g_wkc hT ?_
        have hrl : (D.rd i).length = 128 := by
          have := Dev.rdK_len hw hin D.waits.length
          rw [Dev.rdK, List.take_length] at this
          exact this
        have ht : List.take 128 (List.drop 0 (bys (D.rd i))) = bys (D.rd i) := by rw [List.drop_zero, List.take_of_length_le (by simp [hrl])]
        (repeat (first | refine g_sq ?_ | refine g_rg ?_ | refine g_r0 ?_ | refine g_ok rfl rfl ?_ | refine g_no rfl ?_ | refine g_no0 rfl ?_ | refine g_bk ?_ | refine g_b ?_ | refine g_sk ?_ | refine g_cT rfl ?_ | refine g_cF rfl ?_ | refine g_x rfl ?_ | refine g_lb ?_))
        refine g_lm rfl rfl (hS.b 3 rfl) (by simp [hrl]) ?_
        rw [ht]
        refine g_ok (v := .agg ⟨bys (List.replicate 128 0)⟩) rfl rfl ?_
        refine g_aq (D.rd i) (List.replicate 128 0) rfl rfl rfl hrl List.length_replicate ?_
        refine g_r0 ?_
        refine g_cd rfl (fun hq => ?_) (fun hq => ?_)
        all_goals simp only [aqv, decide_eq_true_eq, decide_eq_false_iff_not] at hq
        · (repeat (first | refine g_sq ?_ | refine g_rg ?_ | refine g_r0 ?_ | refine g_ok rfl rfl ?_ | refine g_no rfl ?_ | refine g_no0 rfl ?_ | refine g_bk ?_ | refine g_b ?_ | refine g_sk ?_ | refine g_cT rfl ?_ | refine g_cF rfl ?_ | refine g_x rfl ?_ | refine g_lb ?_))
          refine g_ef rfl (ef_ms hS rfl rfl (by decide) (by decide) (by decide) (by decide) fun b1 w hS => ?_)
          (repeat (first | refine g_sq ?_ | refine g_rg ?_ | refine g_r0 ?_ | refine g_ok rfl rfl ?_ | refine g_no rfl ?_ | refine g_no0 rfl ?_ | refine g_bk ?_ | refine g_b ?_ | refine g_sk ?_ | refine g_cT rfl ?_ | refine g_cF rfl ?_ | refine g_x rfl ?_ | refine g_lb ?_))
          refine g_ret (q_2 rfl rfl ?_)
          have e : rep (Int.toNat 128) [(1, Value.int .u8 0)] = bys (D.rd i) := by
            rw [hq, rep_byte, ← bys_rep]; rfl
          have hS := hS.ceq 4 rfl e
          have hS := hS.close_row (sz := 1) (n := 128) (cap := 128) 4 rfl (Nat.le_refl _) (bys_len hrl) (List.prefix_refl _) (bys_len hrl)
          have hS := hS.sel [0, 1, 2, 4] rfl rfl
          obtain ⟨S', hS⟩ := DevR.cls' (B := [_]) hw hc1 hc2 hS
          exact h3 rfl hin _ _ _ hS
        · (repeat (first | refine g_sq ?_ | refine g_rg ?_ | refine g_r0 ?_ | refine g_ok rfl rfl ?_ | refine g_no rfl ?_ | refine g_no0 rfl ?_ | refine g_bk ?_ | refine g_b ?_ | refine g_sk ?_ | refine g_cT rfl ?_ | refine g_cF rfl ?_ | refine g_x rfl ?_ | refine g_lb ?_))
          refine g_rq rfl rfl ⟨Int.le_refl _, by decide, by decide⟩ ?_
          refine g_cl rfl rfl (c86 (n := 128) (xs := bys (D.rd i)) (E' := 122) hS (.inr ⟨g, 0, 128, _, rfl, Nat.le_refl _, ?_, ht, (hS.b 3 rfl).r⟩) (bys_one _) (by decide) fun v' w hS => ?_)
          · rw [bys_len hrl]; decide
          (repeat (first | refine g_sq ?_ | refine g_rg ?_ | refine g_r0 ?_ | refine g_ok rfl rfl ?_ | refine g_no rfl ?_ | refine g_no0 rfl ?_ | refine g_bk ?_ | refine g_b ?_ | refine g_sk ?_ | refine g_cT rfl ?_ | refine g_cF rfl ?_ | refine g_x rfl ?_ | refine g_lb ?_))
          refine g_ret (q_2 rfl rfl ?_)
          have hS := hS.sel [0, 1, 2, 4] rfl rfl
          obtain ⟨S', hS⟩ := DevR.cls' (B := [_]) hw hc1 hc2 hS
          exact h3 rfl hin _ _ _ hS
  · simp only [if_true]
    (repeat (first | refine g_sq ?_ | refine g_rg ?_ | refine g_r0 ?_ | refine g_ok rfl rfl ?_ | refine g_no rfl ?_ | refine g_no0 rfl ?_ | refine g_bk ?_ | refine g_b ?_ | refine g_sk ?_ | refine g_cT rfl ?_ | refine g_cF rfl ?_ | refine g_x rfl ?_ | refine g_lb ?_))
    exact g_ret (q_2 rfl rfl (h1 rfl))
end
end Go.Proofs.Ytegjocpjmfaigaa
namespace Go.Proofs.Ytegjocpjmfaigaa
open Go.En

theorem fw_one (ws : List (Int × List UInt8)) : (fw ws).all (·.oneCell') = true := by
  rw [List.all_eq_true]
  intro v hv
  simp only [fw, List.mem_flatten, List.mem_map] at hv
  obtain ⟨l, ⟨x, _, rfl⟩, hv⟩ := hv
  exact List.all_eq_true.1 (wv_one x) v hv
theorem fc_one (cs : List (List UInt8)) : (fc cs).all (·.oneCell') = true := by
  rw [List.all_eq_true]
  intro v hv
  simp only [fc, List.mem_flatten, List.mem_map] at hv
  obtain ⟨l, ⟨x, _, rfl⟩, hv⟩ := hv
  exact List.all_eq_true.1 (bys_one x) v hv
def Dev.new (n : Nat) : Dev := ⟨List.replicate n (List.replicate 128 0), [], false, 0, ⟨0, 0, 0⟩, 0⟩
theorem Dev.new_wf {n : Nat} (h : 0 < n) : (Dev.new n).wf :=
  ⟨fun e => by have := congrArg List.length e; simp [Dev.new] at this; omega, fun c hc => by rw [(List.mem_replicate.1 hc).2]; exact List.length_replicate, (fun x hx => nomatch hx), Nat.lt_of_lt_of_le (Nat.zero_lt_succ 0) (by decide)⟩
section
variable {w w0 : World} {S0 S : Nat → Prop} {K : Value → World → Prop} {b : Nat} {D : Dev} {B L : List Res}
set_option maxRecDepth 100000 in
theorem b37 (hl : D.cells.length ≤ 4096) (hS : St w0 S0 w [DevR S b D]) (h : ∀ w' S' S2 b2, St w0 S0 w' [DevR S' b D, DevR S2 b2 D] → K (dp b2) w') : CK Try.prog 37 [dp b] w K := by
  obtain ⟨hw, bc, cap, rest, a, c, h1, h2, hS⟩ := DevR.opn hS
  obtain ⟨n, hn⟩ : ∃ n, D.cells.length = n + 1 := ⟨D.cells.length - 1, by have := List.length_pos_iff.2 hw.1; omega⟩
  have hwl := hw.2.2.2
  refine call_k Try.func37 k37 Try.ntmps37 (Nat.le_of_ble_eq_true rfl) ?_
  (repeat (first | refine g_sq ?_ | refine g_rg ?_ | refine g_r0 ?_ | refine g_ok rfl rfl ?_ | refine g_no rfl ?_ | refine g_no0 rfl ?_ | refine g_bk ?_ | refine g_b ?_ | refine g_sk ?_ | refine g_cT rfl ?_ | refine g_cF rfl ?_ | refine g_x rfl ?_ | refine g_lb ?_))
  refine g_cl rfl rfl (d85 (hS.b 0 rfl) ?_)
  rw [show decide (D.cells.length = 0) = false by rw [hn]; rfl]
  (repeat (first | refine g_sq ?_ | refine g_rg ?_ | refine g_r0 ?_ | refine g_ok rfl rfl ?_ | refine g_no rfl ?_ | refine g_no0 rfl ?_ | refine g_bk ?_ | refine g_b ?_ | refine g_sk ?_ | refine g_cT rfl ?_ | refine g_cF rfl ?_ | refine g_x rfl ?_ | refine g_lb ?_))
  refine g_lm rfl rfl (hS.b 0 rfl) (Nat.le_of_ble_eq_true rfl) ?_
  refine g_ef rfl (ef_al hS fun g w hS => ?_)
  refine g_ef0 rfl (ef_st hS 3 rfl rfl rfl rfl (Nat.le_of_ble_eq_true rfl) rfl fun w hS => ?_)
  (repeat (first | refine g_sq ?_ | refine g_rg ?_ | refine g_r0 ?_ | refine g_ok rfl rfl ?_ | refine g_no rfl ?_ | refine g_no0 rfl ?_ | refine g_bk ?_ | refine g_b ?_ | refine g_sk ?_ | refine g_cT rfl ?_ | refine g_cF rfl ?_ | refine g_x rfl ?_ | refine g_lb ?_))
  refine g_dr mixed ?_
  have hS := hS.drew
  (repeat (first | refine d_ok rfl rfl rfl ?_ | refine d_no rfl rfl ?_))
  refine d_l1 rfl rfl rfl (hS.b 0 rfl) rfl ?_
  (repeat (first | refine d_ok rfl rfl rfl ?_ | refine d_no rfl rfl ?_))
  refine d_l1 rfl rfl rfl (hS.b 0 rfl) rfl ?_
  have hrc : ∀ {w : World}, Blk w bc (fc D.cells ++ rest) 122 → Rd (.slice (some ⟨bc, 0, none⟩) D.cells.length cap) 122 128 D.cells.length (fc D.cells) w := fun hB => .inr ⟨bc, 0, cap, _, rfl, h1, by omega, by rw [List.drop_zero, ← fc_len hw.2.1, List.take_left], hB.r⟩
  refine d_cl rfl rfl rfl (c87 hS (hrc (hS.b 1 rfl)) (fc_one _) (by omega) fun v1 w hS => ⟨rc_1 rfl rfl rfl rfl (hS.b 0 rfl) rfl rc_0, ?_⟩)
  refine d_cl rfl rfl rfl (c88 hS (Ow.rd (hS.ok 2 _ rfl)) (fw_one _) (by omega) fun v2 w hS => ⟨rc_0, ?_⟩)
  obtain ⟨a1, c1, rfl⟩ := hS.rlen 4 rfl
  obtain ⟨a2, c2, rfl⟩ := hS.rlen 5 rfl
  (repeat (first | refine d_ok rfl rfl rfl ?_ | refine d_no rfl rfl ?_))
  refine d_e0 rfl rfl ?_
  refine ef_st hS 3 rfl rfl rfl rfl (Nat.le_of_ble_eq_true rfl) rfl fun w hS => ⟨rc_0, ?_⟩
  (repeat (first | refine d_ok rfl rfl rfl ?_ | refine d_no rfl rfl ?_))
  refine d_e0 rfl rfl ?_
  refine ef_st hS 3 rfl rfl rfl rfl (Nat.le_of_ble_eq_true rfl) rfl fun w hS => ⟨rc_0, ?_⟩
  refine d_fin ?_
  (repeat (first | refine g_sq ?_ | refine g_rg ?_ | refine g_r0 ?_ | refine g_ok rfl rfl ?_ | refine g_no rfl ?_ | refine g_no0 rfl ?_ | refine g_bk ?_ | refine g_b ?_ | refine g_sk ?_ | refine g_cT rfl ?_ | refine g_cF rfl ?_ | refine g_x rfl ?_ | refine g_lb ?_))
  refine g_ret (q_1 rfl ?_)
  have hS := hS.sel [0, 1, 2, 3, 4, 5] rfl rfl
  obtain ⟨S', hS⟩ := DevR.cls' (B := [_, _, _]) hw h1 h2 hS
  have hS := hS.sel [1, 2, 3, 0] rfl rfl
  obtain ⟨S2, hS⟩ := DevR.cls (B := [_]) (b := g) (D := D) hw hS
  exact h _ _ _ _ (hS.sel [1, 0] rfl rfl)
theorem c37 (hl : D.cells.length ≤ 4096) (hS : St w0 S0 w (DevR S b D :: B)) (h : ∀ w' S' S2 b2, St w0 S0 w' (DevR S' b D :: DevR S2 b2 D :: B) → K (dp b2) w') : CK Try.prog 37 [dp b] w K :=
  b37 hl (St.frame (A := [DevR S b D]) (B := B) hS).1 fun w' S' S2 b2 h' => h w' S' S2 b2 ((St.frame (A := [DevR S b D]) (B := B) hS).2 w' [DevR S' b D, DevR S2 b2 D] h')

set_option maxRecDepth 100000 in
theorem b18 {n : Int} (h1 : ¬ (1 ≤ n ∧ n ≤ 4096) → K (.tuple ⟨[.pointer none, .int .i64 2]⟩) w) (h2 : 1 ≤ n ∧ n ≤ 4096 → ∀ w' S b, St w (fun _ => False) w' [DevR S b (Dev.new n.toNat)] → K (.tuple ⟨[dp b, .int .i64 0]⟩) w') : CK Try.prog 18 [.int .i64 n] w K := by
  refine call_k Try.func18 k18 Try.ntmps18 (Nat.le_of_ble_eq_true rfl) ?_
  (repeat (first | refine g_sq ?_ | refine g_rg ?_ | refine g_r0 ?_ | refine g_ok rfl rfl ?_ | refine g_no rfl ?_ | refine g_no0 rfl ?_ | refine g_bk ?_ | refine g_b ?_ | refine g_sk ?_ | refine g_cT rfl ?_ | refine g_cF rfl ?_ | refine g_x rfl ?_ | refine g_lb ?_))
  generalize hg : cmv BinOp.lss n 1 = g
  cases g
  all_goals simp only [cmv, decide_eq_true_eq, decide_eq_false_iff_not] at hg
  · (repeat (first | refine g_sq ?_ | refine g_rg ?_ | refine g_r0 ?_ | refine g_ok rfl rfl ?_ | refine g_no rfl ?_ | refine g_no0 rfl ?_ | refine g_bk ?_ | refine g_b ?_ | refine g_sk ?_ | refine g_cT rfl ?_ | refine g_cF rfl ?_ | refine g_x rfl ?_ | refine g_lb ?_))
    refine g_cd rfl (fun hq => ?_) (fun hq => ?_)
    all_goals simp only [cmv, decide_eq_true_eq, decide_eq_false_iff_not] at hq
    · (repeat (first | refine g_sq ?_ | refine g_rg ?_ | refine g_r0 ?_ | refine g_ok rfl rfl ?_ | refine g_no rfl ?_ | refine g_no0 rfl ?_ | refine g_bk ?_ | refine g_b ?_ | refine g_sk ?_ | refine g_cT rfl ?_ | refine g_cF rfl ?_ | refine g_x rfl ?_ | refine g_lb ?_))
      exact g_ret (q_2 rfl rfl (h1 (by omega)))
    · have hn : 1 ≤ n ∧ n ≤ 4096 := by omega
      (repeat (first | refine g_sq ?_ | refine g_rg ?_ | refine g_r0 ?_ | refine g_ok rfl rfl ?_ | refine g_no rfl ?_ | refine g_no0 rfl ?_ | refine g_bk ?_ | refine g_b ?_ | refine g_sk ?_ | refine g_cT rfl ?_ | refine g_cF rfl ?_ | refine g_x rfl ?_ | refine g_lb ?_))
      refine g_ef rfl (ef_ms (St.nil w (fun _ => False)) rfl rfl (by omega) (by omega) (by omega) (by omega) fun b1 w1 hS => ?_)
      refine g_ok rfl rfl ?_
      refine g_ef rfl (ef_bx hS rfl fun g w1 hS => ?_)
      (repeat (first | refine g_sq ?_ | refine g_rg ?_ | refine g_r0 ?_ | refine g_ok rfl rfl ?_ | refine g_no rfl ?_ | refine g_no0 rfl ?_ | refine g_bk ?_ | refine g_b ?_ | refine g_sk ?_ | refine g_cT rfl ?_ | refine g_cF rfl ?_ | refine g_x rfl ?_ | refine g_lb ?_))
      have e : rep n.toNat [(128, .int .u8 0)] = fc (Dev.new n.toNat).cells := by
        rw [rep, fc, Dev.new, List.map_replicate, ← bys_rep]
        congr 2
      have hS := hS.ceq 0 rfl e
      have hp : 0 < n.toNat := by omega
      have hw := Dev.new_wf hp
      have hcl : (Dev.new n.toNat).cells.length = n.toNat := List.length_replicate
      have hS := hS.close_row (sz := 128) (n := n.toNat) (cap := n.toNat) 0 rfl (Nat.le_refl _) (by rw [fc_len hw.2.1, hcl]) (List.prefix_refl _) (by rw [fc_len hw.2.1, hcl])
      have hS := (hS.nilrow 124 129).sel [1, 0, 2] rfl rfl
      have hS : St w (fun _ => False) w1 [cel g (DevC (.slice (some ⟨b1, 0, none⟩) n.toNat n.toNat) (.slice none 0 0) (Dev.new n.toNat)) 65, row (.slice (some ⟨b1, 0, none⟩) n.toNat n.toNat) 122 128 n.toNat (fc (Dev.new n.toNat).cells), row (.slice none 0 0) 124 129 0 []] := hS
      obtain ⟨S', hS⟩ := DevR.cls (B := []) (b := g) (D := Dev.new n.toNat) hw (by rw [hcl]; exact hS)
      exact g_ret (q_2 rfl rfl (h2 hn _ _ _ hS))
  · (repeat (first | refine g_sq ?_ | refine g_rg ?_ | refine g_r0 ?_ | refine g_ok rfl rfl ?_ | refine g_no rfl ?_ | refine g_no0 rfl ?_ | refine g_bk ?_ | refine g_b ?_ | refine g_sk ?_ | refine g_cT rfl ?_ | refine g_cF rfl ?_ | refine g_x rfl ?_ | refine g_lb ?_))
    exact g_ret (q_2 rfl rfl (h1 (by omega)))
theorem c18 {n : Int} (hS : St w0 S0 w L) (h1 : ¬ (1 ≤ n ∧ n ≤ 4096) → K (.tuple ⟨[.pointer none, .int .i64 2]⟩) w) (h2 : 1 ≤ n ∧ n ≤ 4096 → ∀ w' S b, St w0 S0 w' (L ++ [DevR S b (Dev.new n.toNat)]) → K (.tuple ⟨[dp b, .int .i64 0]⟩) w') : CK Try.prog 18 [.int .i64 n] w K :=
  b18 h1 fun hn w' S b h' => h2 hn w' S b (hS.call0.2 w' _ h')
theorem c33 {i : Int} (hS : St w0 S0 w (DevR S b D :: B)) (h1 : D.down = true → K (.tuple ⟨[.slice none 0 0, .int .i64 141]⟩) w) (h2 : D.down = false → ¬ (0 ≤ i ∧ i < D.cells.length) → K (.tuple ⟨[.slice none 0 0, .int .i64 140]⟩) w)
    (h3 : D.down = false → (0 ≤ i ∧ i < D.cells.length) → ∀ w' S' v', St w0 S0 w' (DevR S' b D :: row v' 5 1 128 (bys (D.rd i)) :: B) → K (.tuple ⟨[v', .int .i64 0]⟩) w') : CK Try.prog 33 [dp b, .int .i64 i] w K :=
  b33 (St.frame (A := [DevR S b D]) (B := B) hS).1 h1 h2 fun hd hi w' S' v' h' => h3 hd hi w' S' v' ((St.frame (A := [DevR S b D]) (B := B) hS).2 w' [DevR S' b D, row v' 5 1 128 (bys (D.rd i))] h')
end
end Go.Proofs.Ytegjocpjmfaigaa
