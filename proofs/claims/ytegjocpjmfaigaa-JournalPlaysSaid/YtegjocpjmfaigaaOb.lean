/- The document's journal: numbers, commit blocks. -/
import Derived.Test.YtegjocpjmfaigaaOa
import Derived.Test.YtegjocpjmfaigaaJi
set_option linter.unusedSimpArgs false
set_option linter.unusedVariables false
namespace Go.Proofs.Ytegjocpjmfaigaa
open Go.En

def hiN (xs : List UInt8) : Int := if maxN < numB xs then -1 else numB xs
theorem numB_inj : ∀ (a b : List UInt8), a.length = b.length → numB a = numB b → a = b
  | [], [], _, _ => rfl
  | c :: a, d :: b, hl, h => by
    have hc := c.toNat_lt
    have hd := d.toNat_lt
    rw [numB, numB] at h
    have h1 : c.toNat = d.toNat := by omega
    have h2 : numB a = numB b := by omega
    rw [numB_inj a b (by simpa using hl) h2, UInt8.toNat.inj h1]
  | [], _ :: _, hl, _ => by cases hl
  | _ :: _, [], hl, _ => by cases hl
section
variable {w w0 : World} {S0 S S1 : Nat → Prop} {K : Value → World → Prop} {B L : List Res} {v : Value}
theorem c51 {n : Nat} (hn : n ≤ 1000000000000) (h : K (.int .i64 (blk n)) w) : CK Try.prog 51 [.int .i64 n] w K := by
  refine call_k Try.func51 k51 Try.ntmps51 (Nat.le_of_ble_eq_true rfl) ?_
  (repeat (first | refine g_sq ?_ | refine g_rg ?_ | refine g_r0 ?_ | refine g_ok rfl rfl ?_ | refine g_no rfl ?_ | refine g_no0 rfl ?_ | refine g_bk ?_ | refine g_b ?_ | refine g_sk ?_ | refine g_cT rfl ?_ | refine g_cF rfl ?_ | refine g_x rfl ?_ | refine g_lb ?_))
  refine g_lp (ι := Nat) (fun k => [(0, .int .i64 ((n : Int) - 119 * (k : Int))), (3, .int .i64 ((1 + k : Nat) : Int))]) (fun k w' => k ≤ (n + 118) / 119 ∧ w = w') (fun k => (n + 118) / 119 - k) 0 ⟨by show some (Value.int .i64 (n : Int)) = some (Value.int .i64 ((n : Int) - 119 * ((0 : Nat) : Int))); congr 2, rfl, trivial⟩ ⟨Nat.zero_le _, rfl⟩ ?_
  rintro k _ ⟨hk, rfl⟩
  (repeat (first | refine g_sq ?_ | refine g_rg ?_ | refine g_r0 ?_ | refine g_ok rfl rfl ?_ | refine g_no rfl ?_ | refine g_no0 rfl ?_ | refine g_bk ?_ | refine g_b ?_ | refine g_sk ?_ | refine g_cT rfl ?_ | refine g_cF rfl ?_ | refine g_x rfl ?_ | refine g_lb ?_))
  refine g_cd rfl (fun hc2 => ?_) (fun hc2 => ?_)
  all_goals simp only [cmv, decide_eq_true_eq, decide_eq_false_iff_not] at hc2
  · (repeat (first | refine g_sq ?_ | refine g_rg ?_ | refine g_r0 ?_ | refine g_ok rfl rfl ?_ | refine g_no rfl ?_ | refine g_no0 rfl ?_ | refine g_bk ?_ | refine g_b ?_ | refine g_sk ?_ | refine g_cT rfl ?_ | refine g_cF rfl ?_ | refine g_x rfl ?_ | refine g_lb ?_))
    refine g_rq rfl rfl (in64 (by simp only [arv]; omega)) ?_
    (repeat (first | refine g_sq ?_ | refine g_rg ?_ | refine g_r0 ?_ | refine g_ok rfl rfl ?_ | refine g_no rfl ?_ | refine g_no0 rfl ?_ | refine g_bk ?_ | refine g_b ?_ | refine g_sk ?_ | refine g_cT rfl ?_ | refine g_cF rfl ?_ | refine g_x rfl ?_ | refine g_lb ?_))
    refine g_rq rfl rfl (in64 (by simp only [arv]; omega)) ?_
    (repeat (first | refine g_sq ?_ | refine g_rg ?_ | refine g_r0 ?_ | refine g_ok rfl rfl ?_ | refine g_no rfl ?_ | refine g_no0 rfl ?_ | refine g_bk ?_ | refine g_b ?_ | refine g_sk ?_ | refine g_cT rfl ?_ | refine g_cF rfl ?_ | refine g_x rfl ?_ | refine g_lb ?_))
    refine g_l (k + 1) ⟨?_, ?_, trivial⟩ ⟨by omega, rfl⟩ (by omega)
    · show some (Value.int .i64 (arv BinOp.sub ((n : Int) - 119 * (k : Int)) 119)) = some (Value.int .i64 ((n : Int) - 119 * ((k + 1 : Nat) : Int)))
      congr 2 <;> (simp only [arv]; omega)
    · show some (Value.int .i64 (arv BinOp.add ((1 + k : Nat) : Int) 1)) = some (Value.int .i64 ((1 + (k + 1) : Nat) : Int))
      congr 2 <;> (simp only [arv]; omega)
  · have e : ((1 + k : Nat) : Int) = ((blk n : Nat) : Int) := by unfold blk; omega
    rw [e]
    (repeat (first | refine g_sq ?_ | refine g_rg ?_ | refine g_r0 ?_ | refine g_ok rfl rfl ?_ | refine g_no rfl ?_ | refine g_no0 rfl ?_ | refine g_bk ?_ | refine g_b ?_ | refine g_sk ?_ | refine g_cT rfl ?_ | refine g_cF rfl ?_ | refine g_x rfl ?_ | refine g_lb ?_))
    exact g_ret (q_1 rfl h)
theorem low_len (n m : Nat) (hm : m ≤ 8) : ((lowB n).take m).length = m := by rw [List.length_take, lowB_len]; omega
theorem low_take (n m : Nat) (hm : m ≤ 8) : (lowB n).take m = (List.range m).map fun i => UInt8.ofNat (n / 256 ^ i) := by
  rw [lowB, ← List.map_take, List.take_range, Nat.min_eq_left hm]
theorem b137 {n m : Nat} (hn : n < 9223372036854775808) (hm : m ≤ 8) (h : ∀ v' w', St w (fun _ => False) w' [row v' 5 1 m (bys ((lowB n).take m))] → K v' w') : CK Try.prog 137 [.int .i64 n, .int .i64 m] w K := by
  refine call_k Try.func137 k137 Try.ntmps137 (Nat.le_of_ble_eq_true rfl) ?_
  (repeat (first | refine g_sq ?_ | refine g_rg ?_ | refine g_r0 ?_ | refine g_ok rfl rfl ?_ | refine g_no rfl ?_ | refine g_no0 rfl ?_ | refine g_bk ?_ | refine g_b ?_ | refine g_sk ?_ | refine g_cT rfl ?_ | refine g_cF rfl ?_ | refine g_x rfl ?_ | refine g_lb ?_))
  refine g_lp (ι := Nat × Value) (fun x => [(0, .int .i64 ((n / 256 ^ x.1 : Nat) : Int)), (1, .int .i64 m), (5, x.2), (6, .int .i64 x.1)]) (fun x w' => x.1 ≤ m ∧ St w (fun _ => False) w' [row x.2 5 1 x.1 (bys ((lowB n).take x.1))]) (fun x => m - x.1) (0, .slice none 0 0) ⟨by show some (Value.int .i64 (n : Int)) = some (Value.int .i64 ((n / 1 : Nat) : Int)); rw [Nat.div_one], rfl, rfl, rfl, trivial⟩ ⟨Nat.zero_le _, (St.nil w (fun _ => False)).nilrow 5 1⟩ ?_
  rintro ⟨k, vb⟩ w1 ⟨hk, hS⟩
  simp only at hk hS
  (repeat (first | refine g_sq ?_ | refine g_rg ?_ | refine g_r0 ?_ | refine g_ok rfl rfl ?_ | refine g_no rfl ?_ | refine g_no0 rfl ?_ | refine g_bk ?_ | refine g_b ?_ | refine g_sk ?_ | refine g_cT rfl ?_ | refine g_cF rfl ?_ | refine g_x rfl ?_ | refine g_lb ?_))
  refine g_cd rfl (fun hc => ?_) (fun hc => ?_)
  all_goals simp only [cmv, decide_eq_true_eq, decide_eq_false_iff_not] at hc
  · have hx : n / 256 ^ k < 9223372036854775808 := Nat.lt_of_le_of_lt (Nat.div_le_self _ _) hn
    have hx1 : n / 256 ^ (k + 1) = n / 256 ^ k / 256 := by rw [Nat.div_div_eq_div_mul, Nat.pow_succ]
    have hst : (lowB n).take (k + 1) = (lowB n).take k ++ [UInt8.ofNat (n / 256 ^ k)] := by
      rw [low_take n _ (by omega), low_take n _ (by omega), List.range_succ, List.map_append]
      rfl
    generalize n / 256 ^ k = x at hx hx1 hst
    have q1 : IntKind.u8.wrap ((x : Int).tmod 256) = ((UInt8.ofNat x).toNat : Int) := by
      rw [Int.tmod_eq_emod_of_nonneg (by omega), IntKind.wrap_u8, UInt8.toNat_ofNat']
      omega
    have q2 : IntKind.i64.wrap ((x : Int).tdiv 256) = ((x / 256 : Nat) : Int) := by
      rw [Int.tdiv_eq_ediv_of_nonneg (by omega), wrap_in (k := .i64) (in64 (by omega))]; omega
    (repeat (first | refine g_sq ?_ | refine g_rg ?_ | refine g_r0 ?_ | refine g_ok rfl rfl ?_ | refine g_no rfl ?_ | refine g_no0 rfl ?_ | refine g_bk ?_ | refine g_b ?_ | refine g_sk ?_ | refine g_cT rfl ?_ | refine g_cF rfl ?_ | refine g_x rfl ?_ | refine g_lb ?_))
    refine g_rq rfl rfl (by decide) ?_
    (repeat (first | refine g_sq ?_ | refine g_rg ?_ | refine g_r0 ?_ | refine g_ok rfl rfl ?_ | refine g_no rfl ?_ | refine g_no0 rfl ?_ | refine g_bk ?_ | refine g_b ?_ | refine g_sk ?_ | refine g_cT rfl ?_ | refine g_cF rfl ?_ | refine g_x rfl ?_ | refine g_lb ?_))
    rw [q1]
    refine g_ef rfl (ef_bl (rs := [.int .u8 ((UInt8.ofNat x).toNat : Int)]) hS rfl fun g w1 hS => ?_)
    refine g_ef rfl (ef_ap (n := k) (m := 1) (ys := [.int .u8 ((UInt8.ofNat x).toNat : Int)]) hS 0 rfl rfl rfl (.inl ⟨5, .inr ⟨g, 0, 1, _, rfl, Nat.le_refl _, Nat.le_refl _, rfl, (hS.b 1 rfl).r⟩⟩) rfl (by omega) (by omega) fun vb1 w1 hS => ?_)
    (repeat (first | refine g_sq ?_ | refine g_rg ?_ | refine g_r0 ?_ | refine g_ok rfl rfl ?_ | refine g_no rfl ?_ | refine g_no0 rfl ?_ | refine g_bk ?_ | refine g_b ?_ | refine g_sk ?_ | refine g_cT rfl ?_ | refine g_cF rfl ?_ | refine g_x rfl ?_ | refine g_lb ?_))
    refine g_rq rfl rfl (by decide) ?_
    rw [q2]
    (repeat (first | refine g_sq ?_ | refine g_rg ?_ | refine g_r0 ?_ | refine g_ok rfl rfl ?_ | refine g_no rfl ?_ | refine g_no0 rfl ?_ | refine g_bk ?_ | refine g_b ?_ | refine g_sk ?_ | refine g_cT rfl ?_ | refine g_cF rfl ?_ | refine g_x rfl ?_ | refine g_lb ?_))
    refine g_rq rfl rfl (in64 (by simp only [arv]; omega)) ?_
    (repeat (first | refine g_sq ?_ | refine g_rg ?_ | refine g_r0 ?_ | refine g_ok rfl rfl ?_ | refine g_no rfl ?_ | refine g_no0 rfl ?_ | refine g_bk ?_ | refine g_b ?_ | refine g_sk ?_ | refine g_cT rfl ?_ | refine g_cF rfl ?_ | refine g_x rfl ?_ | refine g_lb ?_))
    refine g_l (k + 1, vb1) ⟨?_, rfl, rfl, rfl, trivial⟩ ⟨by simp only; omega, ?_⟩ (by simp only; omega)
    · rw [hx1]; rfl
    · simp only
      rw [hst, bys_append]
      exact hS.sel [0] rfl rfl
  · have e : k = m := by omega
    subst e
    (repeat (first | refine g_sq ?_ | refine g_rg ?_ | refine g_r0 ?_ | refine g_ok rfl rfl ?_ | refine g_no rfl ?_ | refine g_no0 rfl ?_ | refine g_bk ?_ | refine g_b ?_ | refine g_sk ?_ | refine g_cT rfl ?_ | refine g_cF rfl ?_ | refine g_x rfl ?_ | refine g_lb ?_))
    exact g_ret (q_1 rfl (h _ _ hS))
theorem c137 {n m : Nat} (hn : n < 9223372036854775808) (hm : m ≤ 8) (hS : St w0 S0 w L) (h : ∀ v' w', St w0 S0 w' (L ++ [row v' 5 1 m (bys ((lowB n).take m))]) → K v' w') : CK Try.prog 137 [.int .i64 n, .int .i64 m] w K :=
  b137 hn hm fun v' w' h' => h v' w' (hS.call0.2 w' _ h')
theorem c138 {n : Nat} (hn : n < 4294967296) (hS : St w0 S0 w L) (h : ∀ v' w', St w0 S0 w' (L ++ [row v' 5 1 4 (bys ((lowB n).take 4))]) → K v' w') : CK Try.prog 138 [.int .u32 n] w K := by
  have wr : ∀ {x : Nat}, x < 4294967296 → IntKind.u32.wrap (x : Int) = (x : Int) := fun h => by rw [IntKind.wrap_u32]; omega
  have q0 : IntKind.u8.wrap ((n : Int).tmod 256) = ((UInt8.ofNat n).toNat : Int) := by
    rw [Int.tmod_eq_emod_of_nonneg (by omega), IntKind.wrap_u8, UInt8.toNat_ofNat']; omega
  have q1 : IntKind.u8.wrap ((IntKind.u32.wrap ((n : Int).tdiv 256)).tmod 256) = ((UInt8.ofNat (n / 256)).toNat : Int) := by
    rw [Int.tdiv_eq_ediv_of_nonneg (by omega), show (n : Int) / 256 = ((n / 256 : Nat) : Int) by omega, wr (by omega), Int.tmod_eq_emod_of_nonneg (by omega), IntKind.wrap_u8, UInt8.toNat_ofNat']; omega
  have q2 : IntKind.u8.wrap ((IntKind.u32.wrap ((n : Int).tdiv 65536)).tmod 256) = ((UInt8.ofNat (n / 65536)).toNat : Int) := by
    rw [Int.tdiv_eq_ediv_of_nonneg (by omega), show (n : Int) / 65536 = ((n / 65536 : Nat) : Int) by omega, wr (by omega), Int.tmod_eq_emod_of_nonneg (by omega), IntKind.wrap_u8, UInt8.toNat_ofNat']; omega
  have q3 : IntKind.u8.wrap (IntKind.u32.wrap ((n : Int).tdiv 16777216)) = ((UInt8.ofNat (n / 16777216)).toNat : Int) := by
    rw [Int.tdiv_eq_ediv_of_nonneg (by omega), show (n : Int) / 16777216 = ((n / 16777216 : Nat) : Int) by omega, wr (by omega), IntKind.wrap_u8, UInt8.toNat_ofNat']; omega
  refine call_k Try.func138 k138 Try.ntmps138 (Nat.le_of_ble_eq_true rfl) ?_
  (repeat (first | refine g_sq ?_ | refine g_rg ?_ | refine g_r0 ?_ | refine g_ok rfl rfl ?_ | refine g_no rfl ?_ | refine g_no0 rfl ?_ | refine g_bk ?_ | refine g_b ?_ | refine g_sk ?_ | refine g_cT rfl ?_ | refine g_cF rfl ?_ | refine g_x rfl ?_ | refine g_lb ?_))
  refine g_rq rfl rfl (by decide) ?_
  (repeat (first | refine g_sq ?_ | refine g_rg ?_ | refine g_r0 ?_ | refine g_ok rfl rfl ?_ | refine g_no rfl ?_ | refine g_no0 rfl ?_ | refine g_bk ?_ | refine g_b ?_ | refine g_sk ?_ | refine g_cT rfl ?_ | refine g_cF rfl ?_ | refine g_x rfl ?_ | refine g_lb ?_))
  refine g_rq rfl rfl (by decide) ?_
  refine g_rq rfl rfl (by decide) ?_
  (repeat (first | refine g_sq ?_ | refine g_rg ?_ | refine g_r0 ?_ | refine g_ok rfl rfl ?_ | refine g_no rfl ?_ | refine g_no0 rfl ?_ | refine g_bk ?_ | refine g_b ?_ | refine g_sk ?_ | refine g_cT rfl ?_ | refine g_cF rfl ?_ | refine g_x rfl ?_ | refine g_lb ?_))
  refine g_rq rfl rfl (by decide) ?_
  refine g_rq rfl rfl (by decide) ?_
  (repeat (first | refine g_sq ?_ | refine g_rg ?_ | refine g_r0 ?_ | refine g_ok rfl rfl ?_ | refine g_no rfl ?_ | refine g_no0 rfl ?_ | refine g_bk ?_ | refine g_b ?_ | refine g_sk ?_ | refine g_cT rfl ?_ | refine g_cF rfl ?_ | refine g_x rfl ?_ | refine g_lb ?_))
  refine g_rq rfl rfl (by decide) ?_
  (repeat (first | refine g_sq ?_ | refine g_rg ?_ | refine g_r0 ?_ | refine g_ok rfl rfl ?_ | refine g_no rfl ?_ | refine g_no0 rfl ?_ | refine g_bk ?_ | refine g_b ?_ | refine g_sk ?_ | refine g_cT rfl ?_ | refine g_cF rfl ?_ | refine g_x rfl ?_ | refine g_lb ?_))
  rw [q0, q1, q2, q3]
  refine g_ef rfl (ef_bl (rs := [.int .u8 ((UInt8.ofNat n).toNat : Int), .int .u8 ((UInt8.ofNat (n / 256)).toNat : Int), .int .u8 ((UInt8.ofNat (n / 65536)).toNat : Int), .int .u8 ((UInt8.ofNat (n / 16777216)).toNat : Int)]) hS rfl fun g w hS => ?_)
  have hlen : L.length < (L ++ [cel g [.int .u8 ((UInt8.ofNat n).toNat : Int), .int .u8 ((UInt8.ofNat (n / 256)).toNat : Int), .int .u8 ((UInt8.ofNat (n / 65536)).toNat : Int), .int .u8 ((UInt8.ofNat (n / 16777216)).toNat : Int)] 5]).length := by simp
  have hS := hS.close_row (n := 4) (cap := 4) (sz := 1) (xs := [.int .u8 ((UInt8.ofNat n).toNat : Int), .int .u8 ((UInt8.ofNat (n / 256)).toNat : Int), .int .u8 ((UInt8.ofNat (n / 65536)).toNat : Int), .int .u8 ((UInt8.ofNat (n / 16777216)).toNat : Int)]) L.length (by rw [List.getElem?_append_right (Nat.le_refl _), Nat.sub_self]; rfl) (Nat.le_refl _) rfl (List.prefix_refl _) rfl
  rw [List.set_append_right _ _ (Nat.le_refl _), Nat.sub_self, List.set_cons_zero] at hS
  have e : bys ((lowB n).take 4) = [.int .u8 ((UInt8.ofNat n).toNat : Int), .int .u8 ((UInt8.ofNat (n / 256)).toNat : Int), .int .u8 ((UInt8.ofNat (n / 65536)).toNat : Int), .int .u8 ((UInt8.ofNat (n / 16777216)).toNat : Int)] := by
    have : (lowB n).take 4 = [UInt8.ofNat (n / 256 ^ 0), UInt8.ofNat (n / 256 ^ 1), UInt8.ofNat (n / 256 ^ 2), UInt8.ofNat (n / 256 ^ 3)] := rfl
    rw [this, Nat.pow_zero, Nat.div_one]
    rfl
  rw [← e] at hS
  (repeat (first | refine g_sq ?_ | refine g_rg ?_ | refine g_r0 ?_ | refine g_ok rfl rfl ?_ | refine g_no rfl ?_ | refine g_no0 rfl ?_ | refine g_bk ?_ | refine g_b ?_ | refine g_sk ?_ | refine g_cT rfl ?_ | refine g_cF rfl ?_ | refine g_x rfl ?_ | refine g_lb ?_))
  exact g_ret (q_1 rfl (h _ _ hS))
theorem b133 {n m : Nat} {E : Nat} {bs : List UInt8} (hn : n ≤ maxN) (hr : Rd v E 1 m (bys bs) w) (hm : m < 4294967296) (h : ∀ v' w', St w (fun _ => False) w' [row v' 5 1 128 (bys (endedB n bs))] → K v' w') : CK Try.prog 133 [.int .i64 n, v] w K := by
  have hmx : maxN = 4611686018427387904 := rfl
  have hl := hr.len
  have hbl : bs.length = m := by simpa using hl
  have hro : ∀ {w' : World} {L' : List Res}, St w (fun _ => False) w' L' → Rd v E 1 m (bys bs) w' := fun hS => hS.ro (r := rdR v E 1 m (bys bs)) hr fun x hx => ⟨hr.lt x hx, fun h => h⟩
  have hr0 := hr
  obtain ⟨a, c, rfl⟩ := Rd.form hr0
  have hcr := (crc_eq bs).2
  refine call_k Try.func133 k133 Try.ntmps133 (Nat.le_of_ble_eq_true rfl) ?_
  (repeat (first | refine g_sq ?_ | refine g_rg ?_ | refine g_r0 ?_ | refine g_ok rfl rfl ?_ | refine g_no rfl ?_ | refine g_no0 rfl ?_ | refine g_bk ?_ | refine g_b ?_ | refine g_sk ?_ | refine g_cT rfl ?_ | refine g_cF rfl ?_ | refine g_x rfl ?_ | refine g_lb ?_))
  refine g_ef rfl (ef_bl (rs := [.int .u8 2]) (St.nil w (fun _ => False)) rfl fun g w1 hS => ?_)
  have hS := hS.close_row (n := 1) (cap := 1) (sz := 1) (xs := [.int .u8 2]) 0 rfl (Nat.le_refl _) rfl (List.prefix_refl _) rfl
  have hS : St w (fun _ => False) w1 [row (.slice (some ⟨g, 0, none⟩) 1 1) 5 1 1 (bys [2])] := hS
  (repeat (first | refine g_sq ?_ | refine g_rg ?_ | refine g_r0 ?_ | refine g_ok rfl rfl ?_ | refine g_no rfl ?_ | refine g_no0 rfl ?_ | refine g_bk ?_ | refine g_b ?_ | refine g_sk ?_ | refine g_cT rfl ?_ | refine g_cF rfl ?_ | refine g_x rfl ?_ | refine g_lb ?_))
  refine g_cl rfl rfl (c137 (n := n) (m := 8) (by omega) (by decide) hS fun v1 w1 hS => ?_)
  refine g_ef rfl (ef_ap (n := 1) (m := 8) (ys := bys ((lowB n).take 8)) hS 0 rfl rfl rfl (.inl ⟨5, Ow.rd (hS.ok 1 _ rfl)⟩) (bys_one _) (by decide) (by decide) fun vo w1 hS => ?_)
  have hS : St w (fun _ => False) w1 [row vo 5 1 9 (bys [2] ++ bys ((lowB n).take 8))] := hS.sel [0] rfl rfl
  rw [← bys_append] at hS
  (repeat (first | refine g_sq ?_ | refine g_rg ?_ | refine g_r0 ?_ | refine g_ok rfl rfl ?_ | refine g_no rfl ?_ | refine g_no0 rfl ?_ | refine g_bk ?_ | refine g_b ?_ | refine g_sk ?_ | refine g_cT rfl ?_ | refine g_cF rfl ?_ | refine g_x rfl ?_ | refine g_lb ?_))
  refine g_cl rfl rfl (c137 (n := m) (m := 4) (by omega) (by decide) hS fun v1 w1 hS => ?_)
  refine g_ef rfl (ef_ap (n := 9) (m := 4) (ys := bys ((lowB m).take 4)) hS 0 rfl rfl rfl (.inl ⟨5, Ow.rd (hS.ok 1 _ rfl)⟩) (bys_one _) (by decide) (by decide) fun vo w1 hS => ?_)
  have hS : St w (fun _ => False) w1 [row vo 5 1 13 (bys ([2] ++ (lowB n).take 8) ++ bys ((lowB m).take 4))] := hS.sel [0] rfl rfl
  rw [← bys_append] at hS
  (repeat (first | refine g_sq ?_ | refine g_rg ?_ | refine g_r0 ?_ | refine g_ok rfl rfl ?_ | refine g_no rfl ?_ | refine g_no0 rfl ?_ | refine g_bk ?_ | refine g_b ?_ | refine g_sk ?_ | refine g_cT rfl ?_ | refine g_cF rfl ?_ | refine g_x rfl ?_ | refine g_lb ?_))
  refine g_cl rfl rfl (c139 (hro hS) (by omega) ?_)
  refine g_cl rfl rfl (c138 (n := crcN bs) hcr hS fun v1 w1 hS => ?_)
  refine g_ef rfl (ef_ap (n := 13) (m := 4) (ys := bys ((lowB (crcN bs)).take 4)) hS 0 rfl rfl rfl (.inl ⟨5, Ow.rd (hS.ok 1 _ rfl)⟩) (bys_one _) (by decide) (by decide) fun vo w1 hS => ?_)
  have hS : St w (fun _ => False) w1 [row vo 5 1 17 (bys ([2] ++ (lowB n).take 8 ++ (lowB m).take 4) ++ bys ((lowB (crcN bs)).take 4))] := hS.sel [0] rfl rfl
  rw [← bys_append] at hS
  (repeat (first | refine g_sq ?_ | refine g_rg ?_ | refine g_r0 ?_ | refine g_ok rfl rfl ?_ | refine g_no rfl ?_ | refine g_no0 rfl ?_ | refine g_bk ?_ | refine g_b ?_ | refine g_sk ?_ | refine g_cT rfl ?_ | refine g_cF rfl ?_ | refine g_x rfl ?_ | refine g_lb ?_))
  refine g_ef rfl (ef_apz (n := 17) (m := 103) hS 0 rfl rfl (by rw [rep_byte]; simp [Value.oneCell']) (by decide) (by decide) (by decide) (by decide) fun vo w1 hS => ?_)
  have hz : rep 103 [(1, .int .u8 0)] = bys (List.replicate 103 0) := by rw [rep_byte, bys, List.map_replicate]; rfl
  rw [hz, ← bys_append] at hS
  (repeat (first | refine g_sq ?_ | refine g_rg ?_ | refine g_r0 ?_ | refine g_ok rfl rfl ?_ | refine g_no rfl ?_ | refine g_no0 rfl ?_ | refine g_bk ?_ | refine g_b ?_ | refine g_sk ?_ | refine g_cT rfl ?_ | refine g_cF rfl ?_ | refine g_x rfl ?_ | refine g_lb ?_))
  refine g_cl rfl rfl (c137 (n := n) (m := 8) (by omega) (by decide) hS fun v1 w1 hS => ?_)
  refine g_ef rfl (ef_ap (n := 120) (m := 8) (ys := bys ((lowB n).take 8)) hS 0 rfl rfl rfl (.inl ⟨5, Ow.rd (hS.ok 1 _ rfl)⟩) (bys_one _) (by decide) (by decide) fun vo w1 hS => ?_)
  have hS : St w (fun _ => False) w1 [row vo 5 1 128 (bys ([2] ++ (lowB n).take 8 ++ (lowB m).take 4 ++ (lowB (crcN bs)).take 4 ++ List.replicate 103 0) ++ bys ((lowB n).take 8))] := hS.sel [0] rfl rfl
  rw [← bys_append] at hS
  have e : [2] ++ (lowB n).take 8 ++ (lowB m).take 4 ++ (lowB (crcN bs)).take 4 ++ List.replicate 103 0 ++ (lowB n).take 8 = endedB n bs := by
    rw [List.take_of_length_le (by rw [lowB_len]; exact Nat.le_refl _)]
    simp only [endedB, hbl, List.append_assoc, List.append_nil]
  rw [e] at hS
  (repeat (first | refine g_sq ?_ | refine g_rg ?_ | refine g_r0 ?_ | refine g_ok rfl rfl ?_ | refine g_no rfl ?_ | refine g_no0 rfl ?_ | refine g_bk ?_ | refine g_b ?_ | refine g_sk ?_ | refine g_cT rfl ?_ | refine g_cF rfl ?_ | refine g_x rfl ?_ | refine g_lb ?_))
  exact g_ret (q_1 rfl (h _ _ hS))
theorem c133 {n m : Nat} {E : Nat} {bs : List UInt8} (hn : n ≤ maxN) (hr : Rd v E 1 m (bys bs) w) (hm : m < 4294967296) (hS : St w0 S0 w L) (h : ∀ v' w', St w0 S0 w' (L ++ [row v' 5 1 128 (bys (endedB n bs))]) → K v' w') : CK Try.prog 133 [.int .i64 n, v] w K :=
  b133 hn hr hm fun v' w' h' => h v' w' (hS.call0.2 w' _ h')
theorem c132 {E n : Nat} {xs : List UInt8} (hr : Rd v E 1 n (bys xs) w) (hn : n ≤ 8) (h : K (.int .i64 (hiN xs)) w) : CK Try.prog 132 [v] w K := by
  have hmx : maxN = 4611686018427387904 := rfl
  have hl := hr.len
  have hbl : xs.length = n := by simpa using hl
  have hr0 := hr
  obtain ⟨a, c, rfl⟩ := Rd.form hr0
  have hnd : ∀ j, j ≤ n → numB xs = numB (xs.take j) + 256 ^ j * numB (xs.drop j) := fun j hj => by
    conv => lhs; rw [← List.take_append_drop j xs]
    rw [numB_app, List.length_take, Nat.min_eq_left (by omega)]
  refine call_k Try.func132 k132 Try.ntmps132 (Nat.le_of_ble_eq_true rfl) ?_
  (repeat (first | refine g_sq ?_ | refine g_rg ?_ | refine g_r0 ?_ | refine g_ok rfl rfl ?_ | refine g_no rfl ?_ | refine g_no0 rfl ?_ | refine g_bk ?_ | refine g_b ?_ | refine g_sk ?_ | refine g_cT rfl ?_ | refine g_cF rfl ?_ | refine g_x rfl ?_ | refine g_lb ?_))
  refine g_rq rfl rfl (in64 (by simp only [arv]; omega)) ?_
  (repeat (first | refine g_sq ?_ | refine g_rg ?_ | refine g_r0 ?_ | refine g_ok rfl rfl ?_ | refine g_no rfl ?_ | refine g_no0 rfl ?_ | refine g_bk ?_ | refine g_b ?_ | refine g_sk ?_ | refine g_cT rfl ?_ | refine g_cF rfl ?_ | refine g_x rfl ?_ | refine g_lb ?_))
  refine g_lp (ι := Nat) (fun j => [(0, .slice a n c), (3, .int .i64 (numB (xs.drop j) : Nat)), (4, .int .i64 ((j : Int) - 1))]) (fun j w' => j ≤ n ∧ numB (xs.drop j) ≤ 4611686018427388159 ∧ w = w') (fun j => j) n ⟨rfl, by rw [List.drop_of_length_le (by omega)]; rfl, rfl, trivial⟩ ⟨Nat.le_refl _, by rw [List.drop_of_length_le (by omega)]; decide, rfl⟩ ?_
  rintro j _ ⟨hj, hjn, rfl⟩
  have hnj := hnd j hj
  (repeat (first | refine g_sq ?_ | refine g_rg ?_ | refine g_r0 ?_ | refine g_ok rfl rfl ?_ | refine g_no rfl ?_ | refine g_no0 rfl ?_ | refine g_bk ?_ | refine g_b ?_ | refine g_sk ?_ | refine g_cT rfl ?_ | refine g_cF rfl ?_ | refine g_x rfl ?_ | refine g_lb ?_))
  refine g_cd rfl (fun hc => ?_) (fun hc => ?_)
  all_goals simp only [cmv, decide_eq_true_eq, decide_eq_false_iff_not] at hc
  · obtain ⟨i, rfl⟩ : ∃ i, j = i + 1 := ⟨j - 1, by omega⟩
    have hxi : xs[i]? = some (xs[i]'(by omega)) := List.getElem?_eq_getElem _
    have hdi : xs.drop i = xs[i]'(by omega) :: xs.drop (i + 1) := List.drop_eq_getElem_cons _
    have hz := (xs[i]'(by omega)).toNat_lt
    have hnx : numB (xs.drop i) = (xs[i]'(by omega)).toNat + 256 * numB (xs.drop (i + 1)) := by rw [hdi, numB]
    obtain ⟨b1, o1, c1, l1, e1, _, hB1, hx1⟩ := hr.cellr (k := i) (by omega)
    cases e1
    have hx2 : (bys xs)[i]? = some (.int .u8 ((xs[i]'(by omega)).toNat : Int)) := by simp [bys, hxi]
    rw [hx2] at hx1
    generalize (xs[i]'(by omega)).toNat = z at hz hnx hx1
    generalize hy : numB (xs.drop (i + 1)) = y at hjn hnj hnx ⊢
    (repeat (first | refine g_sq ?_ | refine g_rg ?_ | refine g_r0 ?_ | refine g_ok rfl rfl ?_ | refine g_no rfl ?_ | refine g_no0 rfl ?_ | refine g_bk ?_ | refine g_b ?_ | refine g_sk ?_ | refine g_cT rfl ?_ | refine g_cF rfl ?_ | refine g_x rfl ?_ | refine g_lb ?_))
    refine g_cd rfl (fun hc2 => ?_) (fun hc2 => ?_)
    all_goals simp only [cmv, decide_eq_true_eq, decide_eq_false_iff_not] at hc2
    · have hbig : maxN < numB xs := by
        have h256 : 256 ≤ 256 ^ (i + 1) := by
          rw [Nat.pow_succ]
          have : 0 < 256 ^ i := Nat.pow_pos (by decide)
          omega
        have : 256 * y ≤ 256 ^ (i + 1) * y := Nat.mul_le_mul_right _ h256
        omega
      unfold hiN at h
      rw [if_pos hbig] at h
      (repeat (first | refine g_sq ?_ | refine g_rg ?_ | refine g_r0 ?_ | refine g_ok rfl rfl ?_ | refine g_no rfl ?_ | refine g_no0 rfl ?_ | refine g_bk ?_ | refine g_b ?_ | refine g_sk ?_ | refine g_cT rfl ?_ | refine g_cF rfl ?_ | refine g_x rfl ?_ | refine g_lb ?_))
      exact g_ret (q_1 rfl h)
    · (repeat (first | refine g_sq ?_ | refine g_rg ?_ | refine g_r0 ?_ | refine g_ok rfl rfl ?_ | refine g_no rfl ?_ | refine g_no0 rfl ?_ | refine g_bk ?_ | refine g_b ?_ | refine g_sk ?_ | refine g_cT rfl ?_ | refine g_cF rfl ?_ | refine g_x rfl ?_ | refine g_lb ?_))
      refine g_rq rfl rfl (in64 (by simp only [arv]; omega)) ?_
      (repeat (first | refine g_sq ?_ | refine g_rg ?_ | refine g_r0 ?_ | refine g_ok rfl rfl ?_ | refine g_no rfl ?_ | refine g_no0 rfl ?_ | refine g_bk ?_ | refine g_b ?_ | refine g_sk ?_ | refine g_cT rfl ?_ | refine g_cF rfl ?_ | refine g_x rfl ?_ | refine g_lb ?_))
      have ei : ((i + 1 : Nat) : Int) - 1 = (i : Int) := by omega
      rw [ei]
      refine g_rq rfl rfl ⟨by omega, by omega⟩ ?_
      refine g_l1r rfl rfl hB1 hx1 ?_
      (repeat (first | refine g_sq ?_ | refine g_rg ?_ | refine g_r0 ?_ | refine g_ok rfl rfl ?_ | refine g_no rfl ?_ | refine g_no0 rfl ?_ | refine g_bk ?_ | refine g_b ?_ | refine g_sk ?_ | refine g_cT rfl ?_ | refine g_cF rfl ?_ | refine g_x rfl ?_ | refine g_lb ?_))
      rw [wrap_in (k := .i64) (in64 (by omega))]
      refine g_rq rfl rfl (in64 (by simp only [arv]; omega)) ?_
      (repeat (first | refine g_sq ?_ | refine g_rg ?_ | refine g_r0 ?_ | refine g_ok rfl rfl ?_ | refine g_no rfl ?_ | refine g_no0 rfl ?_ | refine g_bk ?_ | refine g_b ?_ | refine g_sk ?_ | refine g_cT rfl ?_ | refine g_cF rfl ?_ | refine g_x rfl ?_ | refine g_lb ?_))
      refine g_rq rfl rfl (in64 (by simp only [arv]; omega)) ?_
      (repeat (first | refine g_sq ?_ | refine g_rg ?_ | refine g_r0 ?_ | refine g_ok rfl rfl ?_ | refine g_no rfl ?_ | refine g_no0 rfl ?_ | refine g_bk ?_ | refine g_b ?_ | refine g_sk ?_ | refine g_cT rfl ?_ | refine g_cF rfl ?_ | refine g_x rfl ?_ | refine g_lb ?_))
      refine g_l i ⟨rfl, ?_, ?_, trivial⟩ ⟨by omega, by omega, rfl⟩ (by omega)
      · show some (Value.int .i64 (arv BinOp.add (arv BinOp.mul 256 (y : Int)) (z : Int))) = some (Value.int .i64 ((numB (xs.drop i) : Nat) : Int))
        rw [hnx]
        congr 2
        simp only [arv]
        omega
      · rfl
  · have e : j = 0 := by omega
    subst e
    rw [List.drop_zero] at hjn ⊢
    unfold hiN at h
    (repeat (first | refine g_sq ?_ | refine g_rg ?_ | refine g_r0 ?_ | refine g_ok rfl rfl ?_ | refine g_no rfl ?_ | refine g_no0 rfl ?_ | refine g_bk ?_ | refine g_b ?_ | refine g_sk ?_ | refine g_cT rfl ?_ | refine g_cF rfl ?_ | refine g_x rfl ?_ | refine g_lb ?_))
    refine g_cd rfl (fun hc2 => ?_) (fun hc2 => ?_)
    all_goals simp only [cmv, decide_eq_true_eq, decide_eq_false_iff_not] at hc2
    · rw [if_pos (by omega)] at h
      (repeat (first | refine g_sq ?_ | refine g_rg ?_ | refine g_r0 ?_ | refine g_ok rfl rfl ?_ | refine g_no rfl ?_ | refine g_no0 rfl ?_ | refine g_bk ?_ | refine g_b ?_ | refine g_sk ?_ | refine g_cT rfl ?_ | refine g_cF rfl ?_ | refine g_x rfl ?_ | refine g_lb ?_))
      exact g_ret (q_1 rfl h)
    · rw [if_neg (by omega)] at h
      (repeat (first | refine g_sq ?_ | refine g_rg ?_ | refine g_r0 ?_ | refine g_ok rfl rfl ?_ | refine g_no rfl ?_ | refine g_no0 rfl ?_ | refine g_bk ?_ | refine g_b ?_ | refine g_sk ?_ | refine g_cT rfl ?_ | refine g_cF rfl ?_ | refine g_x rfl ?_ | refine g_lb ?_))
      exact g_ret (q_1 rfl h)
theorem c118 {E : Nat} {bs : List UInt8} (hl : bs.length = 128) (hr : Rd v E 1 128 (bys bs) w) (hS : St w0 S0 w L) (h : ∀ w', St w0 S0 w' L → K (.int .i64 (numd bs)) w') : CK Try.prog 118 [v] w K := by
  have hmx : maxN = 4611686018427387904 := rfl
  have hr : Rd v E 1 128 (bys bs) w.drew := hr.same fun _ _ => rfl
  have h := h w.drew hS.drew
  obtain ⟨b, off, cap, l, rfl, hcap, hll, hx, hB⟩ := Rd.block hr (by decide)
  obtain ⟨c, r, hbs⟩ : ∃ c r, bs = c :: r := by
    cases bs with
    | nil => cases hl
    | cons c r => exact ⟨c, r, rfl⟩
  have h0 : l[off]? = some (.int .u8 (c.toNat : Int)) := by
    have : (List.take (128 * 1) (List.drop off l))[0]? = (bys bs)[0]? := by rw [hx]
    rw [List.getElem?_take_of_lt (by decide), List.getElem?_drop, hbs] at this
    simpa [bys] using this
  have hh : bs.head? = some c := by rw [hbs]; rfl
  have r1 := Rd.mid (x := .const (.int .i64 1)) (i := 1) (j := 9) hr (by decide) (by decide)
  have r2 := Rd.mid (x := .const (.int .i64 120)) (i := 120) (j := 128) hr (by decide) (by decide)
  rw [bys_drop, bys_take] at r1 r2
  have ht : (bs.drop 120).take 8 = bs.drop 120 := List.take_of_length_le (by rw [List.length_drop]; omega)
  have l1 : ((bs.drop 1).take 8).length = 8 := by rw [List.length_take, List.length_drop]; omega
  have l2 : (bs.drop 120).length = 8 := by rw [List.length_drop]; omega
  rw [show 128 - 120 = 8 from rfl, ht] at r2
  unfold numd at h
  rw [hh] at h
  refine call_k Try.func118 k118 Try.ntmps118 (Nat.le_of_ble_eq_true rfl) ?_
  (repeat (first | refine g_sq ?_ | refine g_rg ?_ | refine g_r0 ?_ | refine g_ok rfl rfl ?_ | refine g_no rfl ?_ | refine g_no0 rfl ?_ | refine g_bk ?_ | refine g_b ?_ | refine g_sk ?_ | refine g_cT rfl ?_ | refine g_cF rfl ?_ | refine g_x rfl ?_ | refine g_lb ?_))
  refine g_dr mixed ?_
  (repeat (first | refine d_ok rfl rfl rfl ?_ | refine d_no rfl rfl ?_))
  refine d_rq rfl rfl rfl ⟨by decide, by decide⟩ ?_
  refine d_l1r rfl rfl rfl hB h0 ?_
  (repeat (first | refine d_ok rfl rfl rfl ?_ | refine d_no rfl rfl ?_))
  generalize hq : cmv BinOp.neq (c.toNat : Int) 2 = q
  cases q
  all_goals simp only [cmv, Bool.not_eq_true', Bool.not_eq_false', decide_eq_true_eq, decide_eq_false_iff_not] at hq
  · have hc2 : c = 2 := by
      have : c.toNat = 2 := by omega
      exact UInt8.toNat.inj this
    rw [if_neg (by simp [hc2])] at h
    (repeat (first | refine d_ok rfl rfl rfl ?_ | refine d_no rfl rfl ?_))
    refine d_rq rfl rfl rfl ⟨by decide, by decide, by omega, by omega⟩ ?_
    refine d_qt rfl rfl rfl (qt_bsR rfl r1) ?_
    (repeat (first | refine d_ok rfl rfl rfl ?_ | refine d_no rfl rfl ?_))
    refine d_rq rfl rfl rfl ⟨by decide, by decide, by omega, by omega⟩ ?_
    refine d_qt rfl rfl rfl (qt_bsR rfl r2) ?_
    (repeat (first | refine d_ok rfl rfl rfl ?_ | refine d_no rfl rfl ?_))
    refine d_fin ?_
    refine g_cd rfl (fun hy => ?_) (fun hy => ?_)
    · have hy : (bs.drop 1).take 8 ≠ bs.drop 120 := by simpa using hy
      rw [if_pos (.inl fun e => hy (numB_inj _ _ (by rw [l1, l2]) e))] at h
      (repeat (first | refine g_sq ?_ | refine g_rg ?_ | refine g_r0 ?_ | refine g_ok rfl rfl ?_ | refine g_no rfl ?_ | refine g_no0 rfl ?_ | refine g_bk ?_ | refine g_b ?_ | refine g_sk ?_ | refine g_cT rfl ?_ | refine g_cF rfl ?_ | refine g_x rfl ?_ | refine g_lb ?_))
      exact g_ret (q_1 rfl h)
    · have hy : (bs.drop 1).take 8 = bs.drop 120 := by simpa using hy
      (repeat (first | refine g_sq ?_ | refine g_rg ?_ | refine g_r0 ?_ | refine g_ok rfl rfl ?_ | refine g_no rfl ?_ | refine g_no0 rfl ?_ | refine g_bk ?_ | refine g_b ?_ | refine g_sk ?_ | refine g_cT rfl ?_ | refine g_cF rfl ?_ | refine g_x rfl ?_ | refine g_lb ?_))
      refine g_rq rfl rfl ⟨by decide, by decide, by omega, by omega⟩ ?_
      refine g_cl rfl rfl (c132 r1 (by decide) ?_)
      rw [← hy] at h
      unfold hiN
      generalize numB ((bs.drop 1).take 8) = n at h ⊢
      (repeat (first | refine g_sq ?_ | refine g_rg ?_ | refine g_r0 ?_ | refine g_ok rfl rfl ?_ | refine g_no rfl ?_ | refine g_no0 rfl ?_ | refine g_bk ?_ | refine g_b ?_ | refine g_sk ?_ | refine g_cT rfl ?_ | refine g_cF rfl ?_ | refine g_x rfl ?_ | refine g_lb ?_))
      have e : max (0 : Int) (if maxN < n then -1 else (n : Int)) = ((if n ≠ n ∨ n < 1 ∨ maxN < n then 0 else n : Nat) : Int) := by
        by_cases h1 : maxN < n
        · rw [if_pos h1, if_pos (.inr (.inr h1))]; rfl
        · rw [if_neg h1]
          by_cases h2 : n < 1
          · rw [if_pos (.inr (.inl h2))]; omega
          · rw [if_neg (by omega)]; omega
      rw [← e] at h
      exact g_ret (q_1 rfl h)
  · rw [if_pos (fun e => hq (by cases e; rfl))] at h
    (repeat (first | refine d_ok rfl rfl rfl ?_ | refine d_no rfl rfl ?_))
    refine d_fin ?_
    (repeat (first | refine g_sq ?_ | refine g_rg ?_ | refine g_r0 ?_ | refine g_ok rfl rfl ?_ | refine g_no rfl ?_ | refine g_no0 rfl ?_ | refine g_bk ?_ | refine g_b ?_ | refine g_sk ?_ | refine g_cT rfl ?_ | refine g_cF rfl ?_ | refine g_x rfl ?_ | refine g_lb ?_))
    exact g_ret (q_1 rfl h)
end
end Go.Proofs.Ytegjocpjmfaigaa
