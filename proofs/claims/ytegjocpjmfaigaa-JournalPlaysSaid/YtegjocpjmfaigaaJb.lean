/- The journal: numbers, sums, commit blocks. -/
import Derived.Test.YtegjocpjmfaigaaMd
import Derived.Test.YtegjocpjmfaigaaJa
import Derived.Test.YtegjocpjmfaigaaSg
set_option linter.unusedSimpArgs false
set_option linter.unusedVariables false
namespace Go.Proofs.Ytegjocpjmfaigaa
open Go.En

/-- how many blocks a group needs -/
def blk (n : Nat) : Nat := (n + 118) / 119 + 1
def lowB (n : Nat) : List UInt8 := (List.range 8).map fun i => UInt8.ofNat (n / 256 ^ i)
def numB : List UInt8 → Nat
  | [] => 0
  | c :: l => c.toNat + 256 * numB l
def row8 : Nat → Int → Int
  | 0, n => n
  | k + 1, n => row8 k (st143 n)
def un32 (n : Int) : Int := btv .xor .u32 (if IntKind.u32.signed then -1 else IntKind.u32.max) n
def crcB (s : Int) (c : UInt8) : Int := btv .xor .u32 (shv .shr .u32 s 8) (row8 8 (IntKind.u32.wrap (btv .xor .u8 (IntKind.u8.wrap s) (c.toNat : Int))))
def crcOn (s : Int) (bs : List UInt8) : Int := un32 (bs.foldl crcB (un32 s))
def crc (bs : List UInt8) : Int := crcOn 0 bs

theorem row8_step : ∀ (k : Nat) (n : Int), row8 (k + 1) n = st143 (row8 k n)
  | 0, _ => rfl
  | k + 1, n => by
    have := row8_step k (st143 n)
    exact this
theorem lowB_len (n : Nat) : (lowB n).length = 8 := by simp [lowB]
theorem numB_app : ∀ (a b : List UInt8), numB (a ++ b) = numB a + 256 ^ a.length * numB b
  | [], b => by simp [numB]
  | c :: a, b => by
    rw [List.cons_append, numB, numB_app a b, numB, List.length_cons, Nat.pow_succ]
    rw [Nat.mul_add, Nat.mul_comm (256 ^ a.length) 256, Nat.mul_assoc]
    omega
theorem numB_lt : ∀ (a : List UInt8), numB a < 256 ^ a.length
  | [] => by simp [numB]
  | c :: a => by
    have := numB_lt a
    have hc := c.toNat_lt
    rw [numB, List.length_cons, Nat.pow_succ]
    omega
theorem num_step {a c i : Nat} (hi : i < 8) (ha : a < 256 ^ i) (hc : c < 256) : btv .or .u64 (a : Int) (shv .shl .u64 (c : Int) (8 * (i : Int))) = ((a + 256 ^ i * c : Nat) : Int) := by
  have hp : (256 : Nat) ^ i = 2 ^ (8 * i) := by rw [show (256 : Nat) = 2 ^ 8 from rfl, ← Nat.pow_mul]
  rw [hp] at ha ⊢
  have hle : 2 ^ (8 * i) * 256 ≤ 2 ^ 64 := by
    rw [show (256 : Nat) = 2 ^ 8 from rfl, ← Nat.pow_add]
    exact Nat.pow_le_pow_right (by decide) (by omega)
  have hb : 2 ^ (8 * i) * c < 2 ^ 64 := Nat.lt_of_lt_of_le (Nat.mul_lt_mul_of_pos_left hc (Nat.two_pow_pos _)) hle
  have hab : 2 ^ (8 * i) * c + a < 2 ^ 64 := by
    have : 2 ^ (8 * i) * c + 2 ^ (8 * i) ≤ 2 ^ (8 * i) * 256 := by
      rw [← Nat.mul_succ]
      exact Nat.mul_le_mul_left _ hc
    omega
  have hs : shv .shl .u64 (c : Int) (8 * (i : Int)) = ((2 ^ (8 * i) * c : Nat) : Int) := by
    show IntKind.u64.wrap ((c : Int) * 2 ^ (min (8 * (i : Int)).toNat IntKind.u64.bits)) = _
    have e : min (8 * (i : Int)).toNat IntKind.u64.bits = 8 * i := by
      have : IntKind.u64.bits = 64 := rfl
      rw [this]; omega
    rw [e]
    have e2 : (c : Int) * 2 ^ (8 * i) = ((2 ^ (8 * i) * c : Nat) : Int) := by push_cast; exact Int.mul_comm _ _
    rw [e2]
    exact wrap_in (k := .u64) ⟨by show (0 : Int) ≤ _; exact Int.natCast_nonneg _, by show _ ≤ (18446744073709551615 : Int); omega⟩
  rw [hs]
  show IntKind.u64.wrap (((BitVec.ofInt 64 (a : Int) ||| BitVec.ofInt 64 ((2 ^ (8 * i) * c : Nat) : Int)).toNat : Nat) : Int) = _
  rw [BitVec.ofInt_natCast, BitVec.ofInt_natCast, BitVec.toNat_or, BitVec.toNat_ofNat, BitVec.toNat_ofNat, Nat.mod_eq_of_lt (by omega), Nat.mod_eq_of_lt hb, Nat.or_comm, ← Nat.two_pow_add_eq_or_of_lt ha, Nat.add_comm]
  exact wrap_in (k := .u64) ⟨by show (0 : Int) ≤ _; exact Int.natCast_nonneg _, by show _ ≤ (18446744073709551615 : Int); omega⟩
theorem low_step {n i : Nat} (hi : i < 8) : IntKind.u8.wrap (shv .shr .u64 (n : Int) (8 * (i : Int))) = ((UInt8.ofNat (n / 256 ^ i)).toNat : Int) := by
  have hs : shv .shr .u64 (n : Int) (8 * (i : Int)) = ((n / 256 ^ i : Nat) : Int) := by
    show (n : Int).fdiv (2 ^ (min (8 * (i : Int)).toNat IntKind.u64.bits)) = _
    have e : min (8 * (i : Int)).toNat IntKind.u64.bits = 8 * i := by
      have : IntKind.u64.bits = 64 := rfl
      rw [this]; omega
    rw [e, Int.fdiv_eq_ediv_of_nonneg _ (Int.le_of_lt (Int.pow_pos (by decide)))]
    have hp : (256 : Nat) ^ i = 2 ^ (8 * i) := by rw [show (256 : Nat) = 2 ^ 8 from rfl, ← Nat.pow_mul]
    rw [hp]
    push_cast
    rfl
  rw [hs, IntKind.wrap_u8, UInt8.toNat_ofNat']
  generalize n / 256 ^ i = x
  show (x : Int) % 256 = ((x % 256 : Nat) : Int)
  omega
section
variable {w w0 : World} {S0 S : Nat → Prop} {K : Value → World → Prop} {L : List Res}
theorem c40 {n : Nat} (hn : n ≤ 1000000000000) (h : K (.int .i64 (blk n)) w) : CK Try.prog 40 [.int .i64 n] w K := by
  refine call_k Try.func40 k40 Try.ntmps40 (Nat.le_of_ble_eq_true rfl) ?_
  (repeat (first | refine g_sq ?_ | refine g_rg ?_ | refine g_r0 ?_ | refine g_ok rfl rfl ?_ | refine g_no rfl ?_ | refine g_no0 rfl ?_ | refine g_bk ?_ | refine g_b ?_ | refine g_sk ?_ | refine g_cT rfl ?_ | refine g_cF rfl ?_ | refine g_x rfl ?_ | refine g_lb ?_))
  refine g_rq rfl rfl (in64 (by simp only [arv]; omega)) ?_
  refine g_rq rfl rfl (in64 (by simp only [arv]; omega)) ?_
  refine g_rq rfl rfl (by decide) ?_
  have e : IntKind.i64.wrap (Int.tdiv (arv BinOp.sub (arv BinOp.add (n : Int) 119) 1) 119) = (((n + 118) / 119 : Nat) : Int) := by
    have e1 : arv BinOp.sub (arv BinOp.add (n : Int) 119) 1 = ((n + 118 : Nat) : Int) := by simp only [arv]; omega
    rw [e1, show Int.tdiv ((n + 118 : Nat) : Int) 119 = (((n + 118) / 119 : Nat) : Int) from rfl]
    exact wrap_in (k := .i64) (in64 (by omega))
  rw [e]
  refine g_rq rfl rfl (in64 (by simp only [arv]; omega)) ?_
  (repeat (first | refine g_sq ?_ | refine g_rg ?_ | refine g_r0 ?_ | refine g_ok rfl rfl ?_ | refine g_no rfl ?_ | refine g_no0 rfl ?_ | refine g_bk ?_ | refine g_b ?_ | refine g_sk ?_ | refine g_cT rfl ?_ | refine g_cF rfl ?_ | refine g_x rfl ?_ | refine g_lb ?_))
  have e2 : arv BinOp.add (((n + 118) / 119 : Nat) : Int) 1 = ((blk n : Nat) : Int) := by simp only [arv, blk]; omega
  rw [e2]
  exact g_ret (q_1 rfl h)
theorem b92 {v : Value} {E n : Nat} {xs : List Value} (hr : Rd v E 1 n xs w) (h1 : xs.all (·.oneCell') = true) (hn : n ≤ 140737488355328) (h : ∀ v' w', St w (fun _ => False) w' [row v' 5 1 n xs] → K v' w') : CK Try.prog 92 [v] w K := by
  have hl := hr.len
  obtain ⟨a, c, rfl⟩ := Rd.form hr
  refine call_k Try.func92 k92 Try.ntmps92 (Nat.le_of_ble_eq_true rfl) ?_
  (repeat (first | refine g_sq ?_ | refine g_rg ?_ | refine g_r0 ?_ | refine g_ok rfl rfl ?_ | refine g_no rfl ?_ | refine g_no0 rfl ?_ | refine g_bk ?_ | refine g_b ?_ | refine g_sk ?_ | refine g_cT rfl ?_ | refine g_cF rfl ?_ | refine g_x rfl ?_ | refine g_lb ?_))
  refine g_cd rfl (fun hc => ?_) (fun hc => ?_)
  · (repeat (first | refine g_sq ?_ | refine g_rg ?_ | refine g_r0 ?_ | refine g_ok rfl rfl ?_ | refine g_no rfl ?_ | refine g_no0 rfl ?_ | refine g_bk ?_ | refine g_b ?_ | refine g_sk ?_ | refine g_cT rfl ?_ | refine g_cF rfl ?_ | refine g_x rfl ?_ | refine g_lb ?_))
    have ha : a = none := by cases a with
      | none => rfl
      | some x => cases hc
    subst ha
    rcases hr with ⟨_, rfl, rfl⟩ | ⟨_, _, _, _, hv, _⟩
    · cases hl
      exact g_ret (q_1 rfl (h _ _ ((St.nil w _).nilrow 5 1)))
    · cases hv
  · (repeat (first | refine g_sq ?_ | refine g_rg ?_ | refine g_r0 ?_ | refine g_ok rfl rfl ?_ | refine g_no rfl ?_ | refine g_no0 rfl ?_ | refine g_bk ?_ | refine g_b ?_ | refine g_sk ?_ | refine g_cT rfl ?_ | refine g_cF rfl ?_ | refine g_x rfl ?_ | refine g_lb ?_))
    refine g_ef rfl (ef_bl (rs := []) (St.nil w (fun _ => False)) rfl fun g w1 hS => ?_)
    have hr1 : Rd (.slice a n c) E 1 n xs w1 := hS.ro (r := rdR (.slice a n c) E 1 n xs) hr fun x hx => ⟨hr.lt x hx, fun h => h⟩
    have hS := hS.close_row (sz := 1) (n := 0) (cap := 0) (xs := []) 0 rfl (Nat.le_refl _) rfl (List.prefix_refl _) rfl
    (repeat (first | refine g_sq ?_ | refine g_rg ?_ | refine g_r0 ?_ | refine g_ok rfl rfl ?_ | refine g_no rfl ?_ | refine g_no0 rfl ?_ | refine g_bk ?_ | refine g_b ?_ | refine g_sk ?_ | refine g_cT rfl ?_ | refine g_cF rfl ?_ | refine g_x rfl ?_ | refine g_lb ?_))
    refine g_ef rfl (ef_ap (n := 0) (m := n) (xs := []) hS 0 rfl rfl rfl (.inl ⟨E, hr1⟩) h1 (by omega) (by omega) fun v1 w hS => ?_)
    rw [Nat.zero_add, List.nil_append] at hS
    (repeat (first | refine g_sq ?_ | refine g_rg ?_ | refine g_r0 ?_ | refine g_ok rfl rfl ?_ | refine g_no rfl ?_ | refine g_no0 rfl ?_ | refine g_bk ?_ | refine g_b ?_ | refine g_sk ?_ | refine g_cT rfl ?_ | refine g_cF rfl ?_ | refine g_x rfl ?_ | refine g_lb ?_))
    exact g_ret (q_1 rfl (h _ _ hS))
theorem c92 {v : Value} {E n : Nat} {xs : List Value} (hS : St w0 S0 w L) (hr : Rd v E 1 n xs w) (h1 : xs.all (·.oneCell') = true) (hn : n ≤ 140737488355328) (h : ∀ v' w', St w0 S0 w' (L ++ [row v' 5 1 n xs]) → K v' w') : CK Try.prog 92 [v] w K :=
  b92 hr h1 hn fun v' w' h' => h v' w' (hS.call0.2 w' _ h')
/-- the sum's inner function, as a value -/
theorem ef_143 {T : TT} {r : Option Nat} {x : Operand} {args : List Operand} {n : Int} (hv : ev T x = some (.func (.func 143) ⟨[]⟩ ⟨[]⟩)) (hx : evs T args = some [.int .u32 n]) (h : K (.int .u32 (st143 n)) w) : Ef Try.prog r (.cv x args) T w K :=
  ef_cv hv hx (callFunc_of Try.func143 rfl rfl) (c143 h)
theorem c140 {n : Int} (h : K (.int .u32 (row8 8 n)) w) : CK Try.prog 140 [.int .u32 n] w K := by
  refine call_k Try.func140 k140 Try.ntmps140 (Nat.le_of_ble_eq_true rfl) ?_
  (repeat (first | refine g_sq ?_ | refine g_rg ?_ | refine g_r0 ?_ | refine g_ok rfl rfl ?_ | refine g_no rfl ?_ | refine g_no0 rfl ?_ | refine g_bk ?_ | refine g_b ?_ | refine g_sk ?_ | refine g_cT rfl ?_ | refine g_cF rfl ?_ | refine g_x rfl ?_ | refine g_lb ?_))
  refine g_lp (ι := Nat) (fun k => [(0, .int .u32 (row8 k n)), (3, .func (.func 143) ⟨[]⟩ ⟨[]⟩), (4, .int .i64 k)]) (fun k w' => k ≤ 8 ∧ w = w') (fun k => 8 - k) 0 ⟨rfl, rfl, rfl, trivial⟩ ⟨Nat.zero_le _, rfl⟩ ?_
  rintro k _ ⟨hk, rfl⟩
  (repeat (first | refine g_sq ?_ | refine g_rg ?_ | refine g_r0 ?_ | refine g_ok rfl rfl ?_ | refine g_no rfl ?_ | refine g_no0 rfl ?_ | refine g_bk ?_ | refine g_b ?_ | refine g_sk ?_ | refine g_cT rfl ?_ | refine g_cF rfl ?_ | refine g_x rfl ?_ | refine g_lb ?_))
  refine g_cd rfl (fun hc => ?_) (fun hc => ?_)
  all_goals simp only [cmv, decide_eq_true_eq, decide_eq_false_iff_not] at hc
  · (repeat (first | refine g_sq ?_ | refine g_rg ?_ | refine g_r0 ?_ | refine g_ok rfl rfl ?_ | refine g_no rfl ?_ | refine g_no0 rfl ?_ | refine g_bk ?_ | refine g_b ?_ | refine g_sk ?_ | refine g_cT rfl ?_ | refine g_cF rfl ?_ | refine g_x rfl ?_ | refine g_lb ?_))
    refine g_ef rfl (ef_143 rfl rfl ?_)
    rw [← row8_step]
    (repeat (first | refine g_sq ?_ | refine g_rg ?_ | refine g_r0 ?_ | refine g_ok rfl rfl ?_ | refine g_no rfl ?_ | refine g_no0 rfl ?_ | refine g_bk ?_ | refine g_b ?_ | refine g_sk ?_ | refine g_cT rfl ?_ | refine g_cF rfl ?_ | refine g_x rfl ?_ | refine g_lb ?_))
    refine g_rq rfl rfl (in64 (by simp only [arv]; omega)) ?_
    (repeat (first | refine g_sq ?_ | refine g_rg ?_ | refine g_r0 ?_ | refine g_ok rfl rfl ?_ | refine g_no rfl ?_ | refine g_no0 rfl ?_ | refine g_bk ?_ | refine g_b ?_ | refine g_sk ?_ | refine g_cT rfl ?_ | refine g_cF rfl ?_ | refine g_x rfl ?_ | refine g_lb ?_))
    exact g_l (k + 1) ⟨rfl, rfl, rfl, trivial⟩ ⟨by omega, rfl⟩ (by omega)
  · have e : k = 8 := by omega
    subst e
    (repeat (first | refine g_sq ?_ | refine g_rg ?_ | refine g_r0 ?_ | refine g_ok rfl rfl ?_ | refine g_no rfl ?_ | refine g_no0 rfl ?_ | refine g_bk ?_ | refine g_b ?_ | refine g_sk ?_ | refine g_cT rfl ?_ | refine g_cF rfl ?_ | refine g_x rfl ?_ | refine g_lb ?_))
    exact g_ret (q_1 rfl h)
theorem c136 {s : Int} {v : Value} {E n : Nat} {bs : List UInt8} (hr : Rd v E 1 n (bys bs) w) (hn : n ≤ 1000000000000) (h : K (.int .u32 (crcOn s bs)) w) : CK Try.prog 136 [.int .u32 s, v] w K := by
  have hl := hr.len
  have hbl : bs.length = n := by simpa using hl
  obtain ⟨a, c, rfl⟩ := Rd.form hr
  refine call_k Try.func136 k136 Try.ntmps136 (Nat.le_of_ble_eq_true rfl) ?_
  (repeat (first | refine g_sq ?_ | refine g_rg ?_ | refine g_r0 ?_ | refine g_ok rfl rfl ?_ | refine g_no rfl ?_ | refine g_no0 rfl ?_ | refine g_bk ?_ | refine g_b ?_ | refine g_sk ?_ | refine g_cT rfl ?_ | refine g_cF rfl ?_ | refine g_x rfl ?_ | refine g_lb ?_))
  refine g_lp (ι := Nat) (fun k => [(5, .int .u32 ((bs.take k).foldl crcB (un32 s))), (10, .slice a n c), (11, .int .i64 n), (12, .int .i64 k)]) (fun k w' => k ≤ n ∧ w = w') (fun k => n - k) 0 ⟨rfl, rfl, rfl, rfl, trivial⟩ ⟨Nat.zero_le _, rfl⟩ ?_
  rintro k _ ⟨hk, rfl⟩
  (repeat (first | refine g_sq ?_ | refine g_rg ?_ | refine g_r0 ?_ | refine g_ok rfl rfl ?_ | refine g_no rfl ?_ | refine g_no0 rfl ?_ | refine g_bk ?_ | refine g_b ?_ | refine g_sk ?_ | refine g_cT rfl ?_ | refine g_cF rfl ?_ | refine g_x rfl ?_ | refine g_lb ?_))
  refine g_cd rfl (fun hc => ?_) (fun hc => ?_)
  all_goals simp only [cmv, decide_eq_true_eq, decide_eq_false_iff_not] at hc
  · have hkn : k < n := by omega
    have hx : bs[k]? = some (bs[k]'(by omega)) := List.getElem?_eq_getElem _
    obtain ⟨b1, o1, c1, l1, e1, _, hB1, hx1⟩ := hr.cellr hkn
    cases e1
    have hx2 : (bys bs)[k]? = some (.int .u8 ((bs[k]'(by omega)).toNat : Int)) := by simp [bys, hx]
    rw [hx2] at hx1
    (repeat (first | refine g_sq ?_ | refine g_rg ?_ | refine g_r0 ?_ | refine g_ok rfl rfl ?_ | refine g_no rfl ?_ | refine g_no0 rfl ?_ | refine g_bk ?_ | refine g_b ?_ | refine g_sk ?_ | refine g_cT rfl ?_ | refine g_cF rfl ?_ | refine g_x rfl ?_ | refine g_lb ?_))
    refine g_rq rfl rfl ⟨by omega, by omega⟩ ?_
    refine g_l1r rfl rfl hB1 hx1 ?_
    (repeat (first | refine g_sq ?_ | refine g_rg ?_ | refine g_r0 ?_ | refine g_ok rfl rfl ?_ | refine g_no rfl ?_ | refine g_no0 rfl ?_ | refine g_bk ?_ | refine g_b ?_ | refine g_sk ?_ | refine g_cT rfl ?_ | refine g_cF rfl ?_ | refine g_x rfl ?_ | refine g_lb ?_))
    refine g_rq rfl rfl (by decide) ?_
    (repeat (first | refine g_sq ?_ | refine g_rg ?_ | refine g_r0 ?_ | refine g_ok rfl rfl ?_ | refine g_no rfl ?_ | refine g_no0 rfl ?_ | refine g_bk ?_ | refine g_b ?_ | refine g_sk ?_ | refine g_cT rfl ?_ | refine g_cF rfl ?_ | refine g_x rfl ?_ | refine g_lb ?_))
    refine g_cl rfl rfl (c140 ?_)
    (repeat (first | refine g_sq ?_ | refine g_rg ?_ | refine g_r0 ?_ | refine g_ok rfl rfl ?_ | refine g_no rfl ?_ | refine g_no0 rfl ?_ | refine g_bk ?_ | refine g_b ?_ | refine g_sk ?_ | refine g_cT rfl ?_ | refine g_cF rfl ?_ | refine g_x rfl ?_ | refine g_lb ?_))
    refine g_rq rfl rfl (in64 (by simp only [arv]; omega)) ?_
    (repeat (first | refine g_sq ?_ | refine g_rg ?_ | refine g_r0 ?_ | refine g_ok rfl rfl ?_ | refine g_no rfl ?_ | refine g_no0 rfl ?_ | refine g_bk ?_ | refine g_b ?_ | refine g_sk ?_ | refine g_cT rfl ?_ | refine g_cF rfl ?_ | refine g_x rfl ?_ | refine g_lb ?_))
    have e2 : (bs.take (k + 1)).foldl crcB (un32 s) = crcB ((bs.take k).foldl crcB (un32 s)) (bs[k]'(by omega)) := by
      rw [List.take_succ_eq_append_getElem (by omega), List.foldl_append]; rfl
    exact g_l (k + 1) ⟨congrArg (fun x => some (Value.int .u32 x)) e2.symm, rfl, rfl, rfl, trivial⟩ ⟨by omega, rfl⟩ (by omega)
  · have e : k = n := by omega
    subst e
    rw [List.take_of_length_le (by omega)]
    (repeat (first | refine g_sq ?_ | refine g_rg ?_ | refine g_r0 ?_ | refine g_ok rfl rfl ?_ | refine g_no rfl ?_ | refine g_no0 rfl ?_ | refine g_bk ?_ | refine g_b ?_ | refine g_sk ?_ | refine g_cT rfl ?_ | refine g_cF rfl ?_ | refine g_x rfl ?_ | refine g_lb ?_))
    exact g_ret (q_1 rfl h)
theorem c131 {v : Value} {E n g : Nat} {bs : List UInt8} {t : TypeId} (hr : Rd v E 1 n (bys bs) w) (hB : Blr w g [v] t) (hn : n ≤ 1000000000000) (h : K (.int .u32 (crc bs)) w) : CK Try.prog 131 [.slice (some ⟨g, 0, none⟩) 1 1] w K := by
  refine call_k Try.func131 k131 Try.ntmps131 (Nat.le_of_ble_eq_true rfl) ?_
  (repeat (first | refine g_sq ?_ | refine g_rg ?_ | refine g_r0 ?_ | refine g_ok rfl rfl ?_ | refine g_no rfl ?_ | refine g_no0 rfl ?_ | refine g_bk ?_ | refine g_b ?_ | refine g_sk ?_ | refine g_cT rfl ?_ | refine g_cF rfl ?_ | refine g_x rfl ?_ | refine g_lb ?_))
  refine g_lp (ι := Nat) (fun k => [(3, .int .u32 (if k = 0 then 0 else crc bs)), (6, .slice (some ⟨g, 0, none⟩) 1 1), (7, .int .i64 1), (8, .int .i64 k)]) (fun k w' => k ≤ 1 ∧ w = w') (fun k => 1 - k) 0 ⟨rfl, rfl, rfl, rfl, trivial⟩ ⟨Nat.zero_le _, rfl⟩ ?_
  rintro k _ ⟨hk, rfl⟩
  (repeat (first | refine g_sq ?_ | refine g_rg ?_ | refine g_r0 ?_ | refine g_ok rfl rfl ?_ | refine g_no rfl ?_ | refine g_no0 rfl ?_ | refine g_bk ?_ | refine g_b ?_ | refine g_sk ?_ | refine g_cT rfl ?_ | refine g_cF rfl ?_ | refine g_x rfl ?_ | refine g_lb ?_))
  refine g_cd rfl (fun hc => ?_) (fun hc => ?_)
  all_goals simp only [cmv, decide_eq_true_eq, decide_eq_false_iff_not] at hc
  · have e : k = 0 := by omega
    subst e
    (repeat (first | refine g_sq ?_ | refine g_rg ?_ | refine g_r0 ?_ | refine g_ok rfl rfl ?_ | refine g_no rfl ?_ | refine g_no0 rfl ?_ | refine g_bk ?_ | refine g_b ?_ | refine g_sk ?_ | refine g_cT rfl ?_ | refine g_cF rfl ?_ | refine g_x rfl ?_ | refine g_lb ?_))
    refine g_rq rfl rfl ⟨by omega, by omega⟩ ?_
    refine g_l1r (v := v) rfl rfl hB rfl ?_
    (repeat (first | refine g_sq ?_ | refine g_rg ?_ | refine g_r0 ?_ | refine g_ok rfl rfl ?_ | refine g_no rfl ?_ | refine g_no0 rfl ?_ | refine g_bk ?_ | refine g_b ?_ | refine g_sk ?_ | refine g_cT rfl ?_ | refine g_cF rfl ?_ | refine g_x rfl ?_ | refine g_lb ?_))
    refine g_cl rfl rfl (c136 hr hn ?_)
    (repeat (first | refine g_sq ?_ | refine g_rg ?_ | refine g_r0 ?_ | refine g_ok rfl rfl ?_ | refine g_no rfl ?_ | refine g_no0 rfl ?_ | refine g_bk ?_ | refine g_b ?_ | refine g_sk ?_ | refine g_cT rfl ?_ | refine g_cF rfl ?_ | refine g_x rfl ?_ | refine g_lb ?_))
    refine g_rq rfl rfl (in64 (by simp only [arv]; omega)) ?_
    (repeat (first | refine g_sq ?_ | refine g_rg ?_ | refine g_r0 ?_ | refine g_ok rfl rfl ?_ | refine g_no rfl ?_ | refine g_no0 rfl ?_ | refine g_bk ?_ | refine g_b ?_ | refine g_sk ?_ | refine g_cT rfl ?_ | refine g_cF rfl ?_ | refine g_x rfl ?_ | refine g_lb ?_))
    exact g_l 1 ⟨rfl, rfl, rfl, rfl, trivial⟩ ⟨by omega, rfl⟩ (by omega)
  · have e : k = 1 := by omega
    subst e
    (repeat (first | refine g_sq ?_ | refine g_rg ?_ | refine g_r0 ?_ | refine g_ok rfl rfl ?_ | refine g_no rfl ?_ | refine g_no0 rfl ?_ | refine g_bk ?_ | refine g_b ?_ | refine g_sk ?_ | refine g_cT rfl ?_ | refine g_cF rfl ?_ | refine g_x rfl ?_ | refine g_lb ?_))
    exact g_ret (q_1 rfl h)
theorem c128 {v u : Value} {E E' n m : Nat} {a b : List UInt8} (hr : Rd v E 1 n (bys a) w) (hu : Rd u E' 1 m (bys b) w) (h : K (.bool (decide (a = b))) w) : CK Try.prog 128 [v, u] w K := by
  refine call_k Try.func128 k128 Try.ntmps128 (Nat.le_of_ble_eq_true rfl) ?_
  (repeat (first | refine g_sq ?_ | refine g_rg ?_ | refine g_r0 ?_ | refine g_ok rfl rfl ?_ | refine g_no rfl ?_ | refine g_no0 rfl ?_ | refine g_bk ?_ | refine g_b ?_ | refine g_sk ?_ | refine g_cT rfl ?_ | refine g_cF rfl ?_ | refine g_x rfl ?_ | refine g_lb ?_))
  refine g_qt rfl (qt_bsR rfl hr) ?_
  (repeat (first | refine g_sq ?_ | refine g_rg ?_ | refine g_r0 ?_ | refine g_ok rfl rfl ?_ | refine g_no rfl ?_ | refine g_no0 rfl ?_ | refine g_bk ?_ | refine g_b ?_ | refine g_sk ?_ | refine g_cT rfl ?_ | refine g_cF rfl ?_ | refine g_x rfl ?_ | refine g_lb ?_))
  refine g_qt rfl (qt_bsR rfl hu) ?_
  (repeat (first | refine g_sq ?_ | refine g_rg ?_ | refine g_r0 ?_ | refine g_ok rfl rfl ?_ | refine g_no rfl ?_ | refine g_no0 rfl ?_ | refine g_bk ?_ | refine g_b ?_ | refine g_sk ?_ | refine g_cT rfl ?_ | refine g_cF rfl ?_ | refine g_x rfl ?_ | refine g_lb ?_))
  exact g_ret (q_1 rfl h)
theorem c127 {v : Value} {E n : Nat} {bs : List UInt8} (hr : Rd v E 1 n (bys bs) w) (hn : n ≤ 8) (h : K (.int .u64 (numB bs)) w) : CK Try.prog 127 [v] w K := by
  have hl := hr.len
  have hbl : bs.length = n := by simpa using hl
  obtain ⟨a, c, rfl⟩ := Rd.form hr
  refine call_k Try.func127 k127 Try.ntmps127 (Nat.le_of_ble_eq_true rfl) ?_
  (repeat (first | refine g_sq ?_ | refine g_rg ?_ | refine g_r0 ?_ | refine g_ok rfl rfl ?_ | refine g_no rfl ?_ | refine g_no0 rfl ?_ | refine g_bk ?_ | refine g_b ?_ | refine g_sk ?_ | refine g_cT rfl ?_ | refine g_cF rfl ?_ | refine g_x rfl ?_ | refine g_lb ?_))
  refine g_lp (ι := Nat) (fun k => [(3, .int .u64 (numB (bs.take k))), (6, .slice a n c), (7, .int .i64 n), (8, .int .i64 k)]) (fun k w' => k ≤ n ∧ w = w') (fun k => n - k) 0 ⟨rfl, rfl, rfl, rfl, trivial⟩ ⟨Nat.zero_le _, rfl⟩ ?_
  rintro k _ ⟨hk, rfl⟩
  (repeat (first | refine g_sq ?_ | refine g_rg ?_ | refine g_r0 ?_ | refine g_ok rfl rfl ?_ | refine g_no rfl ?_ | refine g_no0 rfl ?_ | refine g_bk ?_ | refine g_b ?_ | refine g_sk ?_ | refine g_cT rfl ?_ | refine g_cF rfl ?_ | refine g_x rfl ?_ | refine g_lb ?_))
  refine g_cd rfl (fun hc => ?_) (fun hc => ?_)
  all_goals simp only [cmv, decide_eq_true_eq, decide_eq_false_iff_not] at hc
  · have hkn : k < n := by omega
    have hx : bs[k]? = some (bs[k]'(by omega)) := List.getElem?_eq_getElem _
    obtain ⟨b1, o1, c1, l1, e1, _, hB1, hx1⟩ := hr.cellr hkn
    cases e1
    have hx2 : (bys bs)[k]? = some (.int .u8 ((bs[k]'(by omega)).toNat : Int)) := by simp [bys, hx]
    rw [hx2] at hx1
    have hlt := numB_lt (bs.take k)
    rw [List.length_take, Nat.min_eq_left (by omega)] at hlt
    have hcl : (bs[k]'(by omega)).toNat < 256 := (bs[k]'(by omega)).toNat_lt
    have hst := num_step (i := k) (by omega) hlt hcl
    have ew : IntKind.u64.wrap (((bs[k]'(by omega)).toNat : Nat) : Int) = (((bs[k]'(by omega)).toNat : Nat) : Int) := wrap_in (k := .u64) ⟨by show (0 : Int) ≤ _; omega, by show _ ≤ (18446744073709551615 : Int); omega⟩
    have e2 : numB (bs.take (k + 1)) = numB (bs.take k) + 256 ^ k * (bs[k]'(by omega)).toNat := by
      rw [List.take_succ_eq_append_getElem (by omega), numB_app, List.length_take, Nat.min_eq_left (by omega)]
      simp [numB]
    (repeat (first | refine g_sq ?_ | refine g_rg ?_ | refine g_r0 ?_ | refine g_ok rfl rfl ?_ | refine g_no rfl ?_ | refine g_no0 rfl ?_ | refine g_bk ?_ | refine g_b ?_ | refine g_sk ?_ | refine g_cT rfl ?_ | refine g_cF rfl ?_ | refine g_x rfl ?_ | refine g_lb ?_))
    refine g_rq rfl rfl ⟨by omega, by omega⟩ ?_
    refine g_l1r rfl rfl hB1 hx1 ?_
    (repeat (first | refine g_sq ?_ | refine g_rg ?_ | refine g_r0 ?_ | refine g_ok rfl rfl ?_ | refine g_no rfl ?_ | refine g_no0 rfl ?_ | refine g_bk ?_ | refine g_b ?_ | refine g_sk ?_ | refine g_cT rfl ?_ | refine g_cF rfl ?_ | refine g_x rfl ?_ | refine g_lb ?_))
    rw [ew]
    refine g_rq rfl rfl (in64 (by simp only [arv]; omega)) ?_
    refine g_rq rfl rfl (by simp only [arv]; omega) ?_
    (repeat (first | refine g_sq ?_ | refine g_rg ?_ | refine g_r0 ?_ | refine g_ok rfl rfl ?_ | refine g_no rfl ?_ | refine g_no0 rfl ?_ | refine g_bk ?_ | refine g_b ?_ | refine g_sk ?_ | refine g_cT rfl ?_ | refine g_cF rfl ?_ | refine g_x rfl ?_ | refine g_lb ?_))
    rw [show arv BinOp.mul 8 (k : Int) = 8 * (k : Int) from rfl, hst, ← e2]
    refine g_rq rfl rfl (in64 (by simp only [arv]; omega)) ?_
    (repeat (first | refine g_sq ?_ | refine g_rg ?_ | refine g_r0 ?_ | refine g_ok rfl rfl ?_ | refine g_no rfl ?_ | refine g_no0 rfl ?_ | refine g_bk ?_ | refine g_b ?_ | refine g_sk ?_ | refine g_cT rfl ?_ | refine g_cF rfl ?_ | refine g_x rfl ?_ | refine g_lb ?_))
    exact g_l (k + 1) ⟨rfl, rfl, rfl, rfl, trivial⟩ ⟨by omega, rfl⟩ (by omega)
  · have e : k = n := by omega
    subst e
    rw [List.take_of_length_le (by omega)]
    (repeat (first | refine g_sq ?_ | refine g_rg ?_ | refine g_r0 ?_ | refine g_ok rfl rfl ?_ | refine g_no rfl ?_ | refine g_no0 rfl ?_ | refine g_bk ?_ | refine g_b ?_ | refine g_sk ?_ | refine g_cT rfl ?_ | refine g_cF rfl ?_ | refine g_x rfl ?_ | refine g_lb ?_))
    exact g_ret (q_1 rfl h)
end
end Go.Proofs.Ytegjocpjmfaigaa
