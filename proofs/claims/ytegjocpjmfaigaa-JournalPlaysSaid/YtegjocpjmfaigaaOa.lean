/- The document's sums: bit by bit they are the program's. -/
import Derived.Test.YtegjocpjmfaigaaJr
import Derived.Test.YtegjocpjmfaigaaMf
import Derived.Test.YtegjocpjmfaigaaEnZ
import Derived.Test.YtegjocpjmfaigaaMh
set_option linter.unusedSimpArgs false
set_option linter.unusedVariables false
namespace Go.Proofs.Ytegjocpjmfaigaa
open Go.En

def polyN : Nat := 3988292384
def stN (n : Nat) : Nat := n / 2 ^^^ (if n % 2 = 1 then polyN else 0)
def row8N : Nat → Nat → Nat
  | 0, n => n
  | k + 1, n => row8N k (stN n)
/-- one bit of the document's register -/
def dbit (n c : Nat) : Nat := n / 2 ^^^ (if n % 2 ≠ c % 2 then polyN else 0)
def dreg : Nat → Nat → Nat → Nat
  | 0, n, _ => n
  | k + 1, n, c => dreg k (dbit n c) (c / 2)
theorem stN_lt {n : Nat} (h : n < 4294967296) : stN n < 4294967296 := by
  unfold stN
  refine Nat.xor_lt_two_pow (n := 32) (by omega) ?_
  split <;> decide
theorem row8N_lt : ∀ (k : Nat) {n : Nat}, n < 4294967296 → row8N k n < 4294967296
  | 0, _, h => h
  | k + 1, _, h => row8N_lt k (stN_lt h)
theorem dbit_lt {n : Nat} (c : Nat) (h : n < 4294967296) : dbit n c < 4294967296 := by
  unfold dbit
  refine Nat.xor_lt_two_pow (n := 32) (by omega) ?_
  split <;> decide
theorem dreg_lt : ∀ (k : Nat) {n : Nat} (c : Nat), n < 4294967296 → dreg k n c < 4294967296
  | 0, _, _, h => h
  | k + 1, _, _, h => dreg_lt k _ (dbit_lt _ h)
theorem xor_rr (a b p : Nat) : a ^^^ p ^^^ (b ^^^ p) = a ^^^ b := by
  rw [Nat.xor_assoc, Nat.xor_comm b p, ← Nat.xor_assoc p p b, Nat.xor_self, Nat.zero_xor]
theorem xm2 (a b : Nat) : (a ^^^ b) % 2 = (a + b) % 2 := by
  have h := Nat.xor_mod_two_eq_one (a := a) (b := b)
  generalize a ^^^ b = x at h ⊢
  omega
theorem stN_xor (a b : Nat) : stN (a ^^^ b) = stN a ^^^ stN b := by
  unfold stN
  rw [Nat.xor_div_two, xm2]
  rcases Nat.mod_two_eq_zero_or_one a with ha | ha <;> rcases Nat.mod_two_eq_zero_or_one b with hb | hb
  · rw [if_neg (by omega), if_neg (by omega), if_neg (by omega)]; simp
  · rw [if_pos (by omega), if_neg (by omega), if_pos (by omega)]; simp [Nat.xor_assoc]
  · rw [if_pos (by omega), if_pos (by omega), if_neg (by omega)]
    rw [Nat.xor_zero, Nat.xor_assoc, Nat.xor_comm (b / 2) polyN, ← Nat.xor_assoc]
  · rw [if_neg (by omega), if_pos (by omega), if_pos (by omega), xor_rr, Nat.xor_zero]
theorem row8N_xor : ∀ (k a b : Nat), row8N k (a ^^^ b) = row8N k a ^^^ row8N k b
  | 0, _, _ => rfl
  | k + 1, a, b => by
    show row8N k (stN (a ^^^ b)) = _
    rw [stN_xor, row8N_xor k]
    rfl
theorem dbit_st (n c : Nat) : dbit n c ^^^ c / 2 = stN (n ^^^ c) := by
  unfold dbit stN
  rw [Nat.xor_div_two, xm2]
  have e : (if n % 2 ≠ c % 2 then polyN else 0) = if (n + c) % 2 = 1 then polyN else 0 := by
    by_cases h : n % 2 = c % 2
    · rw [if_neg (by omega), if_neg (by omega)]
    · rw [if_pos h, if_pos (by omega)]
  rw [e, Nat.xor_assoc, Nat.xor_comm _ (c / 2), ← Nat.xor_assoc]
theorem dreg_row : ∀ (k n c : Nat), dreg k n c ^^^ c / 2 ^ k = row8N k (n ^^^ c)
  | 0, n, c => by show n ^^^ c / 1 = _; rw [Nat.div_one]; rfl
  | k + 1, n, c => by
    show dreg k (dbit n c) (c / 2) ^^^ _ = row8N k (stN (n ^^^ c))
    rw [← dbit_st, ← dreg_row k, Nat.div_div_eq_div_mul, Nat.pow_succ, Nat.mul_comm 2]
theorem row8N_top : ∀ (k y : Nat), row8N k (2 ^ k * y) = y
  | 0, y => by show 1 * y = y; omega
  | k + 1, y => by
    show row8N k (stN (2 ^ (k + 1) * y)) = y
    have e : stN (2 ^ (k + 1) * y) = 2 ^ k * y := by
      have e2 : 2 ^ (k + 1) * y = 2 * (2 ^ k * y) := by rw [Nat.pow_succ, Nat.mul_comm (2 ^ k) 2, Nat.mul_assoc]
      unfold stN
      rw [e2, if_neg (by omega), Nat.xor_zero]
      omega
    rw [e, row8N_top k]
theorem split8 (x : Nat) : x = 2 ^ 8 * (x / 2 ^ 8) ^^^ x % 2 ^ 8 := by
  refine Nat.eq_of_testBit_eq fun i => ?_
  rw [Nat.testBit_xor, Nat.testBit_two_pow_mul, Nat.testBit_mod_two_pow, Nat.testBit_div_two_pow]
  by_cases h : i < 8
  · rw [decide_eq_false (by omega), decide_eq_true h]; simp
  · rw [decide_eq_true (by omega), decide_eq_false h, show i - 8 + 8 = i by omega]; simp
theorem dreg_crc {s c : Nat} (hc : c < 256) : dreg 8 s c = s / 256 ^^^ row8N 8 (s % 256 ^^^ c) := by
  have h1 := dreg_row 8 s c
  rw [show c / 2 ^ 8 = 0 from Nat.div_eq_of_lt hc, Nat.xor_zero] at h1
  rw [h1]
  conv => lhs; rw [split8 (s ^^^ c)]
  rw [row8N_xor, row8N_top, Nat.xor_div_two_pow, Nat.xor_mod_two_pow, show c / 2 ^ 8 = 0 from Nat.div_eq_of_lt hc, Nat.xor_zero, show c % 2 ^ 8 = c from Nat.mod_eq_of_lt hc]
theorem xor32 {a b : Nat} (ha : a < 4294967296) (hb : b < 4294967296) : btv .xor .u32 (a : Int) (b : Int) = ((a ^^^ b : Nat) : Int) := by
  show IntKind.u32.wrap (((BitVec.ofInt 32 (a : Int) ^^^ BitVec.ofInt 32 (b : Int)).toNat : Nat) : Int) = _
  have hx : a ^^^ b < 4294967296 := Nat.xor_lt_two_pow (n := 32) ha hb
  rw [BitVec.ofInt_natCast, BitVec.ofInt_natCast, BitVec.toNat_xor, BitVec.toNat_ofNat, BitVec.toNat_ofNat, Nat.mod_eq_of_lt ha, Nat.mod_eq_of_lt hb, IntKind.wrap_u32]
  omega
theorem xor8 {a b : Nat} (ha : a < 256) (hb : b < 256) : btv .xor .u8 (a : Int) (b : Int) = ((a ^^^ b : Nat) : Int) := by
  show IntKind.u8.wrap (((BitVec.ofInt 8 (a : Int) ^^^ BitVec.ofInt 8 (b : Int)).toNat : Nat) : Int) = _
  have hx : a ^^^ b < 256 := Nat.xor_lt_two_pow (n := 8) ha hb
  rw [BitVec.ofInt_natCast, BitVec.ofInt_natCast, BitVec.toNat_xor, BitVec.toNat_ofNat, BitVec.toNat_ofNat, Nat.mod_eq_of_lt ha, Nat.mod_eq_of_lt hb, IntKind.wrap_u8]
  omega
theorem st_eq {n : Nat} (hn : n < 4294967296) : st143 (n : Int) = ((stN n : Nat) : Int) := by
  have e1 : bits BinOp.and IntKind.u32 (n : Int) 1 = ((n % 2 : Nat) : Int) := by
    show IntKind.u32.wrap (((BitVec.ofInt 32 (n : Int) &&& BitVec.ofInt 32 ((1 : Nat) : Int)).toNat : Nat) : Int) = _
    rw [BitVec.ofInt_natCast, BitVec.ofInt_natCast, BitVec.toNat_and, BitVec.toNat_ofNat, BitVec.toNat_ofNat, Nat.mod_eq_of_lt hn, show 1 % 2 ^ 32 = 1 from rfl, Nat.and_one_is_mod, IntKind.wrap_u32]
    omega
  unfold st143
  rw [e1]
  have e2 : bits BinOp.and IntKind.u32 3988292384 (-((n % 2 : Nat) : Int) % 4294967296) = (((if n % 2 = 1 then polyN else 0) : Nat) : Int) := by
    rcases Nat.mod_two_eq_zero_or_one n with h | h
    · rw [h]; decide +kernel
    · rw [h]; decide +kernel
  rw [e2, show (n : Int) / 2 = ((n / 2 : Nat) : Int) by omega]
  exact xor32 (by omega) (by split <;> decide)
theorem row8_eq : ∀ (k : Nat) {n : Nat}, n < 4294967296 → row8 k (n : Int) = ((row8N k n : Nat) : Int)
  | 0, _, _ => rfl
  | k + 1, n, h => by
    show row8 k (st143 (n : Int)) = _
    rw [st_eq h, row8_eq k (stN_lt h)]
    rfl
theorem crcB_eq {s : Nat} (hs : s < 4294967296) (c : UInt8) : crcB (s : Int) c = ((dreg 8 s c.toNat : Nat) : Int) := by
  have hc := c.toNat_lt
  unfold crcB
  rw [show shv .shr .u32 (s : Int) 8 = ((s / 256 : Nat) : Int) by
    show (s : Int).fdiv (2 ^ 8) = _
    rw [Int.fdiv_eq_ediv_of_nonneg _ (by decide)]; omega]
  rw [show IntKind.u8.wrap (s : Int) = ((s % 256 : Nat) : Int) by rw [IntKind.wrap_u8]; omega]
  have hx : s % 256 ^^^ c.toNat < 256 := Nat.xor_lt_two_pow (n := 8) (Nat.mod_lt _ (by decide)) hc
  rw [xor8 (Nat.mod_lt _ (by decide)) hc, show IntKind.u32.wrap ((s % 256 ^^^ c.toNat : Nat) : Int) = ((s % 256 ^^^ c.toNat : Nat) : Int) by rw [IntKind.wrap_u32]; omega, row8_eq 8 (by omega), xor32 (by omega) (row8N_lt 8 (by omega)), dreg_crc hc]
def dover (n : Nat) (bs : List UInt8) : Nat := bs.foldl (fun n c => dreg 8 n c.toNat) n
theorem dover_lt : ∀ (bs : List UInt8) {n : Nat}, n < 4294967296 → dover n bs < 4294967296
  | [], _, h => h
  | c :: bs, _, h => dover_lt bs (dreg_lt 8 _ h)
theorem dover_eq : ∀ (bs : List UInt8) {n : Nat}, n < 4294967296 → bs.foldl crcB (n : Int) = ((dover n bs : Nat) : Int)
  | [], _, _ => rfl
  | c :: bs, n, h => by
    rw [List.foldl_cons, crcB_eq h, dover_eq bs (dreg_lt 8 _ h)]
    rfl
theorem un32_eq {n : Nat} (h : n < 4294967296) : un32 (n : Int) = 4294967295 - (n : Int) := by
  have e : un32 (n : Int) = btv .xor .u32 ((4294967295 : Nat) : Int) (n : Int) := rfl
  rw [e, xor32 (by decide) h]
  have h2 : 4294967295 ^^^ n = 4294967295 - n := by
    have := BitVec.toNat_not (x := BitVec.ofNat 32 n)
    have h3 : (~~~(BitVec.ofNat 32 n)).toNat = (BitVec.allOnes 32 ^^^ BitVec.ofNat 32 n).toNat := by rw [BitVec.allOnes_xor]
    rw [h3, BitVec.toNat_xor, BitVec.toNat_ofNat, Nat.mod_eq_of_lt h] at this
    exact this
  rw [h2]
  omega
theorem crc_doc (bs : List UInt8) : crc bs = 4294967295 - ((dover 4294967295 bs : Nat) : Int) := by
  unfold crc crcOn
  rw [show un32 0 = ((4294967295 : Nat) : Int) from un32_eq (n := 0) (by decide), dover_eq bs (by decide), un32_eq (dover_lt bs (by decide))]
section
variable {w w0 : World} {S0 S : Nat → Prop} {K : Value → World → Prop} {L : List Res}
theorem dreg_step : ∀ (k n c : Nat), dreg (k + 1) n c = dbit (dreg k n c) (c / 2 ^ k)
  | 0, n, c => by show dbit n c = dbit n (c / 1); rw [Nat.div_one]
  | k + 1, n, c => by
    show dreg (k + 1) (dbit n c) (c / 2) = _
    rw [dreg_step k, Nat.div_div_eq_div_mul, Nat.pow_succ, Nat.mul_comm 2]
    rfl
theorem c142 {m : Nat} {v : Value} {E n : Nat} {bs : List UInt8} (hm : m < 4294967296) (hr : Rd v E 1 n (bys bs) w) (hn : n ≤ 1000000000000) (h : K (.int .u32 (dover m bs : Nat)) w) : CK Try.prog 142 [.int .u32 m, v] w K := by
  have hl := hr.len
  have hbl : bs.length = n := by simpa using hl
  obtain ⟨a, c, rfl⟩ := Rd.form hr
  refine call_k Try.func142 k142 Try.ntmps142 (Nat.le_of_ble_eq_true rfl) ?_
  (repeat (first | refine g_sq ?_ | refine g_rg ?_ | refine g_r0 ?_ | refine g_ok rfl rfl ?_ | refine g_no rfl ?_ | refine g_no0 rfl ?_ | refine g_bk ?_ | refine g_b ?_ | refine g_sk ?_ | refine g_cT rfl ?_ | refine g_cF rfl ?_ | refine g_x rfl ?_ | refine g_lb ?_))
  refine g_lp (ι := Nat) (fun k => [(0, .int .u32 (dover m (bs.take k) : Nat)), (1, .slice a n c), (5, .int .i64 k)]) (fun k w' => k ≤ n ∧ w = w') (fun k => n - k) 0 ⟨rfl, rfl, rfl, trivial⟩ ⟨Nat.zero_le _, rfl⟩ ?_
  rintro k _ ⟨hk, rfl⟩
  (repeat (first | refine g_sq ?_ | refine g_rg ?_ | refine g_r0 ?_ | refine g_ok rfl rfl ?_ | refine g_no rfl ?_ | refine g_no0 rfl ?_ | refine g_bk ?_ | refine g_b ?_ | refine g_sk ?_ | refine g_cT rfl ?_ | refine g_cF rfl ?_ | refine g_x rfl ?_ | refine g_lb ?_))
  refine g_cd rfl (fun hc => ?_) (fun hc => ?_)
  all_goals simp only [cmv, decide_eq_true_eq, decide_eq_false_iff_not] at hc
  · have hkn : k < n := by omega
    have hx : bs[k]? = some (bs[k]'(by omega)) := List.getElem?_eq_getElem _
    obtain ⟨b1, o1, c1, l1, e1, _, hB1, hx1⟩ := hr.cellr hkn
    cases e1
    have hx2 : (bys bs)[k]? = some (.int .u8 ((bs[k]'(by omega)).toNat : Int)) := by simp [bys, hx]
    rw [hx2] at hx1
    have e2 : dover m (bs.take (k + 1)) = dreg 8 (dover m (bs.take k)) (bs[k]'(by omega)).toNat := by
      rw [List.take_succ_eq_append_getElem (by omega)]
      unfold dover
      rw [List.foldl_append]; rfl
    have hlt := dover_lt (bs.take k) hm
    generalize dover m (bs.take k) = s at e2 hlt ⊢
    have hz := (bs[k]'(by omega)).toNat_lt
    generalize (bs[k]'(by omega)).toNat = z at e2 hx1 hz
    (repeat (first | refine g_sq ?_ | refine g_rg ?_ | refine g_r0 ?_ | refine g_ok rfl rfl ?_ | refine g_no rfl ?_ | refine g_no0 rfl ?_ | refine g_bk ?_ | refine g_b ?_ | refine g_sk ?_ | refine g_cT rfl ?_ | refine g_cF rfl ?_ | refine g_x rfl ?_ | refine g_lb ?_))
    refine g_rq rfl rfl ⟨by omega, by omega⟩ ?_
    refine g_l1r rfl rfl hB1 hx1 ?_
    (repeat (first | refine g_sq ?_ | refine g_rg ?_ | refine g_r0 ?_ | refine g_ok rfl rfl ?_ | refine g_no rfl ?_ | refine g_no0 rfl ?_ | refine g_bk ?_ | refine g_b ?_ | refine g_sk ?_ | refine g_cT rfl ?_ | refine g_cF rfl ?_ | refine g_x rfl ?_ | refine g_lb ?_))
    refine g_lp (ι := Nat) (fun j => [(0, .int .u32 (dreg j s z : Nat)), (1, .slice (some ⟨b1, o1, none⟩) n c), (5, .int .i64 k), (6, .int .u8 (z / 2 ^ j : Nat)), (7, .int .i64 j)]) (fun j w' => j ≤ 8 ∧ w = w') (fun j => 8 - j) 0 ⟨rfl, rfl, rfl, by show some (Value.int .u8 (z : Int)) = some (Value.int .u8 ((z / 1 : Nat) : Int)); rw [Nat.div_one], rfl, trivial⟩ ⟨Nat.zero_le _, rfl⟩ ?_
    rintro j _ ⟨hj, rfl⟩
    (repeat (first | refine g_sq ?_ | refine g_rg ?_ | refine g_r0 ?_ | refine g_ok rfl rfl ?_ | refine g_no rfl ?_ | refine g_no0 rfl ?_ | refine g_bk ?_ | refine g_b ?_ | refine g_sk ?_ | refine g_cT rfl ?_ | refine g_cF rfl ?_ | refine g_x rfl ?_ | refine g_lb ?_))
    refine g_cd rfl (fun hc2 => ?_) (fun hc2 => ?_)
    all_goals simp only [cmv, decide_eq_true_eq, decide_eq_false_iff_not] at hc2
    · have hst := dreg_step j s z
      have hdl := dreg_lt j z hlt
      have hzj : z / 2 ^ (j + 1) = z / 2 ^ j / 2 := by rw [Nat.div_div_eq_div_mul, Nat.pow_succ]
      have hzl : z / 2 ^ j < 256 := Nat.lt_of_le_of_lt (Nat.div_le_self _ _) hz
      generalize dreg j s z = r at hst hdl
      generalize z / 2 ^ j = y at hst hzj hzl
      (repeat (first | refine g_sq ?_ | refine g_rg ?_ | refine g_r0 ?_ | refine g_ok rfl rfl ?_ | refine g_no rfl ?_ | refine g_no0 rfl ?_ | refine g_bk ?_ | refine g_b ?_ | refine g_sk ?_ | refine g_cT rfl ?_ | refine g_cF rfl ?_ | refine g_x rfl ?_ | refine g_lb ?_))
      refine g_rq rfl rfl (by decide) ?_
      (repeat (first | refine g_sq ?_ | refine g_rg ?_ | refine g_r0 ?_ | refine g_ok rfl rfl ?_ | refine g_no rfl ?_ | refine g_no0 rfl ?_ | refine g_bk ?_ | refine g_b ?_ | refine g_sk ?_ | refine g_cT rfl ?_ | refine g_cF rfl ?_ | refine g_x rfl ?_ | refine g_lb ?_))
      refine g_rq rfl rfl (by decide) ?_
      (repeat (first | refine g_sq ?_ | refine g_rg ?_ | refine g_r0 ?_ | refine g_ok rfl rfl ?_ | refine g_no rfl ?_ | refine g_no0 rfl ?_ | refine g_bk ?_ | refine g_b ?_ | refine g_sk ?_ | refine g_cT rfl ?_ | refine g_cF rfl ?_ | refine g_x rfl ?_ | refine g_lb ?_))
      refine g_rq rfl rfl (by decide) ?_
      (repeat (first | refine g_sq ?_ | refine g_rg ?_ | refine g_r0 ?_ | refine g_ok rfl rfl ?_ | refine g_no rfl ?_ | refine g_no0 rfl ?_ | refine g_bk ?_ | refine g_b ?_ | refine g_sk ?_ | refine g_cT rfl ?_ | refine g_cF rfl ?_ | refine g_x rfl ?_ | refine g_lb ?_))
      refine g_rq rfl rfl (by decide) ?_
      have q1 : IntKind.u32.wrap ((r : Int).tdiv 2) = ((r / 2 : Nat) : Int) := by
        rw [Int.tdiv_eq_ediv_of_nonneg (by omega), IntKind.wrap_u32]; omega
      have q2 : IntKind.u8.wrap ((y : Int).tdiv 2) = ((y / 2 : Nat) : Int) := by
        rw [Int.tdiv_eq_ediv_of_nonneg (by omega), IntKind.wrap_u8]; omega
      have q3 : cmv BinOp.neq ((r : Int).tmod 2) (IntKind.u32.wrap ((y : Int).tmod 2)) = decide (r % 2 ≠ y % 2) := by
        rw [Int.tmod_eq_emod_of_nonneg (by omega), Int.tmod_eq_emod_of_nonneg (by omega), IntKind.wrap_u32]
        simp only [cmv]
        rw [← decide_not]
        congr 1
        rw [eq_iff_iff]
        omega
      rw [q1, q2, q3]
      (repeat (first | refine g_sq ?_ | refine g_rg ?_ | refine g_r0 ?_ | refine g_ok rfl rfl ?_ | refine g_no rfl ?_ | refine g_no0 rfl ?_ | refine g_bk ?_ | refine g_b ?_ | refine g_sk ?_ | refine g_cT rfl ?_ | refine g_cF rfl ?_ | refine g_x rfl ?_ | refine g_lb ?_))
      refine g_cd rfl (fun hy => ?_) (fun hy => ?_)
      all_goals simp only [decide_eq_true_eq, decide_eq_false_iff_not] at hy
      · (repeat (first | refine g_sq ?_ | refine g_rg ?_ | refine g_r0 ?_ | refine g_ok rfl rfl ?_ | refine g_no rfl ?_ | refine g_no0 rfl ?_ | refine g_bk ?_ | refine g_b ?_ | refine g_sk ?_ | refine g_cT rfl ?_ | refine g_cF rfl ?_ | refine g_x rfl ?_ | refine g_lb ?_))
        rw [show (3988292384 : Int) = ((polyN : Nat) : Int) from rfl, xor32 (by omega) (by decide)]
        have e3 : dreg (j + 1) s z = r / 2 ^^^ polyN := by rw [hst]; unfold dbit; rw [if_pos hy]
        rw [← e3]
        (repeat (first | refine g_sq ?_ | refine g_rg ?_ | refine g_r0 ?_ | refine g_ok rfl rfl ?_ | refine g_no rfl ?_ | refine g_no0 rfl ?_ | refine g_bk ?_ | refine g_b ?_ | refine g_sk ?_ | refine g_cT rfl ?_ | refine g_cF rfl ?_ | refine g_x rfl ?_ | refine g_lb ?_))
        refine g_rq rfl rfl (in64 (by simp only [arv]; omega)) ?_
        (repeat (first | refine g_sq ?_ | refine g_rg ?_ | refine g_r0 ?_ | refine g_ok rfl rfl ?_ | refine g_no rfl ?_ | refine g_no0 rfl ?_ | refine g_bk ?_ | refine g_b ?_ | refine g_sk ?_ | refine g_cT rfl ?_ | refine g_cF rfl ?_ | refine g_x rfl ?_ | refine g_lb ?_))
        refine g_l (j + 1) ⟨rfl, rfl, rfl, ?_, rfl, trivial⟩ ⟨by omega, rfl⟩ (by omega)
        rw [hzj]; rfl
      · have e3 : dreg (j + 1) s z = r / 2 := by rw [hst]; unfold dbit; rw [if_neg hy, Nat.xor_zero]
        rw [← e3]
        (repeat (first | refine g_sq ?_ | refine g_rg ?_ | refine g_r0 ?_ | refine g_ok rfl rfl ?_ | refine g_no rfl ?_ | refine g_no0 rfl ?_ | refine g_bk ?_ | refine g_b ?_ | refine g_sk ?_ | refine g_cT rfl ?_ | refine g_cF rfl ?_ | refine g_x rfl ?_ | refine g_lb ?_))
        refine g_rq rfl rfl (in64 (by simp only [arv]; omega)) ?_
        (repeat (first | refine g_sq ?_ | refine g_rg ?_ | refine g_r0 ?_ | refine g_ok rfl rfl ?_ | refine g_no rfl ?_ | refine g_no0 rfl ?_ | refine g_bk ?_ | refine g_b ?_ | refine g_sk ?_ | refine g_cT rfl ?_ | refine g_cF rfl ?_ | refine g_x rfl ?_ | refine g_lb ?_))
        refine g_l (j + 1) ⟨rfl, rfl, rfl, ?_, rfl, trivial⟩ ⟨by omega, rfl⟩ (by omega)
        rw [hzj]; rfl
    · have e8 : j = 8 := by omega
      subst e8
      rw [← e2]
      (repeat (first | refine g_sq ?_ | refine g_rg ?_ | refine g_r0 ?_ | refine g_ok rfl rfl ?_ | refine g_no rfl ?_ | refine g_no0 rfl ?_ | refine g_bk ?_ | refine g_b ?_ | refine g_sk ?_ | refine g_cT rfl ?_ | refine g_cF rfl ?_ | refine g_x rfl ?_ | refine g_lb ?_))
      refine g_rq rfl rfl (in64 (by simp only [arv]; omega)) ?_
      (repeat (first | refine g_sq ?_ | refine g_rg ?_ | refine g_r0 ?_ | refine g_ok rfl rfl ?_ | refine g_no rfl ?_ | refine g_no0 rfl ?_ | refine g_bk ?_ | refine g_b ?_ | refine g_sk ?_ | refine g_cT rfl ?_ | refine g_cF rfl ?_ | refine g_x rfl ?_ | refine g_lb ?_))
      exact g_l (k + 1) ⟨rfl, rfl, rfl, trivial⟩ ⟨by omega, rfl⟩ (by omega)
  · have e : k = n := by omega
    subst e
    rw [List.take_of_length_le (by omega)]
    (repeat (first | refine g_sq ?_ | refine g_rg ?_ | refine g_r0 ?_ | refine g_ok rfl rfl ?_ | refine g_no rfl ?_ | refine g_no0 rfl ?_ | refine g_bk ?_ | refine g_b ?_ | refine g_sk ?_ | refine g_cT rfl ?_ | refine g_cF rfl ?_ | refine g_x rfl ?_ | refine g_lb ?_))
    exact g_ret (q_1 rfl h)
theorem c139 {v : Value} {E n : Nat} {bs : List UInt8} (hr : Rd v E 1 n (bys bs) w) (hn : n ≤ 1000000000000) (h : K (.int .u32 (crcN bs : Nat)) w) : CK Try.prog 139 [v] w K := by
  refine call_k Try.func139 k139 Try.ntmps139 (Nat.le_of_ble_eq_true rfl) ?_
  (repeat (first | refine g_sq ?_ | refine g_rg ?_ | refine g_r0 ?_ | refine g_ok rfl rfl ?_ | refine g_no rfl ?_ | refine g_no0 rfl ?_ | refine g_bk ?_ | refine g_b ?_ | refine g_sk ?_ | refine g_cT rfl ?_ | refine g_cF rfl ?_ | refine g_x rfl ?_ | refine g_lb ?_))
  refine g_cl rfl rfl (c142 (m := 4294967295) (by decide) hr hn ?_)
  have hlt := dover_lt bs (n := 4294967295) (by decide)
  have e := crc_doc bs
  rw [(crc_eq bs).1] at e
  generalize dover 4294967295 bs = z at hlt e
  (repeat (first | refine g_sq ?_ | refine g_rg ?_ | refine g_r0 ?_ | refine g_ok rfl rfl ?_ | refine g_no rfl ?_ | refine g_no0 rfl ?_ | refine g_bk ?_ | refine g_b ?_ | refine g_sk ?_ | refine g_cT rfl ?_ | refine g_cF rfl ?_ | refine g_x rfl ?_ | refine g_lb ?_))
  refine g_cl rfl rfl (call_k Try.func141 k141 Try.ntmps141 (Nat.le_of_ble_eq_true rfl) ?_)
  (repeat (first | refine g_sq ?_ | refine g_rg ?_ | refine g_r0 ?_ | refine g_ok rfl rfl ?_ | refine g_no rfl ?_ | refine g_no0 rfl ?_ | refine g_bk ?_ | refine g_b ?_ | refine g_sk ?_ | refine g_cT rfl ?_ | refine g_cF rfl ?_ | refine g_x rfl ?_ | refine g_lb ?_))
  rw [show IntKind.u32.wrap (arv BinOp.sub 4294967295 (z : Int)) = ((crcN bs : Nat) : Int) by rw [e, IntKind.wrap_u32]; simp only [arv]; omega]
  refine g_ret (q_1 rfl ?_)
  (repeat (first | refine g_sq ?_ | refine g_rg ?_ | refine g_r0 ?_ | refine g_ok rfl rfl ?_ | refine g_no rfl ?_ | refine g_no0 rfl ?_ | refine g_bk ?_ | refine g_b ?_ | refine g_sk ?_ | refine g_cT rfl ?_ | refine g_cF rfl ?_ | refine g_x rfl ?_ | refine g_lb ?_))
  exact g_ret (q_1 rfl h)
end
end Go.Proofs.Ytegjocpjmfaigaa
