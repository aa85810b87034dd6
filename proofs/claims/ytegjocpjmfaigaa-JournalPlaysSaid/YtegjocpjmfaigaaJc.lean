/- The journal: commit blocks. -/
import Derived.Test.YtegjocpjmfaigaaJb
set_option linter.unusedSimpArgs false
set_option linter.unusedVariables false
namespace Go.Proofs.Ytegjocpjmfaigaa
open Go.En

theorem q_c1 {P : Program} {a ty n b off : Nat} {l : List Value} {E : TypeId} {T : TT} {w : World} {K : Value → World → Prop} (ht : lk T a = some (.pointer (some ⟨b, off, none⟩))) (h1 : rdAs P ty (some n) = true) (hb : Blk w b l E) (hn : off + n ≤ l.length) (h : K (.agg ⟨(l.drop off).take n⟩) w) : QF P [.cell a ty] K .ret T [] w :=
  ⟨[_], ⟨_, _, [], ht, run_loadm h1 hb.r hn, rfl, rfl⟩, h⟩
theorem q_c2 {P : Program} {a ty n b off t : Nat} {l : List Value} {E : TypeId} {T : TT} {w : World} {K : Value → World → Prop} {u : Value} (ht : lk T a = some (.pointer (some ⟨b, off, none⟩))) (h1 : rdAs P ty (some n) = true) (hb : Blk w b l E) (hn : off + n ≤ l.length) (hu : lk T t = some u) (h : K (.tuple ⟨[.agg ⟨(l.drop off).take n⟩, u]⟩) w) : QF P [.cell a ty, .tmp t] K .ret T [] w :=
  ⟨[_, _], ⟨_, _, [u], ht, run_loadm h1 hb.r hn, ⟨_, [], hu, rfl, rfl⟩, rfl⟩, h⟩

def crcN (bs : List UInt8) : Nat := (crc bs).toNat
theorem crc_eq (bs : List UInt8) : crc bs = (crcN bs : Int) ∧ crcN bs < 4294967296 := by
  have h : 0 ≤ crc bs ∧ crc bs < 4294967296 := by
    unfold crc crcOn un32 btv
    rw [IntKind.wrap_u32]
    omega
  unfold crcN
  omega
/-- bytes put into bytes -/
def putAt (out : List UInt8) (i : Nat) (xs : List UInt8) : List UInt8 := out.take i ++ xs ++ out.drop (i + xs.length)
theorem putAt_mid {a z r xs : List UInt8} (h : z.length = xs.length) : putAt (a ++ (z ++ r)) a.length xs = a ++ (xs ++ r) := by
  unfold putAt
  rw [List.take_left' rfl, List.append_assoc]
  congr 2
  rw [← h, ← List.length_append, ← List.append_assoc, List.drop_left' rfl]
theorem putAt_bys (out : List UInt8) (i : Nat) (xs : List UInt8) : spl (bys out) i (bys xs) = bys (putAt out i xs) := by
  simp [spl, putAt, bys, List.map_take, List.map_drop]
theorem putAt_len {out xs : List UInt8} {i : Nat} (h : i + xs.length ≤ out.length) : (putAt out i xs).length = out.length := by
  simp [putAt]; omega
def endedB (n : Nat) (g : List UInt8) : List UInt8 := [2] ++ (lowB n ++ ((lowB g.length).take 4 ++ ((lowB (crcN g)).take 4 ++ (List.replicate 103 0 ++ (lowB n ++ [])))))
theorem ended_put (n : Nat) (g : List UInt8) : putAt (putAt (putAt (putAt ((List.replicate 128 0).set 0 2) 1 (lowB n)) 9 ((lowB g.length).take 4)) 13 ((lowB (crcN g)).take 4)) 120 (lowB n) = endedB n g := by
  have e0 : (List.replicate 128 (0 : UInt8)).set 0 2 = [2] ++ (List.replicate 8 0 ++ (List.replicate 4 0 ++ (List.replicate 4 0 ++ (List.replicate 103 0 ++ (List.replicate 8 0 ++ []))))) := rfl
  have l8 : ∀ m, (lowB m).length = 8 := lowB_len
  have l4 : ∀ m, ((lowB m).take 4).length = 4 := fun m => by rw [List.length_take, l8]; rfl
  generalize hz : (List.replicate 103 (0 : UInt8)) = z at *
  have hzl : z.length = 103 := by rw [← hz]; simp
  rw [e0]
  have p1 := putAt_mid (a := [2]) (z := List.replicate 8 0) (r := List.replicate 4 0 ++ (List.replicate 4 0 ++ (z ++ (List.replicate 8 0 ++ [])))) (xs := lowB n) (by rw [l8]; rfl)
  rw [show (1 : Nat) = ([2] : List UInt8).length from rfl, p1]
  have p2 := putAt_mid (a := [2] ++ lowB n) (z := List.replicate 4 0) (r := List.replicate 4 0 ++ (z ++ (List.replicate 8 0 ++ []))) (xs := (lowB g.length).take 4) (by rw [l4]; rfl)
  have q2 : (9 : Nat) = ([2] ++ lowB n).length := by rw [List.length_append, l8]; rfl
  rw [← List.append_assoc [2] (lowB n), q2, p2]
  have p3 := putAt_mid (a := [2] ++ lowB n ++ (lowB g.length).take 4) (z := List.replicate 4 0) (r := z ++ (List.replicate 8 0 ++ [])) (xs := (lowB (crcN g)).take 4) (by rw [l4]; rfl)
  have q3 : (13 : Nat) = ([2] ++ lowB n ++ (lowB g.length).take 4).length := by rw [List.length_append, List.length_append, l8, l4]; rfl
  rw [← List.append_assoc ([2] ++ lowB n), q3, p3]
  have p4 := putAt_mid (a := [2] ++ lowB n ++ (lowB g.length).take 4 ++ (lowB (crcN g)).take 4 ++ z) (z := List.replicate 8 0) (r := []) (xs := lowB n) (by rw [l8]; rfl)
  have q4 : (120 : Nat) = ([2] ++ lowB n ++ (lowB g.length).take 4 ++ (lowB (crcN g)).take 4 ++ z).length := by simp only [List.length_append, l8, l4, hzl]; rfl
  rw [← List.append_assoc ([2] ++ lowB n ++ (lowB g.length).take 4), ← List.append_assoc ([2] ++ lowB n ++ (lowB g.length).take 4 ++ (lowB (crcN g)).take 4), q4, p4]
  simp only [endedB, List.append_assoc]
  rw [hz]
theorem endedB_len (n : Nat) (g : List UInt8) : (endedB n g).length = 128 := by
  simp [endedB, lowB_len]
section
variable {w w0 : World} {S0 S : Nat → Prop} {K : Value → World → Prop} {L : List Res}
set_option maxRecDepth 100000 in
theorem b130 {n : Nat} (hS : St w0 S0 w L) (h : ∀ w', St w0 S0 w' L → K (.agg ⟨bys (lowB n)⟩) w') : CK Try.prog 130 [.int .u64 n] w K := by
  refine call_k Try.func130 k130 Try.ntmps130 (Nat.le_of_ble_eq_true rfl) ?_
  (repeat (first | refine g_sq ?_ | refine g_rg ?_ | refine g_r0 ?_ | refine g_ok rfl rfl ?_ | refine g_no rfl ?_ | refine g_no0 rfl ?_ | refine g_bk ?_ | refine g_b ?_ | refine g_sk ?_ | refine g_cT rfl ?_ | refine g_cF rfl ?_ | refine g_x rfl ?_ | refine g_lb ?_))
  refine g_ef rfl (ef_al hS fun b2 w hS => ?_)
  refine g_r0 ?_
  (repeat (first | refine g_sq ?_ | refine g_rg ?_ | refine g_r0 ?_ | refine g_ok rfl rfl ?_ | refine g_no rfl ?_ | refine g_no0 rfl ?_ | refine g_bk ?_ | refine g_b ?_ | refine g_sk ?_ | refine g_cT rfl ?_ | refine g_cF rfl ?_ | refine g_x rfl ?_ | refine g_lb ?_))
  refine g_ef rfl (ef_al hS fun b3 w hS => ?_)
  have hS : St w0 S0 w (L ++ [cel b2 (List.replicate 8 (.int .u8 0)) 186] ++ [cel b3 (List.replicate 8 (.int .u8 0)) 186]) := hS
  have hS := hS.front
  have hS : St w0 S0 w ([cel b3 (List.replicate 8 (.int .u8 0)) 186] ++ (L ++ [cel b2 (List.replicate 8 (.int .u8 0)) 186])) := hS
  have hS : St w0 S0 w (cel b3 (bys ((lowB n).take 0 ++ List.replicate (8 - 0) 0)) 186 :: (L ++ [cel b2 (List.replicate 8 (.int .u8 0)) 186])) := hS
  (repeat (first | refine g_sq ?_ | refine g_rg ?_ | refine g_r0 ?_ | refine g_ok rfl rfl ?_ | refine g_no rfl ?_ | refine g_no0 rfl ?_ | refine g_bk ?_ | refine g_b ?_ | refine g_sk ?_ | refine g_cT rfl ?_ | refine g_cF rfl ?_ | refine g_x rfl ?_ | refine g_lb ?_))
  refine g_lp (ι := Nat) (fun k => [(0, .int .u64 n), (2, dp b2), (3, dp b3), (5, .int .i64 k)]) (fun k w => k ≤ 8 ∧ St w0 S0 w (cel b3 (bys ((lowB n).take k ++ List.replicate (8 - k) 0)) 186 :: (L ++ [cel b2 (List.replicate 8 (.int .u8 0)) 186]))) (fun k => 8 - k) 0 ⟨rfl, rfl, rfl, rfl, trivial⟩ ⟨Nat.zero_le _, hS⟩ ?_
  clear hS
  rintro k w ⟨hk, hS⟩
  have l8 := lowB_len n
  (repeat (first | refine g_sq ?_ | refine g_rg ?_ | refine g_r0 ?_ | refine g_ok rfl rfl ?_ | refine g_no rfl ?_ | refine g_no0 rfl ?_ | refine g_bk ?_ | refine g_b ?_ | refine g_sk ?_ | refine g_cT rfl ?_ | refine g_cF rfl ?_ | refine g_x rfl ?_ | refine g_lb ?_))
  refine g_cd rfl (fun hc => ?_) (fun hc => ?_)
  all_goals simp only [cmv, decide_eq_true_eq, decide_eq_false_iff_not] at hc
  · have hk8 : k < 8 := by omega
    (repeat (first | refine g_sq ?_ | refine g_rg ?_ | refine g_r0 ?_ | refine g_ok rfl rfl ?_ | refine g_no rfl ?_ | refine g_no0 rfl ?_ | refine g_bk ?_ | refine g_b ?_ | refine g_sk ?_ | refine g_cT rfl ?_ | refine g_cF rfl ?_ | refine g_x rfl ?_ | refine g_lb ?_))
    refine g_rq rfl rfl (in64 (by simp only [arv]; omega)) ?_
    refine g_rq rfl rfl (by simp only [arv]; omega) ?_
    (repeat (first | refine g_sq ?_ | refine g_rg ?_ | refine g_r0 ?_ | refine g_ok rfl rfl ?_ | refine g_no rfl ?_ | refine g_no0 rfl ?_ | refine g_bk ?_ | refine g_b ?_ | refine g_sk ?_ | refine g_cT rfl ?_ | refine g_cF rfl ?_ | refine g_x rfl ?_ | refine g_lb ?_))
    rw [show arv BinOp.mul 8 (k : Int) = 8 * (k : Int) from rfl, low_step hk8]
    refine g_rq rfl rfl ⟨by omega, by omega⟩ ?_
    refine g_ef0 rfl (ef_st hS 0 rfl rfl rfl rfl (by simp [l8]; omega) rfl fun w hS => ?_)
    have hS := hS.ceq (l' := bys ((lowB n).take (k + 1) ++ List.replicate (8 - (k + 1)) 0)) 0 rfl (by
      show spl (bys ((lowB n).take k ++ List.replicate (8 - k) 0)) (0 + k * 1) [.int .u8 ((UInt8.ofNat (n / 256 ^ k)).toNat : Int)] = _
      rw [Nat.zero_add, Nat.mul_one, show [Value.int .u8 ((UInt8.ofNat (n / 256 ^ k)).toNat : Int)] = bys [UInt8.ofNat (n / 256 ^ k)] from rfl, putAt_bys]
      congr 1
      have hz : List.replicate (8 - k) (0 : UInt8) = [0] ++ List.replicate (8 - (k + 1)) 0 := by
        rw [show 8 - k = (8 - (k + 1)) + 1 by omega, List.replicate_succ]; rfl
      have hkl : ((lowB n).take k).length = k := by rw [List.length_take, l8]; omega
      rw [hz]
      have := putAt_mid (a := (lowB n).take k) (z := [0]) (r := List.replicate (8 - (k + 1)) 0) (xs := [UInt8.ofNat (n / 256 ^ k)]) rfl
      rw [hkl] at this
      rw [this, List.take_succ_eq_append_getElem (by omega), List.append_assoc]
      simp [lowB])
    (repeat (first | refine g_sq ?_ | refine g_rg ?_ | refine g_r0 ?_ | refine g_ok rfl rfl ?_ | refine g_no rfl ?_ | refine g_no0 rfl ?_ | refine g_bk ?_ | refine g_b ?_ | refine g_sk ?_ | refine g_cT rfl ?_ | refine g_cF rfl ?_ | refine g_x rfl ?_ | refine g_lb ?_))
    refine g_rq rfl rfl (in64 (by simp only [arv]; omega)) ?_
    (repeat (first | refine g_sq ?_ | refine g_rg ?_ | refine g_r0 ?_ | refine g_ok rfl rfl ?_ | refine g_no rfl ?_ | refine g_no0 rfl ?_ | refine g_bk ?_ | refine g_b ?_ | refine g_sk ?_ | refine g_cT rfl ?_ | refine g_cF rfl ?_ | refine g_x rfl ?_ | refine g_lb ?_))
    exact g_l (k + 1) ⟨rfl, rfl, rfl, rfl, trivial⟩ ⟨by omega, hS⟩ (by omega)
  · have e : k = 8 := by omega
    subst e
    have hS : St w0 S0 w (cel b3 (bys ((lowB n).take 8 ++ List.replicate 0 0)) 186 :: (L ++ [cel b2 (List.replicate 8 (.int .u8 0)) 186])) := hS
    rw [List.take_of_length_le (by omega), List.replicate_zero, List.append_nil] at hS
    (repeat (first | refine g_sq ?_ | refine g_rg ?_ | refine g_r0 ?_ | refine g_ok rfl rfl ?_ | refine g_no rfl ?_ | refine g_no0 rfl ?_ | refine g_bk ?_ | refine g_b ?_ | refine g_sk ?_ | refine g_cT rfl ?_ | refine g_cF rfl ?_ | refine g_x rfl ?_ | refine g_lb ?_))
    refine g_lm rfl rfl (hS.b 0 rfl) (by simp [l8]) ?_
    have e2 : List.take 8 (List.drop 0 (bys (lowB n))) = bys (lowB n) := by rw [List.drop_zero, List.take_of_length_le (by simp [l8])]
    rw [e2]
    have hS := (hS.tail).front
    have lb : (bys (lowB n)).length = 8 := by simp [l8]
    refine g_ef0 rfl (ef_st (u := .agg ⟨bys (lowB n)⟩) hS 0 rfl rfl rfl lb (by show 0 + (bys (lowB n)).length ≤ _; rw [lb]; exact Nat.le_refl _) (bys_one _) fun w hS => ?_)
    have hS := hS.ceq (l' := bys (lowB n)) 0 rfl (spl_all lb)
    (repeat (first | refine g_sq ?_ | refine g_rg ?_ | refine g_r0 ?_ | refine g_ok rfl rfl ?_ | refine g_no rfl ?_ | refine g_no0 rfl ?_ | refine g_bk ?_ | refine g_b ?_ | refine g_sk ?_ | refine g_cT rfl ?_ | refine g_cF rfl ?_ | refine g_x rfl ?_ | refine g_lb ?_))
    refine g_ret (q_c1 (n := 8) rfl rfl (hS.b 0 rfl) (by simp [l8]) ?_)
    rw [e2]
    exact h _ hS.tail
theorem b129 {g b5 i m n : Nat} {out : List UInt8} (hi : i + m ≤ 128 ∧ 1 ≤ m) (hm : m ≤ 8) (hl : out.length = 128) (hS : St w0 S0 w [cel b5 [.slice (some ⟨g, 0, none⟩) 128 128] 35, cel g (bys out) 5])
    (h : ∀ w', St w0 S0 w' [cel b5 [.slice (some ⟨g, 0, none⟩) 128 128] 35, cel g (bys (putAt out i ((lowB n).take m))) 5] → K (.tuple ⟨[]⟩) w') : CK Try.prog 129 [.int .i64 i, .int .i64 m, .int .u64 n, dp b5] w K := by
  have l8 := lowB_len n
  refine call_k Try.func129 k129 Try.ntmps129 (Nat.le_of_ble_eq_true rfl) ?_
  (repeat (first | refine g_sq ?_ | refine g_rg ?_ | refine g_r0 ?_ | refine g_ok rfl rfl ?_ | refine g_no rfl ?_ | refine g_no0 rfl ?_ | refine g_bk ?_ | refine g_b ?_ | refine g_sk ?_ | refine g_cT rfl ?_ | refine g_cF rfl ?_ | refine g_x rfl ?_ | refine g_lb ?_))
  refine g_cl rfl rfl (b130 hS fun w hS => ?_)
  refine g_ef rfl (ef_al hS fun b7 w hS => ?_)
  have lb : (bys (lowB n)).length = 8 := by simp [l8]
  refine g_ef0 rfl (ef_st (u := .agg ⟨bys (lowB n)⟩) hS 2 rfl rfl rfl lb (by show 0 + (bys (lowB n)).length ≤ _; rw [lb]; exact Nat.le_refl _) (bys_one _) fun w hS => ?_)
  have hS := hS.ceq (l' := bys (lowB n)) 2 rfl (spl_all lb)
  (repeat (first | refine g_sq ?_ | refine g_rg ?_ | refine g_r0 ?_ | refine g_ok rfl rfl ?_ | refine g_no rfl ?_ | refine g_no0 rfl ?_ | refine g_bk ?_ | refine g_b ?_ | refine g_sk ?_ | refine g_cT rfl ?_ | refine g_cF rfl ?_ | refine g_x rfl ?_ | refine g_lb ?_))
  refine g_dr mixed ?_
  have hS := hS.drew
  (repeat (first | refine d_ok rfl rfl rfl ?_ | refine d_no rfl rfl ?_))
  refine d_l1 rfl rfl rfl (hS.b 0 rfl) rfl ?_
  (repeat (first | refine d_ok rfl rfl rfl ?_ | refine d_no rfl rfl ?_))
  refine d_rq rfl rfl rfl ⟨by omega, by omega, by omega, by omega⟩ ?_
  have e : slo (some (Operand.tmp 11)) 0 (((128 : Nat) : Int)).toNat ((i : Nat) : Int).toNat 1 = i := by
    simp only [slo, Int.toNat_natCast]
    rw [if_neg (by omega)]
    omega
  rw [e]
  (repeat (first | refine d_ok rfl rfl rfl ?_ | refine d_no rfl rfl ?_))
  refine d_rq rfl rfl rfl ⟨by omega, by omega, by omega⟩ ?_
  refine d_e rfl rfl ?_
  have hpl : ((lowB n).take m).length = m := by rw [List.length_take, l8]; omega
  refine ef_cp (n := 128 - i) (m := m) (ys := bys ((lowB n).take m)) hS 1 rfl rfl rfl (.inl ⟨186, .inr ⟨b7, 0, 8, _, rfl, by omega, by simp [l8], ?_, (hS.b 2 rfl).r⟩⟩) (by simp [hl]; omega) (bys_one _) fun w hS => ⟨rc_0, ?_⟩
  · simp [bys_take]
  have hS := hS.ceq (l' := bys (putAt out i ((lowB n).take m))) 1 rfl (by
    rw [List.take_of_length_le (by simp [hpl]; omega), putAt_bys])
  refine d_fin ?_
  (repeat (first | refine g_sq ?_ | refine g_rg ?_ | refine g_r0 ?_ | refine g_ok rfl rfl ?_ | refine g_no rfl ?_ | refine g_no0 rfl ?_ | refine g_bk ?_ | refine g_b ?_ | refine g_sk ?_ | refine g_cT rfl ?_ | refine g_cF rfl ?_ | refine g_x rfl ?_ | refine g_lb ?_))
  exact q_n (h _ (hS.sel [0, 1] rfl rfl))
set_option maxRecDepth 100000 in
theorem b116 {n : Nat} {v : Value} {E m : Nat} {bs : List UInt8} (hn : n ≤ 4611686018427387905) (hr : Rd v E 1 m (bys bs) w) (hm : m ≤ 1000000) (h : ∀ v' w', St w (fun _ => False) w' [row v' 5 1 128 (bys (endedB n bs))] → K v' w') : CK Try.prog 116 [.int .i64 n, v] w K := by
  have hl := hr.len
  have hbl : bs.length = m := by simpa using hl
  have hro : ∀ {w' : World} {L' : List Res}, St w (fun _ => False) w' L' → Rd v E 1 m (bys bs) w' := fun hS => hS.ro (r := rdR v E 1 m (bys bs)) hr fun x hx => ⟨hr.lt x hx, fun h => h⟩
  obtain ⟨a, c, rfl⟩ := Rd.form hr
  refine call_k Try.func116 k116 Try.ntmps116 (Nat.le_of_ble_eq_true rfl) ?_
  (repeat (first | refine g_sq ?_ | refine g_rg ?_ | refine g_r0 ?_ | refine g_ok rfl rfl ?_ | refine g_no rfl ?_ | refine g_no0 rfl ?_ | refine g_bk ?_ | refine g_b ?_ | refine g_sk ?_ | refine g_cT rfl ?_ | refine g_cF rfl ?_ | refine g_x rfl ?_ | refine g_lb ?_))
  refine g_ef rfl (ef_ms (St.nil w (fun _ => False)) rfl rfl (by decide) (by decide) (by decide) (by decide) fun g w hS => ?_)
  refine g_ef rfl (ef_al hS fun b5 w hS => ?_)
  refine g_ef0 rfl (ef_st hS 1 rfl rfl rfl rfl (Nat.le_of_ble_eq_true rfl) rfl fun w hS => ?_)
  have hS : St _ (fun _ => False) w [cel g (bys (List.replicate 128 0)) 5, cel b5 [.slice (some ⟨g, 0, none⟩) 128 128] 35] := hS
  have hS := hS.sel [1, 0] rfl rfl
  (repeat (first | refine g_sq ?_ | refine g_rg ?_ | refine g_r0 ?_ | refine g_ok rfl rfl ?_ | refine g_no rfl ?_ | refine g_no0 rfl ?_ | refine g_bk ?_ | refine g_b ?_ | refine g_sk ?_ | refine g_cT rfl ?_ | refine g_cF rfl ?_ | refine g_x rfl ?_ | refine g_lb ?_))
  refine g_l1 rfl rfl (hS.b  0 rfl) rfl ?_
  (repeat (first | refine g_sq ?_ | refine g_rg ?_ | refine g_r0 ?_ | refine g_ok rfl rfl ?_ | refine g_no rfl ?_ | refine g_no0 rfl ?_ | refine g_bk ?_ | refine g_b ?_ | refine g_sk ?_ | refine g_cT rfl ?_ | refine g_cF rfl ?_ | refine g_x rfl ?_ | refine g_lb ?_))
  refine g_rq rfl rfl ⟨by omega, by omega⟩ ?_
  refine g_ef0 rfl (ef_st hS 1 rfl rfl rfl rfl (Nat.le_of_ble_eq_true rfl) rfl fun w hS => ?_)
  have hS := hS.ceq (l' := bys ((List.replicate 128 0).set 0 2)) 1 rfl rfl
  (repeat (first | refine g_sq ?_ | refine g_rg ?_ | refine g_r0 ?_ | refine g_ok rfl rfl ?_ | refine g_no rfl ?_ | refine g_no0 rfl ?_ | refine g_bk ?_ | refine g_b ?_ | refine g_sk ?_ | refine g_cT rfl ?_ | refine g_cF rfl ?_ | refine g_x rfl ?_ | refine g_lb ?_))
  have t8 : (lowB n).take 8 = lowB n := List.take_of_length_le (by simp [lowB_len])
  have t4 : ∀ k : Nat, ((lowB k).take 4).length = 4 := fun k => by rw [List.length_take, lowB_len]; rfl
  have L0 : ((List.replicate 128 (0 : UInt8)).set 0 2).length = 128 := by simp
  have L1 : (putAt ((List.replicate 128 (0 : UInt8)).set 0 2) 1 (lowB n)).length = 128 := (putAt_len (by rw [lowB_len, L0]; decide)).trans L0
  have L2 : (putAt (putAt ((List.replicate 128 (0 : UInt8)).set 0 2) 1 (lowB n)) 9 ((lowB m).take 4)).length = 128 := (putAt_len (by rw [t4, L1]; decide)).trans L1
  have L3 : (putAt (putAt (putAt ((List.replicate 128 (0 : UInt8)).set 0 2) 1 (lowB n)) 9 ((lowB m).take 4)) 13 ((lowB (crcN bs)).take 4)).length = 128 := (putAt_len (by rw [t4, L2]; decide)).trans L2
  have ew : ∀ k : Nat, k ≤ 4611686018427387905 → IntKind.u64.wrap (k : Int) = (k : Int) := fun k hk => wrap_in (k := .u64) ⟨by show (0 : Int) ≤ _; omega, by show _ ≤ (18446744073709551615 : Int); omega⟩
  rw [ew n hn]
  refine g_ef rfl (ef_cv (first := []) (cap := [dp b5]) rfl rfl (callFunc_of Try.func129 rfl rfl) (b129 (i := 1) (m := 8) (by decide) (by decide) L0 hS fun w hS => ?_))
  rw [t8] at hS
  (repeat (first | refine g_sq ?_ | refine g_rg ?_ | refine g_r0 ?_ | refine g_ok rfl rfl ?_ | refine g_no rfl ?_ | refine g_no0 rfl ?_ | refine g_bk ?_ | refine g_b ?_ | refine g_sk ?_ | refine g_cT rfl ?_ | refine g_cF rfl ?_ | refine g_x rfl ?_ | refine g_lb ?_))
  rw [ew m (by omega)]
  refine g_ef rfl (ef_cv (first := []) (cap := [dp b5]) rfl rfl (callFunc_of Try.func129 rfl rfl) (b129 (i := 9) (m := 4) (by decide) (by decide) L1 hS fun w hS => ?_))
  (repeat (first | refine g_sq ?_ | refine g_rg ?_ | refine g_r0 ?_ | refine g_ok rfl rfl ?_ | refine g_no rfl ?_ | refine g_no0 rfl ?_ | refine g_bk ?_ | refine g_b ?_ | refine g_sk ?_ | refine g_cT rfl ?_ | refine g_cF rfl ?_ | refine g_x rfl ?_ | refine g_lb ?_))
  refine g_ef rfl (ef_bl (rs := [.slice a m c]) hS rfl fun g2 w hS => ?_)
  refine g_cl rfl rfl (c131 (hro hS) (hS.b 2 rfl).r (by omega) ?_)
  (repeat (first | refine g_sq ?_ | refine g_rg ?_ | refine g_r0 ?_ | refine g_ok rfl rfl ?_ | refine g_no rfl ?_ | refine g_no0 rfl ?_ | refine g_bk ?_ | refine g_b ?_ | refine g_sk ?_ | refine g_cT rfl ?_ | refine g_cF rfl ?_ | refine g_x rfl ?_ | refine g_lb ?_))
  obtain ⟨hc1, hc2⟩ := crc_eq bs
  rw [hc1, ew _ (by omega)]
  have hS := hS.sel [0, 1] rfl rfl
  refine g_ef rfl (ef_cv (first := []) (cap := [dp b5]) rfl rfl (callFunc_of Try.func129 rfl rfl) (b129 (i := 13) (m := 4) (by decide) (by decide) L2 hS fun w hS => ?_))
  (repeat (first | refine g_sq ?_ | refine g_rg ?_ | refine g_r0 ?_ | refine g_ok rfl rfl ?_ | refine g_no rfl ?_ | refine g_no0 rfl ?_ | refine g_bk ?_ | refine g_b ?_ | refine g_sk ?_ | refine g_cT rfl ?_ | refine g_cF rfl ?_ | refine g_x rfl ?_ | refine g_lb ?_))
  rw [ew n hn]
  refine g_ef rfl (ef_cv (first := []) (cap := [dp b5]) rfl rfl (callFunc_of Try.func129 rfl rfl) (b129 (i := 120) (m := 8) (by decide) (by decide) L3 hS fun w hS => ?_))
  rw [t8, ← hbl, ended_put] at hS
  (repeat (first | refine g_sq ?_ | refine g_rg ?_ | refine g_r0 ?_ | refine g_ok rfl rfl ?_ | refine g_no rfl ?_ | refine g_no0 rfl ?_ | refine g_bk ?_ | refine g_b ?_ | refine g_sk ?_ | refine g_cT rfl ?_ | refine g_cF rfl ?_ | refine g_x rfl ?_ | refine g_lb ?_))
  refine g_l1 rfl rfl (hS.b  0 rfl) rfl ?_
  (repeat (first | refine g_sq ?_ | refine g_rg ?_ | refine g_r0 ?_ | refine g_ok rfl rfl ?_ | refine g_no rfl ?_ | refine g_no0 rfl ?_ | refine g_bk ?_ | refine g_b ?_ | refine g_sk ?_ | refine g_cT rfl ?_ | refine g_cF rfl ?_ | refine g_x rfl ?_ | refine g_lb ?_))
  have hS := hS.close_row (sz := 1) (n := 128) (cap := 128) 1 rfl (Nat.le_refl _) (by simp [endedB_len]) (List.prefix_refl _) (by simp [endedB_len])
  exact g_ret (q_1 rfl (h _ _ (hS.sel [1] rfl rfl)))
theorem c116 {n : Nat} {v : Value} {E m : Nat} {bs : List UInt8} (hn : n ≤ 4611686018427387905) (hS : St w0 S0 w L) (hr : Rd v E 1 m (bys bs) w) (hm : m ≤ 1000000) (h : ∀ v' w', St w0 S0 w' (L ++ [row v' 5 1 128 (bys (endedB n bs))]) → K v' w') : CK Try.prog 116 [.int .i64 n, v] w K :=
  b116 hn hr hm fun v' w' h' => h v' w' (hS.call0.2 w' _ h')
end
end Go.Proofs.Ytegjocpjmfaigaa
