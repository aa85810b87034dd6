/- Qa8 Qb0 Qb1 Qb2 Qb3 Qb4 Qb5 Qb6 -/
import Derived.Test.YtocofjmknnckhaaGreatDoorPk5
import Derived.Test.YtocofjmknnckhaaGreatDoorChecked
import Derived.KernelRfl
set_option linter.unusedSimpArgs false
set_option linter.unusedVariables false
namespace Go.Proofs.YtocofjmknnckhaaGreatDoor
open Go.En
theorem long64' {n : Nat} (h : n < 1000000000) : IntKind.u64.wrap (arv .mul 8 (IntKind.u64.wrap (n : Int))) = ((8 * n : Nat) : Int) := by
 rw [← long64 h]
 congr 1
 simp only [arv]
 omega
theorem z_stop {n j : Nat} (hj : j ≤ (119 - n % 64) % 64) : (n + 1 + j) % 64 = 56 ↔ j = (119 - n % 64) % 64 := by omega
theorem u64n {n : Nat} (h : n < 1000000000) : IntKind.u64.wrap (n : Int) = (n : Int) := wrap_in (k := .u64) ⟨by show (0 : Int) ≤ _; omega, by show _ ≤ (18446744073709551615 : Int); omega⟩
theorem four_at : ∀ (l : List U) (i : Nat), i < 4 * l.length → (l.flatMap four)[i]? = some ((sr (l.getD (i / 4) 0) (24 - 8 * (i % 4))).toUInt8)
 | [], i, h => by simp at h
 | x :: l, i, h => by
  rw [List.flatMap_cons]
  by_cases h4 : i < 4
  ·rw [List.getElem?_append_left (by rw [four_len]; exact h4), show i / 4 = 0 by omega, show i % 4 = i by omega]
   have e0 : (sr x 0) = x := by
    unfold sr
    rw [Nat.pow_zero, Nat.div_one]
    apply UInt32.toNat_inj.1
    rw [UInt32.toNat_ofNat', Nat.mod_eq_of_lt x.toNat_lt]
   match i, h4 with
   | 0, _ => rfl
   | 1, _ => rfl
   | 2, _ => rfl
   | 3, _ =>
    show some x.toUInt8 = some (sr x 0).toUInt8
    rw [e0]
  ·rw [List.getElem?_append_right (by rw [four_len]; omega), four_len, four_at l (i - 4) (by rw [List.length_cons] at h; omega), show i / 4 = (i - 4) / 4 + 1 by omega, show (i - 4) % 4 = i % 4 by omega]
   rfl
section
variable {w w0 : World} {S0 : Nat → Prop} {L B : List Res} {K : Value → World → Prop} {s : Bs} {E0 E1 E2 : Nat}
theorem r_Twin {v : Value} {n : Nat} {l : Bs} (hn : n < 100000000000) (hr : Rd v E0 1 n (bys l) w) (h : ∀ v' w', St w (fun _ => False) w' [row v' 5 1 n (bys l)] → K v' w') : CK Tryz.prog 34 [v] w K := by
 have hS := (St.nil w (fun _ => False)).nilrow 5 1
 refine call_k Tryz.func34 k34 Tryz.ntmps34 (Nat.le_of_ble_eq_true rfl) ?_
 refine gW ?_
 refine g_ef rfl (ef_ap (n := 0) (m := n) (ys := bys l) hS 0 rfl rfl rfl (.inl ⟨_, hr.same fun b hb => hS.fr.kept b (hr.lt b hb) (fun h => h)⟩) (bys_one _) (by omega) (by omega) fun v1 w1 hS => ?_)
 rw [Nat.zero_add, List.nil_append] at hS
 refine gW ?_
 exact g_ret (q_1 rfl (h _ _ hS))
set_option maxHeartbeats 2000000 in
theorem r_padded {v : Value} {n : Nat} {l : Bs} (hl : l.length = n) (hn : n < 900000000) (hr : Rd v E0 1 n (bys l) w) (h : ∀ v' w', St w (fun _ => False) w' [row v' 5 1 (l ++ tail n).length (bys (l ++ tail n))] → K v' w') : CK Tryz.prog 58 [v] w K := by
 have hS := (St.nil w (fun _ => False)).nilrow 5 1
 obtain ⟨a, c, rfl⟩ := hr.form
 refine call_k Tryz.func58 k58 Tryz.ntmps58 (Nat.le_of_ble_eq_true rfl) ?_
 refine gW ?_
 refine g_ef rfl (ef_ap (n := 0) (m := n) (ys := bys l) hS 0 rfl rfl rfl (.inl ⟨_, hr.same fun b hb => hS.fr.kept b (hr.lt b hb) (fun h => h)⟩) (bys_one _) (by omega) (by omega) fun v1 w1 hS => ?_)
 rw [Nat.zero_add, List.nil_append] at hS
 refine g_ef rfl (ef_bl (rs := bys [128]) hS rfl fun b9 w1 hS => ?_)
 refine g_ef rfl (ef_ap (n := n) (m := 1) (ys := bys [128]) hS 0 rfl rfl rfl (.inl ⟨5, .inr ⟨b9, 0, 1, _, rfl, Nat.le_refl _, Nat.le_refl _, rfl, (hS.b 1 rfl).r⟩⟩) (bys_one _) (by omega) (by omega) fun v2 w1 hS => ?_)
 rw [List.nil_append, ← bys_append] at hS
 replace hS := hS.sel [0] rfl rfl
 generalize hz : (119 - n % 64) % 64 = z
 have hz64 : z < 64 := by omega
 refine gW ?_
 refine g_atx (ι := Value) 2 (fun v3 => [(0, .slice a n c), (3, v3)]) (fun v3 w' => St w (fun _ => False) w' [row v3 5 1 (n + 1 + z) (bys (l ++ 128 :: List.replicate z 0))]) rfl ?_ ?_
 ·refine g_lp (ι := Nat × Value) (fun x => [(0, .slice a n c), (3, x.2)]) (fun x w' => x.1 ≤ z ∧ St w (fun _ => False) w' [row x.2 5 1 (n + 1 + x.1) (bys (l ++ 128 :: List.replicate x.1 0))]) (fun x => z - x.1) (0, v2) ⟨rfl, rfl, trivial⟩ ⟨Nat.zero_le _, hS⟩ ?_
  clear hS
  rintro ⟨j, v3⟩ w1 ⟨hj, hS⟩
  dsimp only at hj hS ⊢
  obtain ⟨a3, c3, rfl⟩ := hS.rlen 0 rfl
  have hzs := z_stop (n := n) (j := j) (by omega)
  refine gW ?_
  refine g_rq rfl rfl (by decide) ?_
  rw [show ((n + 1 + j : Nat) : Int).tmod 64 = (((n + 1 + j) % 64 : Nat) : Int) by rw [Int.tmod_eq_emod_of_nonneg (by omega)]; omega]
  refine gW ?_
  (refine g_cd rfl (fun hc => ?_) (fun hc => ?_) <;> simp only [cmv, arv, Bool.not_eq_true', Bool.not_eq_false', decide_eq_true_eq, decide_eq_false_iff_not] at hc)
  ·have hlt : j < z := by omega
   refine gW ?_
   refine g_ef rfl (ef_bl (rs := bys [0]) hS rfl fun b9 w1 hS => ?_)
   refine g_ef rfl (ef_ap (n := n + 1 + j) (m := 1) (ys := bys [0]) hS 0 rfl rfl rfl (.inl ⟨5, .inr ⟨b9, 0, 1, _, rfl, Nat.le_refl _, Nat.le_refl _, rfl, (hS.b 1 rfl).r⟩⟩) (bys_one _) (by omega) (by omega) fun v4 w1 hS => ?_)
   rw [← bys_append, show l ++ 128 :: List.replicate j 0 ++ [0] = l ++ 128 :: List.replicate (j + 1) 0 by rw [List.replicate_succ', List.append_assoc]; rfl] at hS
   refine gW ?_
   exact g_l (j + 1, v4) ⟨rfl, rfl, trivial⟩ ⟨by simp only; omega, hS.sel [0] rfl rfl⟩ (by simp only; omega)
  ·have e : j = z := by omega
   subst e
   refine gW ?_
   exact g_jx _ ⟨rfl, rfl, trivial⟩ hS
 clear hS
 rintro v3 T w1 hT hS
 refine g_wkc hT ?_
 refine gW ?_
 rw [long64' (by omega)]
 refine gW ?_
 refine g_lp (ι := Nat × Value) (fun x => [(3, x.2), (4, .int .u64 ((8 * n : Nat) : Int)), (5, .int .i64 (7 - (x.1 : Int)))]) (fun x w' => x.1 ≤ 8 ∧ St w (fun _ => False) w' [row x.2 5 1 (n + 1 + z + x.1) (bys (l ++ 128 :: List.replicate z 0 ++ (len8 n).take x.1))]) (fun x => 8 - x.1) (0, v3) ⟨rfl, rfl, rfl, trivial⟩ ⟨Nat.zero_le _, by simpa using hS⟩ ?_
 clear hS
 rintro ⟨i, v4⟩ w1 ⟨hi, hS⟩
 dsimp only at hi hS ⊢
 refine gW ?_
 (refine g_cd rfl (fun hc => ?_) (fun hc => ?_) <;> simp only [cmv, arv, Bool.not_eq_true', Bool.not_eq_false', decide_eq_true_eq, decide_eq_false_iff_not] at hc)
 ·have hi8 : i < 8 := by omega
  refine gW ?_
  refine g_rq rfl rfl (in64 (by simp only [arv]; omega)) ?_
  rw [show arv .mul 8 (7 - (i : Int)) = ((56 - 8 * i : Nat) : Int) by simp only [arv]; omega]
  refine gW ?_
  rw [u64n (n := 56 - 8 * i) (by omega)]
  refine g_rq rfl rfl (by omega) ?_
  refine gW ?_
  rw [shr64 hi8]
  refine g_ef rfl (ef_bl (rs := [.int .u8 ((UInt8.ofNat (8 * n / 2 ^ (56 - 8 * i))).toNat : Int)]) hS rfl fun b7 w1 hS => ?_)
  refine g_ef rfl (ef_ap (n := n + 1 + z + i) (m := 1) (ys := [.int .u8 ((UInt8.ofNat (8 * n / 2 ^ (56 - 8 * i))).toNat : Int)]) hS 0 rfl rfl rfl (.inl ⟨5, .inr ⟨b7, 0, 1, _, rfl, Nat.le_refl _, Nat.le_refl _, rfl, (hS.b 1 rfl).r⟩⟩) rfl (by omega) (by omega) fun v6 w1 hS => ?_)
  have est : bys (l ++ 128 :: List.replicate z 0 ++ (len8 n).take i) ++ [.int .u8 ((UInt8.ofNat (8 * n / 2 ^ (56 - 8 * i))).toNat : Int)] = bys (l ++ 128 :: List.replicate z 0 ++ (len8 n).take (i + 1)) := by
   rw [List.take_succ_eq_append_getElem (by rw [len8_len]; exact hi8), ← List.append_assoc, bys_append (_ ++ _)]
   congr 1
   simp [len8, bys]
  rw [est] at hS
  refine gW ?_
  refine g_rq rfl rfl (in64 (by simp only [arv]; omega)) ?_
  rw [show arv .sub (7 - (i : Int)) 1 = 7 - (((i + 1 : Nat)) : Int) by simp only [arv]; omega]
  refine gW ?_
  exact g_l (i + 1, v6) ⟨rfl, rfl, rfl, trivial⟩ ⟨by simp only; omega, hS.sel [0] rfl rfl⟩ (by simp only; omega)
 ·have e : i = 8 := by omega
  subst e
  rw [List.take_of_length_le (by rw [len8_len]; omega)] at hS
  have et : l ++ 128 :: List.replicate z 0 ++ len8 n = l ++ tail n := by unfold tail; rw [hz]; simp
  have etl : n + 1 + z + 8 = (l ++ tail n).length := by rw [List.length_append, tail_len, hz]; omega
  rw [et, etl] at hS
  refine gW ?_
  exact g_ret (q_1 rfl (h _ _ hS))
theorem r_const (h : ∀ v' w', St w (fun _ => False) w' [row v' 107 1 64 (ws KF)] → K v' w') : CK Tryz.prog 59 [] w K := by
 have hS := St.nil w (fun _ => False)
 refine call_k Tryz.func59 k59 Tryz.ntmps59 (Nat.le_of_ble_eq_true rfl) ?_
 refine gW ?_
 refine g_ef rfl (ef_bl (rs := ws KF) hS rfl fun b1 w1 hS => ?_)
 refine gW ?_
 replace hS : St w (fun _ => False) w1 [row (.slice (some ⟨b1, 0, none⟩) 64 64) 107 1 64 (ws KF)] := hS.close_row (n := 64) (cap := 64) (sz := 1) (xs := ws KF) 0 rfl (Nat.le_refl _) rfl (List.prefix_refl _) rfl
 exact g_ret (q_1 rfl (h _ _ hS))
set_option maxHeartbeats 2000000 in
theorem r_Of3 {v : Value} {n : Nat} {l : Bs} (hl : l.length = n) (hn : n < 900000000) (hr : Rd v E0 1 n (bys l) w) (h : ∀ w', St w (fun _ => False) w' [] → K (.agg ⟨bys (sha l)⟩) w') : CK Tryz.prog 31 [v] w K := by
 have hS := St.nil w (fun _ => False)
 have hrr : ∀ {L : List Res} (w' : World), St w (fun _ => False) w' L → Rd v E0 1 n (bys l) w' := fun w' hS => hr.same fun b hb => hS.fr.kept b (hr.lt b hb) (fun h => h)
 have l32 : (bys (sha l)).length = 32 := by rw [bys_length, sha_len]
 obtain ⟨a, c, rfl⟩ := hr.form
 refine call_k Tryz.func31 k31 Tryz.ntmps31 (Nat.le_of_ble_eq_true rfl) ?_
 refine gW ?_
 refine g_ef rfl (ef_al hS fun b2 w1 hS => ?_)
 refine gW ?_
 refine g_ef rfl (ef_bl (rs := ws H0) hS rfl fun b9 w1 hS => ?_)
 replace hS : St w (fun _ => False) w1 [cel b2 (bys (List.replicate 32 0)) 46, cel b9 (ws H0) 107] := hS
 replace hS : St w (fun _ => False) w1 [cel b2 (bys (List.replicate 32 0)) 46, row (.slice (some ⟨b9, 0, none⟩) 8 8) 107 1 8 (ws H0)] := hS.close_row (n := 8) (cap := 8) (sz := 1) (xs := ws H0) 1 rfl (Nat.le_refl _) rfl (List.prefix_refl _) rfl
 refine gW ?_
 refine g_cl rfl rfl (r_padded hl hn (hrr _ hS) fun v4 w1 h' => ?_)
 replace hS := hS.call0.2 _ _ h'
 clear h'
 refine gW ?_
 refine g_cl rfl rfl (r_const fun v5 w1 h' => ?_)
 replace hS := hS.call0.2 _ _ h'
 clear h'
 have hA : (l ++ tail n).length < 1000000000 := by rw [List.length_append, tail_len]; omega
 have hA64 : (l ++ tail n).length % 64 = 0 := by rw [List.length_append, hl]; exact tail_mod n
 have esh : sha l = (shaN (l ++ tail n) ((l ++ tail n).length / 64)).flatMap four := by unfold sha; rw [hl]
 generalize l ++ tail n = A at hS hA hA64 esh
 replace hS : St w (fun _ => False) w1 [cel b2 (bys (List.replicate 32 0)) 46, row (.slice (some ⟨b9, 0, none⟩) 8 8) 107 1 8 (ws H0), row v4 5 1 A.length (bys A), row v5 107 1 64 (ws KF)] := hS
 obtain ⟨a4, c4, rfl⟩ := hS.rlen 2 rfl
 refine gW ?_
 refine g_atx (ι := Value) 2 (fun v3 => [(2, dp b2), (3, v3)]) (fun v3 w' => St w (fun _ => False) w' [cel b2 (bys (List.replicate 32 0)) 46, row v3 107 1 8 (ws (shaN A (A.length / 64)))]) rfl ?_ ?_
 ·refine g_lp (ι := Nat × Value) (fun x => [(2, dp b2), (3, x.2), (4, .slice a4 A.length c4), (5, v5), (6, .int .i64 (64 * x.1 : Nat))]) (fun x w' => 64 * x.1 ≤ A.length ∧ St w (fun _ => False) w' [cel b2 (bys (List.replicate 32 0)) 46, row x.2 107 1 8 (ws (shaN A x.1)), row (.slice a4 A.length c4) 5 1 A.length (bys A), row v5 107 1 64 (ws KF)]) (fun x => A.length - 64 * x.1) (0, _) ⟨rfl, rfl, rfl, rfl, rfl, trivial⟩ ⟨Nat.zero_le _, hS⟩ ?_
  clear hS
  rintro ⟨j, v3⟩ w1 ⟨hj, hS⟩
  dsimp only at hj hS ⊢
  refine gW ?_
  (refine g_cd rfl (fun hc => ?_) (fun hc => ?_) <;> simp only [cmv, arv, Bool.not_eq_true', Bool.not_eq_false', decide_eq_true_eq, decide_eq_false_iff_not] at hc)
  ·obtain ⟨b4, cap4, rest4, e4, hcap4, hB4, hl4⟩ := row_blk hS 2 rfl (by omega)
   cases e4
   have hR4 : Rd (.slice (some ⟨b4, 0, none⟩) A.length c4) 5 1 A.length (bys A) w1 := Ow.rd (hS.ok 2 _ rfl)
   refine gW ?_
   refine g_rq rfl rfl (in64 (by simp only [arv]; omega)) ?_
   rw [show arv .add ((64 * j : Nat) : Int) 64 = ((64 * j + 64 : Nat) : Int) by simp only [arv]; omega]
   refine g_rq rfl rfl ⟨by omega, by omega, by omega, by omega⟩ ?_
   rw [Int.toNat_natCast, Int.toNat_natCast, Int.toNat_natCast]
   have hM := hR4.mid (x := .tmp 21) (i := 64 * j) (j := 64 * j + 64) (by omega) (by omega)
   rw [show 64 * j + 64 - 64 * j = 64 by omega, bys_drop, bys_take] at hM
   rw [show 64 * j + 64 - 64 * j = 64 by omega]
   refine gW ?_
   refine g_cl rfl rfl (r_turn (shaN_len A j) (by rw [List.length_take, List.length_drop]; omega) (Ow.rd (hS.ok 1 _ rfl)) hM (Ow.rd (hS.ok 3 _ rfl)) fun v6 w1 h' => ?_)
   replace hS := hS.call0.2 _ _ h'
   refine gW ?_
   refine g_rq rfl rfl (in64 (by simp only [arv]; omega)) ?_
   rw [show arv .add ((64 * j : Nat) : Int) 64 = ((64 * (j + 1) : Nat) : Int) by simp only [arv]; omega]
   refine gW ?_
   exact g_l (j + 1, v6) ⟨rfl, rfl, rfl, rfl, rfl, trivial⟩ ⟨by simp only; omega, hS.sel [0, 4, 2, 3] rfl rfl⟩ (by simp only; omega)
  ·have ej : A.length / 64 = j := by omega
   refine gW ?_
   refine g_jx v3 ⟨rfl, rfl, trivial⟩ ?_
   rw [ej]
   exact hS.sel [0, 1] rfl rfl
 clear hS
 rintro v3 T w1 hT hS
 refine g_wkc hT ?_
 have hs8 := shaN_len A (A.length / 64)
 generalize shaN A (A.length / 64) = S at hS hs8 esh
 obtain ⟨a3, c3, rfl⟩ := hS.rlen 1 rfl
 obtain ⟨b3, cap3, rest3, e3, hcap3, hB3, hl3⟩ := row_blk hS 1 rfl (by decide)
 cases e3
 refine gW ?_
 refine g_ef rfl (ef_al hS fun b7 w1 hS => ?_)
 refine g_ef0 rfl (ef_st hS 2 rfl rfl rfl rfl (Nat.le_refl _) rfl fun w1 hS => ?_)
 replace hS : St w (fun _ => False) w1 [cel b2 (bys (List.replicate 32 0)) 46, row (.slice (some ⟨b3, 0, none⟩) 8 c3) 107 1 8 (ws S), cel b7 (bys (List.replicate 32 0)) 46] := hS
 refine gW ?_
 refine g_lp (ι := Nat) (fun i => [(2, dp b2), (3, .slice (some ⟨b3, 0, none⟩) 8 c3), (7, dp b7), (8, .int .i64 i)]) (fun i w' => i ≤ 32 ∧ St w (fun _ => False) w' [cel b2 (bys (List.replicate 32 0)) 46, row (.slice (some ⟨b3, 0, none⟩) 8 c3) 107 1 8 (ws S), cel b7 (bys ((sha l).take i ++ List.replicate (32 - i) 0)) 46]) (fun i => 32 - i) 0 ⟨rfl, rfl, rfl, rfl, trivial⟩ ⟨Nat.zero_le _, hS⟩ ?_
 clear hS
 rintro i w1 ⟨hi, hS⟩
 refine gW ?_
 (refine g_cd rfl (fun hc => ?_) (fun hc => ?_) <;> simp only [cmv, arv, Bool.not_eq_true', Bool.not_eq_false', decide_eq_true_eq, decide_eq_false_iff_not] at hc)
 ·have hi32 : i < 32 := by omega
  have hRS : Rd (.slice (some ⟨b3, 0, none⟩) 8 c3) 107 1 8 (ws S) w1 := Ow.rd (hS.ok 1 _ rfl)
  obtain ⟨b, off, cap, lx, e, hcap, hlx, hxx, hb⟩ := hRS.block (by decide)
  cases e
  refine gW ?_
  refine g_rq rfl rfl (by decide) ?_
  rw [show (i : Int).tdiv 4 = ((i / 4 : Nat) : Int) by rw [Int.tdiv_eq_ediv_of_nonneg (by omega)]; omega]
  rw [show IntKind.i64.wrap ((i / 4 : Nat) : Int) = ((i / 4 : Nat) : Int) from wrap_in (in64 (by omega))]
  refine g_rq rfl rfl ⟨by omega, by omega⟩ ?_
  refine g_l1r rfl rfl hb (by rw [Int.toNat_natCast]; exact rdU (i := i / 4) hxx (by omega)) ?_
  refine gW ?_
  refine g_rq rfl rfl (by decide) ?_
  rw [show (i : Int).tmod 4 = ((i % 4 : Nat) : Int) by rw [Int.tmod_eq_emod_of_nonneg (by omega)]; omega]
  refine g_rq rfl rfl (in64 (by simp only [arv]; omega)) ?_
  refine g_rq rfl rfl (in64 (by simp only [arv]; omega)) ?_
  rw [show arv .sub 24 (arv .mul 8 ((i % 4 : Nat) : Int)) = ((24 - 8 * (i % 4) : Nat) : Int) by simp only [arv]; omega]
  refine gW ?_
  rw [u64n (n := 24 - 8 * (i % 4)) (by omega)]
  refine g_rq rfl rfl (by omega) ?_
  refine gW ?_
  rw [uR _ _ (by omega), uC]
  refine g_rq rfl rfl ⟨by omega, by omega⟩ ?_
  refine g_ef0 rfl (ef_st hS 2 rfl rfl rfl rfl (by rw [bys_length, List.length_append, List.length_take, List.length_replicate, sha_len, Int.toNat_natCast]; show 0 + i * 1 + 1 ≤ _; omega) rfl fun w1 hS => ?_)
  rw [Int.toNat_natCast] at hS
  replace hS := hS.ceq (l' := bys ((sha l).take (i + 1) ++ List.replicate (32 - (i + 1)) 0)) 2 rfl (by
   have h1 := bys_set ((sha l).take i ++ List.replicate (32 - i) 0) [] i ((sr (S.getD (i / 4) 0) (24 - 8 * (i % 4))).toUInt8) (by rw [List.length_append, List.length_take, List.length_replicate, sha_len]; omega)
   rw [List.append_nil, List.append_nil] at h1
   refine h1.trans ?_
   congr 1
   have hfa := four_at S i (by omega)
   rw [← esh, List.getElem?_eq_getElem (by rw [sha_len]; exact hi32)] at hfa
   rw [List.set_append_right _ _ (by rw [List.length_take]; omega), List.length_take, sha_len, Nat.min_eq_left (by omega), Nat.sub_self, show 32 - i = (32 - (i + 1)) + 1 by omega, List.replicate_succ, List.set_cons_zero, List.take_succ_eq_append_getElem (by rw [sha_len]; exact hi32), List.append_assoc, Option.some.inj hfa]
   rfl)
  refine gW ?_
  refine g_rq rfl rfl (in64 (by simp only [arv]; omega)) ?_
  refine gW ?_
  exact g_l (i + 1) ⟨rfl, rfl, rfl, rfl, trivial⟩ ⟨by omega, hS⟩ (by omega)
 ·have e : i = 32 := by omega
  subst e
  rw [List.take_of_length_le (by rw [sha_len]; omega), show 32 - 32 = 0 from rfl, List.replicate_zero, List.append_nil] at hS
  refine gW ?_
  refine g_lm rfl rfl (hS.b 2 rfl) (Nat.le_of_eq (by rw [l32])) ?_
  rw [List.drop_zero, List.take_of_length_le (Nat.le_of_eq l32)]
  refine g_ef0 rfl (ef_st hS 0 rfl rfl rfl l32 (by rw [bys_length, List.length_replicate]; decide) (bys_one _) fun w1 hS => ?_)
  replace hS := hS.ceq (l' := bys (sha l)) 0 rfl (spl_full _ _ (by show (bys (sha l)).length = _; rw [l32, bys_length, List.length_replicate]))
  refine gW ?_
  refine g_ret (q_c1 (n := 32) rfl (by kernel_rfl) (hS.b 0 rfl) (Nat.le_of_eq (by rw [l32])) ?_)
  rw [List.drop_zero, List.take_of_length_le (Nat.le_of_eq l32)]
  exact h _ (hS.sel [] rfl rfl)
end
def m90 : MC := .sq (.rg [.c 2 (.pointer none)]) (.sq (.rg [.t 3 0, .o 4 (.cl 103 [.tmp 3]), .o 5 (.bd [(1, .slice none 0 0)] [(0, 1, .tmp 4)]), .o 6 (.bx 219 (.tmp 5)), .t 2 6]) (.rt))
theorem k90 : Tryz.f90.body.any (fun c => chkC Tryz.prog c m90 && allD (dlt 7) m90) = true := by kernel_rfl
def m146 : MC := .sq (.rg [.c 4 (.slice none 0 0), .c 5 (.int .i64 0)]) (.sq (.bk 0 (.sq (.rg [.t 8 0, .o 9 (.pn .eql (.tmp 8)), .t 7 9]) (.cd (.tmp 7) (.sq (.rg [.c 4 (.slice none 0 0), .c 5 (.int .i64 1)]) (.rt)) (.sq (.rg [.t 11 1, .o 12 (.cm .lss (.tmp 11) (.const (.int .i64 0))), .t 10 12]) (.cd (.tmp 10) (.sq (.rg [.c 4 (.slice none 0 0), .c 5 (.int .i64 2)]) (.rt)) (.sq (.rg [.t 14 1, .t 15 0, .o 16 (.nc (.tmp 15)), .o 17 (.fa (.tmp 16) 0), .o 18 (.ld (.tmp 17) none), .o 19 (.ln false (.tmp 18)), .o 20 (.cm .gtr (.tmp 14) (.tmp 19)), .t 13 20]) (.cd (.tmp 13) (.sq (.rg [.c 4 (.slice none 0 0), .c 5 (.int .i64 10)]) (.rt)) (.sk)))))))) (.sq (.rg [.t 21 0, .o 22 (.nc (.tmp 21)), .o 23 (.fa (.tmp 22) 0), .o 24 (.ld (.tmp 23) none), .t 25 1, .o 26 (.sl (.tmp 24) none (some (.tmp 25)) none 1), .o 27 (.cl 103 [.tmp 26]), .t 6 27]) (.sq (.rg [.t 28 0, .t 29 0, .o 30 (.nc (.tmp 29)), .o 31 (.fa (.tmp 30) 0), .o 32 (.ld (.tmp 31) none), .t 33 1, .o 34 (.sl (.tmp 32) (some (.tmp 33)) none none 1), .o 35 (.nc (.tmp 28)), .o 36 (.fa (.tmp 35) 0), .e (.st (.tmp 36) (.tmp 34) 1)]) (.sq (.rg [.t 37 6, .t 4 37, .c 5 (.int .i64 0)]) (.rt)))))
theorem k146 : Tryz.f146.body.any (fun c => chkC Tryz.prog c m146 && allD (dlt 38) m146) = true := by kernel_rfl
def m147 : MC := .sq (.rg [.o 2 (.bx 166 (.tmp 0)), .o 3 (.bx 222 (.tmp 1)), .c 4 (.nilFunc)]) (.sq (.rg [.o 6 (.ld (.tmp 2) none), .o 7 (.nc (.tmp 6)), .o 8 (.fa (.tmp 7) 0), .o 9 (.ld (.tmp 8) none), .o 5 (.al [(1, .slice none 0 0)] 40), .e (.st (.tmp 5) (.tmp 9) 1)]) (.sq (.rg [.o 10 (.mf 173 [] [.tmp 3, .tmp 5, .tmp 2]), .t 4 10]) (.rt)))
theorem k147 : Tryz.f147.body.any (fun c => chkC Tryz.prog c m147 && allD (dlt 11) m147) = true := by kernel_rfl
def m173 : MC := .sq (.rg [.o 3 (.ld (.tmp 0) none), .o 4 (.nc (.tmp 3)), .o 5 (.ld (.tmp 4) none), .o 6 (.cm .neq (.tmp 5) (.const (.int .i64 0)))]) (.cd (.tmp 6) (.rg [.o 7 (.ld (.tmp 2) none), .o 8 (.ld (.tmp 1) none), .o 9 (.nc (.tmp 7)), .o 10 (.fa (.tmp 9) 0), .e (.st (.tmp 10) (.tmp 8) 1)]) (.sk))
theorem k173 : Tryz.f173.body.any (fun c => chkC Tryz.prog c m173 && allD (dlt 11) m173) = true := by kernel_rfl
def m148u0 : MC := .rg [.t 8 16]
def m148v0 : MC := .bk 1 (.sq (.rg [.t 17 8, .o 18 (.dv .rem .u8 (.tmp 17) (.const (.int .u8 128))), .o 19 (.ci .u64 (.tmp 18)), .t 9 19]) (.sq (.sq (.rg [.t 20 8, .o 21 (.cm .lss (.tmp 20) (.const (.int .u8 128))), .e (.st (.tmp 7) (.tmp 21) 1)]) (.sq (.rg [.o 22 (.ld (.tmp 6) none), .o 23 (.cm .eql (.tmp 22) (.const (.int .i64 9))), .t 24 23, .q 25 24 true (.mv (.tmp 9)), .q 26 24 true (.cm .gtr (.tmp 25) (.const (.int .u64 1))), .q 27 24 true (.mv (.tmp 26)), .q 28 27 false (.ld (.tmp 7) none), .q 29 27 false (.nt (.tmp 28)), .q 30 24 true (.pk (.tmp 27) (.const (.bool true)) (.tmp 29)), .o 31 (.pk (.tmp 24) (.tmp 30) (.const (.bool false))), .t 32 31, .q 33 32 false (.ld (.tmp 7) none), .q 34 32 false (.mv (.tmp 33)), .q 35 34 true (.mv (.tmp 9)), .q 36 34 true (.cm .eql (.tmp 35) (.const (.int .u64 0))), .q 37 32 false (.pk (.tmp 34) (.tmp 36) (.const (.bool false))), .q 38 32 false (.mv (.tmp 37)), .q 39 38 true (.ld (.tmp 6) none), .q 40 38 true (.cm .gtr (.tmp 39) (.const (.int .i64 0))), .q 41 32 false (.pk (.tmp 38) (.tmp 40) (.const (.bool false))), .o 42 (.pk (.tmp 32) (.const (.bool true)) (.tmp 41))]) (.cd (.tmp 42) (.sq (.rg [.e (.st (.tmp 4) (.const (.int .u64 0)) 1), .e (.st (.tmp 5) (.const (.int .i64 11)) 1)]) (.rt)) (.sk)))) (.sq (.dr [.o 43 (.ld (.tmp 4) none), .t 44 9, .o 45 (.ld (.tmp 6) none), .o 46 (.ar .mul .i64 (.const (.int .i64 7)) (.tmp 45) true), .o 47 (.sh .shl .u64 (.tmp 44) (.tmp 46)), .o 48 (.bt .or .u64 (.tmp 43) (.tmp 47)), .e (.st (.tmp 4) (.tmp 48) 1)] [0, 0, 0, 4, 14, 31, 63] (.q 0 (.q 1 (.q 2 (.q 3 (.q 4 (.q 5 (.e 6 [] (.fin))))))))) (.sq (.rg [.o 49 (.ld (.tmp 6) none), .o 50 (.ar .add .i64 (.tmp 49) (.const (.int .i64 1)) true), .e (.st (.tmp 6) (.tmp 50) 1)]) (.sq (.rg [.o 51 (.ld (.tmp 7) none)]) (.cd (.tmp 51) (.xt 0) (.sk)))))))
def m148 : MC := .sq (.rg [.o 4 (.al [(1, .int .u64 0)] 137), .o 5 (.al [(1, .int .i64 0)] 30)]) (.sc (.sq (.sq (.rg [.t 10 0, .o 11 (.pn .eql (.tmp 10))]) (.cd (.tmp 11) (.sq (.rg [.e (.st (.tmp 4) (.const (.int .u64 0)) 1), .e (.st (.tmp 5) (.const (.int .i64 1)) 1)]) (.rt)) (.sk))) (.sq (.rg [.t 12 0, .o 13 (.cl 147 [.tmp 12, .tmp 5]), .e (.df (.tmp 13) [])]) (.sq (.rg [.o 6 (.al [(1, .int .i64 0)] 3), .o 7 (.al [(1, .bool false)] 4), .e (.st (.tmp 6) (.const (.int .i64 0)) 1), .e (.st (.tmp 7) (.const (.bool false)) 1)]) (.sq (.lb 0) (.sq (.sq (.rg [.t 14 0, .o 15 (.cl 174 [.tmp 14])]) (.bk 0 (.rf (.tmp 15) [16] m148u0 m148v0))) (.sq (.bk 2 (.sq (.rg [.o 53 (.ld (.tmp 7) none), .o 54 (.nt (.tmp 53)), .t 52 54]) (.cd (.tmp 52) (.sq (.rg [.e (.st (.tmp 4) (.const (.int .u64 0)) 1), .e (.st (.tmp 5) (.const (.int .i64 10)) 1)]) (.rt)) (.sq (.rg [.o 56 (.ld (.tmp 4) none), .t 57 1, .o 58 (.cm .gtr (.tmp 56) (.tmp 57)), .t 55 58]) (.cd (.tmp 55) (.sq (.rg [.e (.st (.tmp 4) (.const (.int .u64 0)) 1), .e (.st (.tmp 5) (.const (.int .i64 12)) 1)]) (.rt)) (.sk)))))) (.sq (.rg [.o 59 (.ld (.tmp 4) none), .e (.st (.tmp 4) (.tmp 59) 1), .e (.st (.tmp 5) (.const (.int .i64 0)) 1)]) (.rt)))))))))
theorem k148 : Tryz.f148.body.any (fun c => chkC Tryz.prog c m148 && allD (dlt 60) m148) = true := by kernel_rfl
def m174 : MC := .sq (.rg [.o 1 (.bx 166 (.tmp 0)), .c 2 (.nilFunc)]) (.sq (.rg [.o 3 (.mf 184 [] [.tmp 1]), .t 2 3]) (.rt))
theorem k174 : Tryz.f174.body.any (fun c => chkC Tryz.prog c m174 && allD (dlt 4) m174) = true := by kernel_rfl
def m184 : MC := .bk 0 (.lp (.sq (.sq (.rg [.o 4 (.ld (.tmp 1) none), .o 5 (.nc (.tmp 4)), .o 6 (.fa (.tmp 5) 0), .o 7 (.ld (.tmp 6) none), .o 8 (.ln false (.tmp 7)), .o 9 (.cm .gtr (.tmp 8) (.const (.int .i64 0)))]) (.cd (.tmp 9) (.sk) (.xt 0))) (.bk 1 (.sq (.rg [.o 10 (.ld (.tmp 1) none), .o 11 (.nc (.tmp 10)), .o 12 (.fa (.tmp 11) 0), .o 13 (.ld (.tmp 12) none), .o 14 (.ias (.tmp 13) (.const (.int .i64 0)) 1), .o 15 (.ld (.tmp 14) none), .t 3 15]) (.sq (.dr [.o 16 (.ld (.tmp 1) none), .o 17 (.ld (.tmp 1) none), .o 18 (.nc (.tmp 17)), .o 19 (.fa (.tmp 18) 0), .o 20 (.ld (.tmp 19) none), .o 21 (.sl (.tmp 20) (some (.const (.int .i64 1))) none none 1), .o 22 (.nc (.tmp 16)), .o 23 (.fa (.tmp 22) 0), .e (.st (.tmp 23) (.tmp 21) 1)] [0, 0, 2, 6, 14, 30, 63, 127, 255] (.q 0 (.q 1 (.q 2 (.q 3 (.q 4 (.q 5 (.q 6 (.q 7 (.e 8 [] (.fin))))))))))) (.sq (.rg [.t 24 0, .t 25 3, .o 26 (.cv (.tmp 24) [.tmp 25]), .o 27 (.nt (.tmp 26))]) (.cd (.tmp 27) (.rt) (.sk))))))))
theorem k184 : Tryz.f184.body.any (fun c => chkC Tryz.prog c m184 && allD (dlt 28) m184) = true := by kernel_rfl
def m94 : MC := .sq (.rg [.c 4 (.slice none 0 0), .o 5 (.al [(1, .int .i64 0)] 30)]) (.sq (.sq (.rg [.t 7 0, .o 8 (.pn .eql (.tmp 7))]) (.cd (.tmp 8) (.sq (.rg [.c 4 (.slice none 0 0), .e (.st (.tmp 5) (.const (.int .i64 1)) 1)]) (.rt)) (.sk))) (.sq (.rg [.t 9 0, .o 10 (.cl 147 [.tmp 9, .tmp 5]), .e (.df (.tmp 10) [])]) (.sq (.rg [.t 12 0, .t 13 1, .o 14 (.mm true (.const (.int .i64 0)) (.tmp 13)), .o 15 (.ci .u64 (.tmp 14)), .o 16 (.cl 148 [.tmp 12, .tmp 15]), .t 11 16, .o 17 (.ex (.tmp 11) 0), .o 18 (.ex (.tmp 11) 1), .t 6 17, .e (.st (.tmp 5) (.tmp 18) 1)]) (.sq (.sq (.rg [.o 19 (.ld (.tmp 5) none), .o 20 (.cm .neq (.tmp 19) (.const (.int .i64 0)))]) (.cd (.tmp 20) (.sq (.dr [.o 21 (.ld (.tmp 5) none), .c 4 (.slice none 0 0), .e (.st (.tmp 5) (.tmp 21) 1)] [0, 0, 3] (.q 0 (.q 1 (.e 2 [] (.fin))))) (.rt)) (.sk))) (.sq (.rg [.t 22 0, .t 23 6, .o 24 (.ci .i64 (.tmp 23)), .o 25 (.cl 146 [.tmp 22, .tmp 24]), .o 26 (.ex (.tmp 25) 0), .o 27 (.ex (.tmp 25) 1), .t 4 26, .e (.st (.tmp 5) (.tmp 27) 1)]) (.rt))))))
theorem k94 : Tryz.f94.body.any (fun c => chkC Tryz.prog c m94 && allD (dlt 28) m94) = true := by kernel_rfl
def m99 : MC := .sq (.rg [.c 2 (.int .i64 0)]) (.sq (.sq (.rg [.t 3 0, .o 4 (.pn .eql (.tmp 3))]) (.cd (.tmp 4) (.sq (.rg [.c 2 (.int .i64 0)]) (.rt)) (.sk))) (.sq (.rg [.t 5 0, .o 6 (.nc (.tmp 5)), .o 7 (.fa (.tmp 6) 0), .o 8 (.ld (.tmp 7) none), .o 9 (.ln false (.tmp 8)), .t 2 9]) (.rt)))
theorem k99 : Tryz.f99.body.any (fun c => chkC Tryz.prog c m99 && allD (dlt 10) m99) = true := by kernel_rfl
def m104 : MC := .sq (.rg [.c 4 (.slice none 0 0), .c 5 (.int .i64 0)]) (.sq (.sq (.rg [.t 7 1, .o 8 (.cm .lss (.tmp 7) (.const (.int .i64 0)))]) (.cd (.tmp 8) (.sq (.rg [.c 4 (.slice none 0 0), .c 5 (.int .i64 2)]) (.rt)) (.sk))) (.sq (.sq (.rg [.t 9 1, .t 10 0, .o 11 (.nc (.tmp 10)), .o 12 (.fa (.tmp 11) 0), .o 13 (.ld (.tmp 12) none), .o 14 (.ln false (.tmp 13)), .o 15 (.cm .gtr (.tmp 9) (.tmp 14))]) (.cd (.tmp 15) (.sq (.rg [.c 4 (.slice none 0 0), .c 5 (.int .i64 10)]) (.rt)) (.sk))) (.sq (.rg [.t 16 0, .o 17 (.nc (.tmp 16)), .o 18 (.fa (.tmp 17) 0), .o 19 (.ld (.tmp 18) none), .t 20 1, .o 21 (.sl (.tmp 19) none (some (.tmp 20)) none 1), .o 22 (.cl 34 [.tmp 21]), .t 6 22]) (.sq (.rg [.t 23 0, .t 24 0, .o 25 (.nc (.tmp 24)), .o 26 (.fa (.tmp 25) 0), .o 27 (.ld (.tmp 26) none), .t 28 1, .o 29 (.sl (.tmp 27) (some (.tmp 28)) none none 1), .o 30 (.nc (.tmp 23)), .o 31 (.fa (.tmp 30) 0), .e (.st (.tmp 31) (.tmp 29) 1)]) (.sq (.rg [.t 32 6, .t 4 32, .c 5 (.int .i64 0)]) (.rt))))))
theorem k104 : Tryz.f104.body.any (fun c => chkC Tryz.prog c m104 && allD (dlt 33) m104) = true := by kernel_rfl
def m105 : MC := .sq (.rg [.c 4 (.slice none 0 0), .c 5 (.int .i64 0)]) (.sq (.rg [.t 11 0, .o 12 (.nc (.tmp 11)), .o 13 (.fa (.tmp 12) 0), .o 14 (.ld (.tmp 13) none), .t 6 14]) (.sq (.sq (.rg [.t 15 1, .o 16 (.cm .lss (.tmp 15) (.const (.int .i64 0)))]) (.cd (.tmp 16) (.rg [.c 1 (.int .i64 0)]) (.sk))) (.sq (.rg [.t 18 0, .t 19 1, .o 20 (.ci .u64 (.tmp 19)), .o 21 (.cl 106 [.tmp 18, .tmp 20]), .t 17 21, .o 22 (.ex (.tmp 17) 0), .o 23 (.ex (.tmp 17) 1), .t 7 22, .t 8 23]) (.sq (.sq (.rg [.t 24 8, .o 25 (.cm .neq (.tmp 24) (.const (.int .i64 0)))]) (.cd (.tmp 25) (.sq (.rg [.t 26 8, .c 4 (.slice none 0 0), .t 5 26]) (.rt)) (.sk))) (.sq (.rg [.t 28 0, .t 29 7, .o 30 (.ci .i64 (.tmp 29)), .o 31 (.cl 104 [.tmp 28, .tmp 30]), .t 27 31, .o 32 (.ex (.tmp 27) 0), .o 33 (.ex (.tmp 27) 1), .t 9 32, .t 10 33]) (.sq (.sq (.rg [.t 34 10, .o 35 (.cm .neq (.tmp 34) (.const (.int .i64 0)))]) (.cd (.tmp 35) (.rg [.t 36 0, .t 37 6, .o 38 (.nc (.tmp 36)), .o 39 (.fa (.tmp 38) 0), .e (.st (.tmp 39) (.tmp 37) 1)]) (.sk))) (.sq (.rg [.t 40 9, .t 41 10, .t 4 40, .t 5 41]) (.rt))))))))
theorem k105 : Tryz.f105.body.any (fun c => chkC Tryz.prog c m105 && allD (dlt 42) m105) = true := by kernel_rfl
def m106 : MC := .sq (.rg [.c 4 (.int .u64 0), .c 5 (.int .i64 0)]) (.sq (.rg [.t 9 0, .o 10 (.nc (.tmp 9)), .o 11 (.fa (.tmp 10) 0), .o 12 (.ld (.tmp 11) none), .o 13 (.cl 154 [.tmp 12]), .t 6 13]) (.sq (.sq (.rg [.t 14 6, .o 15 (.cm .eql (.tmp 14) (.const (.int .i64 0))), .t 16 15, .q 17 16 true (.mv (.tmp 0)), .q 18 16 true (.nc (.tmp 17)), .q 19 16 true (.fa (.tmp 18) 0), .q 20 16 true (.ld (.tmp 19) none), .q 21 16 true (.ln false (.tmp 20)), .q 22 16 true (.cm .lss (.tmp 21) (.const (.int .i64 10))), .o 23 (.pk (.tmp 16) (.tmp 22) (.const (.bool false)))]) (.cd (.tmp 23) (.sq (.rg [.c 4 (.int .u64 0), .c 5 (.int .i64 10)]) (.rt)) (.sk))) (.sq (.sq (.rg [.t 24 6, .o 25 (.cm .eql (.tmp 24) (.const (.int .i64 0))), .t 26 25, .q 27 26 false (.mv (.tmp 6)), .q 28 26 false (.cm .gtr (.tmp 27) (.const (.int .i64 10))), .o 29 (.pk (.tmp 26) (.const (.bool true)) (.tmp 28))]) (.cd (.tmp 29) (.sq (.rg [.c 4 (.int .u64 0), .c 5 (.int .i64 11)]) (.rt)) (.sk))) (.sq (.rg [.c 7 (.int .u64 0)]) (.sq (.sq (.rg [.t 30 6, .o 31 (.ar .sub .i64 (.tmp 30) (.const (.int .i64 1)) true), .t 8 31]) (.bk 0 (.lp (.sq (.sq (.rg [.t 32 8, .o 33 (.cm .geq (.tmp 32) (.const (.int .i64 0)))]) (.cd (.tmp 33) (.sk) (.xt 0))) (.sq (.bk 1 (.rg [.t 36 7, .o 37 (.ar .mul .u64 (.const (.int .u64 128)) (.tmp 36) false), .t 38 0, .o 39 (.nc (.tmp 38)), .o 40 (.fa (.tmp 39) 0), .o 41 (.ld (.tmp 40) none), .t 42 8, .o 43 (.ias (.tmp 41) (.tmp 42) 1), .o 44 (.ld (.tmp 43) none), .o 45 (.dv .rem .u8 (.tmp 44) (.const (.int .u8 128))), .o 46 (.ci .u64 (.tmp 45)), .o 47 (.ar .add .u64 (.tmp 37) (.tmp 46) false), .t 7 47])) (.rg [.t 34 8, .o 35 (.ar .sub .i64 (.tmp 34) (.const (.int .i64 1)) true), .t 8 35])))))) (.sq (.sq (.dr [.t 48 7, .o 49 (.cl 155 [.tmp 48]), .o 50 (.bs (.tmp 49)), .t 51 0, .o 52 (.nc (.tmp 51)), .o 53 (.fa (.tmp 52) 0), .o 54 (.ld (.tmp 53) none), .t 55 6, .o 56 (.sl (.tmp 54) none (some (.tmp 55)) none 1), .o 57 (.bs (.tmp 56)), .o 58 (.se .neq (.tmp 50) (.tmp 57))] [0, 1, 3, 0, 8, 24, 56, 0, 248, 504, 1023] (.q 0 (.q 3 (.q 4 (.q 5 (.q 6 (.q 7 (.q 8 (.q 9 (.e 1 [6, 9] (.q 2 (.q 10 (.fin))))))))))))) (.cd (.tmp 58) (.sq (.rg [.c 4 (.int .u64 0), .c 5 (.int .i64 11)]) (.rt)) (.sk))) (.sq (.sq (.rg [.t 59 7, .t 60 1, .o 61 (.cm .gtr (.tmp 59) (.tmp 60))]) (.cd (.tmp 61) (.sq (.rg [.c 4 (.int .u64 0), .c 5 (.int .i64 12)]) (.rt)) (.sk))) (.sq (.rg [.t 62 0, .t 63 0, .o 64 (.nc (.tmp 63)), .o 65 (.fa (.tmp 64) 0), .o 66 (.ld (.tmp 65) none), .t 67 6, .o 68 (.sl (.tmp 66) (some (.tmp 67)) none none 1), .o 69 (.nc (.tmp 62)), .o 70 (.fa (.tmp 69) 0), .e (.st (.tmp 70) (.tmp 68) 1)]) (.sq (.rg [.t 71 7, .t 4 71, .c 5 (.int .i64 0)]) (.rt))))))))))
theorem k106 : Tryz.f106.body.any (fun c => chkC Tryz.prog c m106 && allD (dlt 72) m106) = true := by kernel_rfl
def m154 : MC := .sq (.rg [.c 2 (.int .i64 0)]) (.sq (.sq (.rg [.c 3 (.int .i64 0)]) (.bk 0 (.lp (.sq (.sq (.rg [.t 4 3, .t 5 0, .o 6 (.ln false (.tmp 5)), .o 7 (.cm .lss (.tmp 4) (.tmp 6))]) (.cd (.tmp 7) (.sk) (.xt 0))) (.sq (.bk 1 (.sq (.rg [.t 10 0, .t 11 3, .o 12 (.ias (.tmp 10) (.tmp 11) 1), .o 13 (.ld (.tmp 12) none), .o 14 (.cm .lss (.tmp 13) (.const (.int .u8 128)))]) (.cd (.tmp 14) (.sq (.rg [.t 15 3, .o 16 (.ar .add .i64 (.tmp 15) (.const (.int .i64 1)) true), .t 2 16]) (.rt)) (.sk)))) (.rg [.t 8 3, .o 9 (.ar .add .i64 (.tmp 8) (.const (.int .i64 1)) true), .t 3 9])))))) (.sq (.rg [.c 2 (.int .i64 0)]) (.rt)))
theorem k154 : Tryz.f154.body.any (fun c => chkC Tryz.prog c m154 && allD (dlt 17) m154) = true := by kernel_rfl
def m155 : MC := .sq (.rg [.c 2 (.slice none 0 0)]) (.sq (.rg [.c 3 (.slice none 0 0)]) (.sq (.bk 0 (.lp (.sq (.sq (.rg [.t 4 0, .o 5 (.cm .geq (.tmp 4) (.const (.int .u64 128)))]) (.cd (.tmp 5) (.sk) (.xt 0))) (.bk 1 (.sq (.rg [.t 6 3, .t 7 0, .o 8 (.dv .rem .u64 (.tmp 7) (.const (.int .u64 128))), .o 9 (.ar .add .u64 (.const (.int .u64 128)) (.tmp 8) false), .o 10 (.ci .u8 (.tmp 9)), .o 11 (.bl 5 1 [.tmp 10]), .o 12 (.ap 5 1 1 [(1, .int .u8 0)] (.tmp 6) (.tmp 11)), .t 3 12]) (.rg [.t 13 0, .o 14 (.dv .quo .u64 (.tmp 13) (.const (.int .u64 128))), .t 0 14])))))) (.sq (.rg [.t 15 3, .t 16 0, .o 17 (.ci .u8 (.tmp 16)), .o 18 (.bl 5 1 [.tmp 17]), .o 19 (.ap 5 1 1 [(1, .int .u8 0)] (.tmp 15) (.tmp 18)), .t 2 19]) (.rt))))
theorem k155 : Tryz.f155.body.any (fun c => chkC Tryz.prog c m155 && allD (dlt 20) m155) = true := by kernel_rfl
def m159 : MC := .sq (.rg [.c 2 (.slice none 0 0)]) (.sq (.rg [.t 3 0, .o 4 (.ln false (.tmp 3)), .o 5 (.ci .u64 (.tmp 4)), .o 6 (.cl 155 [.tmp 5]), .t 7 0, .o 8 (.ap 5 1 1 [(1, .int .u8 0)] (.tmp 6) (.tmp 7)), .t 2 8]) (.rt))
theorem k159 : Tryz.f159.body.any (fun c => chkC Tryz.prog c m159 && allD (dlt 9) m159) = true := by kernel_rfl
def SubV (v0 : Value) (all : Bs) (v : Value) (bs : Bs) : Prop := Pl v ∧ ∀ w, Rd v0 5 1 all.length (bys all) w → Rd v 5 1 bs.length (bys bs) w
def SrcR (s0 : Nat) (v0 : Value) (all : Bs) (v : Value) : List Res := [cel s0 [v] 219, rdR v0 5 1 all.length (bys all)]
theorem SubV.drop {v0 : Value} {all bs : Bs} {a : Option Addr} {n c k : Nat} {x : Operand} {w : World} (h : SubV v0 all (.slice a n c) bs) (hr : Rd v0 5 1 all.length (bys all) w) (hk : k ≤ n) :
  ∃ a', SubV v0 all (.slice a' (n - k) (c - k)) (bs.drop k) ∧ ∀ {T : TT} {y z : Operand} {q : IntKind}, ev T y = some (.slice a n c) → ev T z = some (.int q (k : Int)) → pev T (.sl y (some z) none none 1) = .rq (0 ≤ (k : Int) ∧ (k : Int) ≤ (n : Int) ∧ (n : Int) ≤ (c : Int) ∧ (c : Int) ≤ (c : Int)) (.slice a' (n - k) (c - k)) := by
 have hn : n = bs.length := by
  obtain ⟨a', c', e⟩ := (h.2 w hr).form
  cases e; rfl
 subst hn
 cases a with
 | none =>
  have h0 : bs.length = 0 := by
   rcases h.2 w hr with ⟨_, h0, _⟩ | ⟨b, off, cap, l, e, _⟩
   ·exact h0
   ·cases e
  have e0 : bs = [] := List.eq_nil_of_length_eq_zero h0
  subst e0
  have k0 : k = 0 := by simpa using hk
  subst k0
  refine ⟨none, ⟨?_, fun w hw => ?_⟩, fun {T y z q} hy hz => ?_⟩
  ·intro y o s n c e; cases e
  ·have := h.2 w hw; simpa using this
  ·unfold pev; simp only [hy, bnd, hz]; rfl
 | some ad =>
  obtain ⟨b, off, sp⟩ := ad
  cases sp with
  | some s => exact (h.1 b off s _ _ rfl).elim
  | none =>
   refine ⟨some ⟨b, slo (some x) off c k 1, none⟩, ⟨?_, fun w hw => ?_⟩, fun {T y z q} hy hz => ?_⟩
   ·intro y o s n c e; cases e
   ·have := (h.2 w hw).drop (x := x) (k := k) hk
    rw [List.length_drop, ← bys_drop]
    exact this
   ·unfold pev
    simp only [hy, bnd, hz, Int.toNat_natCast]
    rfl
section
variable {w w0 : World} {S0 : Nat → Prop} {L B : List Res} {K : Value → World → Prop} {s : Bs} {E0 E1 E2 : Nat}
theorem b_From {v : Value} {n : Nat} {l : Bs} (hl : l.length = n) (hn : n < 100000000000) (hr : Rd v E0 1 n (bys l) w) (h : ∀ s0 v' w', SubV v' l v' l → St w (fun _ => False) w' (SrcR s0 v' l v') → K (dp s0) w') : CK Tryz.prog 90 [v] w K := by
 have hS := St.nil w (fun _ => False)
 refine call_k Tryz.func90 k90 Tryz.ntmps90 (Nat.le_of_ble_eq_true rfl) ?_
 refine gW ?_
 refine g_cl rfl rfl (b_CloneB hl hn hr fun v1 w1 hS => ?_)
 subst hl
 have hp := row_pl (hS.ok 0 _ rfl)
 obtain ⟨a, c, rfl⟩ := hS.rlen 0 rfl
 refine gW ?_
 refine g_ef rfl (ef_bx hS rfl fun s0 w1 hS => ?_)
 replace hS := hS.conv (r' := rdR (.slice a l.length c) 5 1 l.length (bys l)) 0 rfl (fun b hb => vb_vo hb) (Ow.rd (hS.ok 0 _ rfl))
 refine gW ?_
 exact g_ret (q_1 rfl (h _ _ _ ⟨hp, fun w h => h⟩ (hS.sel [1, 0] rfl rfl)))
theorem b_Raw {s0 : Nat} {v0 v : Value} {all bs : Bs} {n : Nat} (hv : SubV v0 all v bs) (hb : bs.length < 1000000000) (hn : n < 1000000000) (hS : St w0 S0 w (SrcR s0 v0 all v))
  (h1 : bs.length < n → ∀ w', St w0 S0 w' (SrcR s0 v0 all v) → K (.tuple ⟨[.slice none 0 0, .int .i64 10]⟩) w')
  (h2 : n ≤ bs.length → ∀ v' u w', SubV v0 all v' (bs.drop n) → St w0 S0 w' (SrcR s0 v0 all v' ++ [row u 5 1 n (bys (bs.take n))]) → K (.tuple ⟨[u, .int .i64 0]⟩) w') : CK Tryz.prog 146 [dp s0, .int .i64 (n : Int)] w K := by
 have hR0 : Rd v0 5 1 all.length (bys all) w := hS.ok 1 _ rfl
 have hR := hv.2 w hR0
 obtain ⟨a, c, rfl⟩ := hR.form
 have hc := hR.cap
 refine call_k Tryz.func146 k146 Tryz.ntmps146 (Nat.le_of_ble_eq_true rfl) ?_
 refine gW ?_
 refine g_l1 rfl rfl (hS.b  0 rfl) rfl ?_
 refine gW ?_
 refine g_cd rfl (fun hq => ?_) (fun hq => ?_) <;> (simp only [cmv, arv, Bool.not_eq_true', Bool.not_eq_false', decide_eq_true_eq, decide_eq_false_iff_not] at hq)
 ·refine gW ?_
  exact g_ret (q_2 rfl rfl (h1 (by omega) _ hS))
 have hle : n ≤ bs.length := by omega
 refine gW ?_
 refine g_l1 rfl rfl (hS.b  0 rfl) rfl ?_
 refine gW ?_
 have hsl : ∀ {T : TT} {y z : Operand}, ev T y = some (.slice a bs.length c) → ev T z = some (.int .i64 (n : Int)) → pev T (.sl y none (some z) none 1) = .rq (0 ≤ (0 : Int) ∧ (0 : Int) ≤ (n : Int) ∧ (n : Int) ≤ (c : Int) ∧ (c : Int) ≤ (c : Int)) (.slice a n c) := fun {T y z} hy hz => by
  cases a with
  | none => unfold pev; simp only [hy, bnd, hz]; rfl
  | some ad =>
   obtain ⟨b, off, sp⟩ := ad
   cases sp with
   | some s => exact (hv.1 b off s _ _ rfl).elim
   | none => unfold pev; simp only [hy, bnd, hz]; rfl
 refine g_rq rfl (hsl rfl rfl) ⟨by decide, by omega, by omega, Int.le_refl _⟩ ?_
 have hR2 : Rd (.slice a n c) 5 1 n (bys (bs.take n)) w := by
  have := hR.head hle
  rwa [bys_take] at this
 refine g_cl rfl rfl (b_CloneB (l := bs.take n) (by rw [List.length_take]; omega) (by omega) hR2 fun u w1 h' => ?_)
 replace hS := hS.call0.2 _ _ h'
 clear h'
 obtain ⟨a', hv', hsl'⟩ := hv.drop (x := .tmp 1) (k := n) hR0 hle
 refine gW ?_
 refine g_l1 rfl rfl (hS.b  0 rfl) rfl ?_
 refine gW ?_
 refine g_rq rfl (hsl' rfl rfl) ⟨by omega, by omega, by omega, Int.le_refl _⟩ ?_
 refine gW ?_
 refine g_ef0 rfl (ef_st hS 0 rfl rfl rfl rfl (Nat.le_refl _) rfl fun w1 hS => ?_)
 refine gW ?_
 exact g_ret (q_2 rfl rfl (h2 hle _ _ _ hv' hS))
theorem b_Left {s0 : Nat} {v0 v : Value} {all bs : Bs} (hv : SubV v0 all v bs) (hS : St w0 S0 w (SrcR s0 v0 all v)) (h : K (.int .i64 (bs.length : Int)) w) : CK Tryz.prog 99 [dp s0] w K := by
 obtain ⟨a, c, rfl⟩ := (hv.2 w (hS.ok 1 _ rfl)).form
 refine call_k Tryz.func99 k99 Tryz.ntmps99 (Nat.le_of_ble_eq_true rfl) ?_
 refine gW ?_
 refine g_l1 rfl rfl (hS.b  0 rfl) rfl ?_
 refine gW ?_
 exact g_ret (q_1 rfl h)
theorem b_back {s0 b5 : Nat} {v : Value} (hv1 : v.oneCell' = true) (hvc : v.cells.toList = [v]) {i : Nat} (hi : L[i]? = some (cel s0 [v] 219)) (hS : St w0 S0 w L) (h : ∀ b2 b3 bw w', St w0 S0 w' (L ++ [cel b2 [dp s0] 166, cel b3 [dp b5] 222, cel bw [v] 40]) → K (.func (.func 173) ⟨[]⟩ ⟨[dp b3, dp bw, dp b2]⟩) w') : CK Tryz.prog 147 [dp s0, dp b5] w K := by
 refine call_k Tryz.func147 k147 Tryz.ntmps147 (Nat.le_of_ble_eq_true rfl) ?_
 refine gW ?_
 refine g_ef rfl (ef_bx hS rfl fun b2 w1 hS => ?_)
 refine gW ?_
 refine g_ef rfl (ef_bx hS rfl fun b3 w1 hS => ?_)
 replace hS : St w0 S0 w1 (L ++ [cel b2 [dp s0] 166] ++ [cel b3 [dp b5] 222]) := hS
 refine gW ?_
 refine g_l1 rfl rfl (hS.b L.length (getA getL)) rfl ?_
 refine gW ?_
 refine g_l1 rfl rfl (hS.b i (getA (getA hi))) rfl ?_
 refine g_ef rfl (ef_al hS fun bw w1 hS => ?_)
 refine g_ef0 rfl (ef_st hS (L ++ [cel b2 [dp s0] 166] ++ [cel b3 [dp b5] 222]).length getL rfl rfl (by rw [hvc]; rfl) (Nat.le_refl _) (by rw [hvc]; simpa using hv1) fun w1 hS => ?_)
 rw [setL, hvc] at hS
 replace hS : St w0 S0 w1 (L ++ [cel b2 [dp s0] 166] ++ [cel b3 [dp b5] 222] ++ [cel bw [v] 40]) := hS
 refine gW ?_
 refine g_ret (q_1 rfl (h b2 b3 bw _ ?_))
 simpa using hS
theorem bd_back {s0 b2 b3 b5 bw : Nat} {v was : Value} {e : Int} {i2 i3 i5 iw i : Nat} {K : World → Prop} (hw1 : was.oneCell' = true) (hwc : was.cells.toList = [was]) (hS : St w0 S0 w L) (hi : L[i]? = some (cel s0 [v] 219)) (h2 : L[i2]? = some (cel b2 [dp s0] 166)) (h3 : L[i3]? = some (cel b3 [dp b5] 222)) (h5 : L[i5]? = some (cel b5 [.int .i64 e] E0)) (hw : L[iw]? = some (cel bw [was] 40))
  (k0 : e = 0 → K w) (k1 : e ≠ 0 → ∀ w', St w0 S0 w' (L.set i (cel s0 [was] 219)) → K w') : CKD Tryz.prog 173 ⟨[dp b3, dp bw, dp b2]⟩ w K := by
 refine ckd_k Tryz.func173 k173 Tryz.ntmps173 rfl (Nat.le_of_ble_eq_true rfl) ?_
 refine gW ?_
 refine g_l1 rfl rfl (hS.b i3 h3) rfl ?_
 refine gW ?_
 refine g_l1 rfl rfl (hS.b i5 h5) rfl ?_
 refine gW ?_
 refine g_cd rfl (fun hq => ?_) (fun hq => ?_) <;> (simp only [cmv, arv, Bool.not_eq_true', Bool.not_eq_false', decide_eq_true_eq, decide_eq_false_iff_not] at hq)
 ·refine gW ?_
  refine g_l1 rfl rfl (hS.b i2 h2) rfl ?_
  refine gW ?_
  refine g_l1 rfl rfl (hS.b iw hw) rfl ?_
  refine gW ?_
  refine g_ef0 rfl (ef_st hS i hi rfl rfl (by rw [hwc]; rfl) (Nat.le_refl _) (by rw [hwc]; simpa using hw1) fun w1 hS => ?_)
  rw [hwc] at hS
  refine gW ?_
  exact qd_n (k1 (by simpa using hq) _ hS)
 ·refine gW ?_
  exact qd_n (k0 (by simpa using hq))
end
def low (b : Bs) (i : Nat) : Nat := (b.getD i 0).toNat % 128
def valN (b : Bs) : Nat → Nat
 | 0 => 0
 | k + 1 => valN b k + low b k * 128 ^ k
def fin (b : Bs) : Option Nat := b.findIdx? fun c => decide (c.toNat < 128)
def numE (b : Bs) : Int := match fin b with
 | none => if b.length < 10 then 10 else 11
 | some k => if 9 < k ∨ (k = 9 ∧ 1 < low b 9) ∨ (0 < k ∧ low b k = 0) then 11 else 0
def numN (b : Bs) : Nat := match fin b with | some k => valN b (k + 1) | none => 0
def numK (b : Bs) : Nat := match fin b with | some k => k + 1 | none => 0
def numEM (b : Bs) (most : Nat) : Int := if numE b ≠ 0 then numE b else if most < numN b then 12 else 0
theorem low_lt (b : Bs) (i : Nat) : low b i < 128 := Nat.mod_lt _ (by decide)
theorem valN_lt (b : Bs) : ∀ k, valN b k < 128 ^ k
 | 0 => by simp [valN]
 | k + 1 => by
  have h1 := valN_lt b k
  have h2 := low_lt b k
  have h3 : low b k * 128 ^ k ≤ 127 * 128 ^ k := Nat.mul_le_mul_right _ (by omega)
  rw [valN, Nat.pow_succ]
  omega
theorem fin_some {b : Bs} {k : Nat} (hk : k < b.length) (h1 : (b.getD k 0).toNat < 128) (h2 : ∀ i, i < k → 128 ≤ (b.getD i 0).toNat) : fin b = some k := by
 unfold fin
 rw [List.findIdx?_eq_some_iff_getElem]
 refine ⟨hk, ?_, fun j hj => ?_⟩
 ·rw [List.getD_eq_getElem?_getD, List.getElem?_eq_getElem hk] at h1
  simpa using h1
 ·have := h2 j hj
  rw [List.getD_eq_getElem?_getD, List.getElem?_eq_getElem (by omega)] at this
  simpa using this
theorem fin_none {b : Bs} (h : ∀ i, i < b.length → 128 ≤ (b.getD i 0).toNat) : fin b = none := by
 unfold fin
 rw [List.findIdx?_eq_none_iff]
 intro x hx
 obtain ⟨i, hi, rfl⟩ := List.mem_iff_getElem.1 hx
 have := h i hi
 rw [List.getD_eq_getElem?_getD, List.getElem?_eq_getElem hi] at this
 simpa using this
theorem fin_lt {b : Bs} {k : Nat} (h : fin b = some k) : k < b.length ∧ (b.getD k 0).toNat < 128 ∧ ∀ i, i < k → 128 ≤ (b.getD i 0).toNat := by
 unfold fin at h
 rw [List.findIdx?_eq_some_iff_getElem] at h
 obtain ⟨hk, h1, h2⟩ := h
 refine ⟨hk, ?_, fun i hi => ?_⟩
 ·rw [List.getD_eq_getElem?_getD, List.getElem?_eq_getElem hk]; simpa using h1
 ·rw [List.getD_eq_getElem?_getD, List.getElem?_eq_getElem (by omega)]; simpa using h2 i hi
theorem numE_9 {b : Bs} (hl : 9 < b.length) (h2 : ∀ i, i < 9 → 128 ≤ (b.getD i 0).toNat) (h : 1 < low b 9 ∨ 128 ≤ (b.getD 9 0).toNat) : numE b = 11 := by
 unfold numE
 cases hf : fin b with
 | none => exact if_neg (by omega)
 | some k =>
  obtain ⟨h3, h4, h5⟩ := fin_lt hf
  have hk : 9 ≤ k := by
   by_cases e : k < 9
   ·have := h2 k e; omega
   ·omega
  refine if_pos ?_
  by_cases e : k = 9
  ·subst e
   rcases h with h | h
   ·exact .inr (.inl ⟨rfl, h⟩)
   ·omega
  ·exact .inl (by omega)
theorem lo128 (c : UInt8) : IntKind.u64.wrap ((c.toNat : Int).tmod 128) = ((c.toNat % 128 : Nat) : Int) := by
 rw [Int.tmod_eq_emod_of_nonneg (by omega)]
 rw [show (c.toNat : Int) % 128 = ((c.toNat % 128 : Nat) : Int) by omega]
 exact wrap_in (k := .u64) ⟨by show (0 : Int) ≤ _; omega, by show _ ≤ (18446744073709551615 : Int); omega⟩
theorem or7 {a c m : Nat} (hm : m ≤ 9) (ha : a < 128 ^ m) (hc : c < 128) (h9 : m = 9 → c ≤ 1) : btv .or .u64 (a : Int) (shv .shl .u64 (c : Int) (7 * (m : Int))) = ((a + c * 128 ^ m : Nat) : Int) := by
 have hp : (128 : Nat) ^ m = 2 ^ (7 * m) := by rw [show (128 : Nat) = 2 ^ 7 from rfl, ← Nat.pow_mul]
 have hb : 2 ^ (7 * m) * c < 2 ^ 64 := by
  by_cases e : m = 9
  ·subst e
   have := h9 rfl
   have : 2 ^ (7 * 9) * c ≤ 2 ^ (7 * 9) * 1 := Nat.mul_le_mul_left _ this
   omega
  ·have h1 : 2 ^ (7 * m) ≤ 2 ^ 56 := Nat.pow_le_pow_right (by decide) (by omega)
   have h2 : 2 ^ (7 * m) * c ≤ 2 ^ 56 * 127 := Nat.mul_le_mul h1 (by omega)
   omega
 rw [hp] at ha
 have ha64 : a < 2 ^ 64 := by
  have : (2 : Nat) ^ (7 * m) ≤ 2 ^ 63 := Nat.pow_le_pow_right (by decide) (by omega)
  omega
 have hs : shv .shl .u64 (c : Int) (7 * (m : Int)) = ((2 ^ (7 * m) * c : Nat) : Int) := by
  show IntKind.u64.wrap ((c : Int) * 2 ^ (min (7 * (m : Int)).toNat IntKind.u64.bits)) = _
  have e : min (7 * (m : Int)).toNat IntKind.u64.bits = 7 * m := by
   have : IntKind.u64.bits = 64 := rfl
   rw [this]; omega
  have e2 : (c : Int) * 2 ^ (7 * m) = ((2 ^ (7 * m) * c : Nat) : Int) := by push_cast; rw [Int.mul_comm]
  rw [e, e2]
  exact wrap_in (k := .u64) ⟨by show (0 : Int) ≤ _; exact Int.natCast_nonneg _, by show _ ≤ (18446744073709551615 : Int); omega⟩
 rw [hs]
 show IntKind.u64.wrap (((BitVec.ofInt 64 (a : Int) ||| BitVec.ofInt 64 ((2 ^ (7 * m) * c : Nat) : Int)).toNat : Nat) : Int) = _
 have hsum : a + 2 ^ (7 * m) * c < 2 ^ 64 := by
  have h3 := Nat.or_lt_two_pow ha64 hb
  rw [Nat.or_comm, ← Nat.two_pow_add_eq_or_of_lt ha] at h3
  omega
 rw [BitVec.ofInt_natCast, BitVec.ofInt_natCast, BitVec.toNat_or, BitVec.toNat_ofNat, BitVec.toNat_ofNat, Nat.mod_eq_of_lt ha64, Nat.mod_eq_of_lt hb, Nat.or_comm, ← Nat.two_pow_add_eq_or_of_lt ha, Nat.add_comm, hp, Nat.mul_comm c]
 exact wrap_in (k := .u64) ⟨by show (0 : Int) ≤ _; exact Int.natCast_nonneg _, by show _ ≤ (18446744073709551615 : Int); omega⟩
theorem q_cc {P : Program} {a ty b a2 ty2 b2 : Nat} {l l2 : List Value} {E E' : TypeId} {T : TT} {w : World} {K : Value → World → Prop} {v v2 : Value} (ht : lk T a = some (dp b)) (h1 : rdAs P ty none = true) (hb : Blk w b l E) (hv : l[0]? = some v)
  (ht2 : lk T a2 = some (dp b2)) (h2 : rdAs P ty2 none = true) (hb2 : Blk w b2 l2 E') (hv2 : l2[0]? = some v2) (h : K (.tuple ⟨[v, v2]⟩) w) : QF P [.cell a ty, .cell a2 ty2] K .ret T [] w :=
 ⟨[v, v2], ⟨_, v, [v2], ht, run_load1 h1 hb.r hv, ⟨_, v2, [], ht2, run_load1 h2 hb2.r hv2, rfl, rfl⟩, rfl⟩, h⟩
theorem q_tc {P : Program} {t a2 ty2 b2 : Nat} {l2 : List Value} {E' : TypeId} {T : TT} {w : World} {K : Value → World → Prop} {v v2 : Value} (ht : lk T t = some v)
  (ht2 : lk T a2 = some (dp b2)) (h2 : rdAs P ty2 none = true) (hb2 : Blk w b2 l2 E') (hv2 : l2[0]? = some v2) (h : K (.tuple ⟨[v, v2]⟩) w) : QF P [.tmp t, .cell a2 ty2] K .ret T [] w :=
 ⟨[v, v2], ⟨v, [v2], ht, ⟨_, v2, [], ht2, run_load1 h2 hb2.r hv2, rfl, rfl⟩, rfl⟩, h⟩
section
variable {w w0 : World} {S0 : Nat → Prop} {L B : List Res} {K : Value → World → Prop} {s : Bs} {E0 E1 E2 : Nat}
theorem b_next {s0 : Nat} (h : ∀ bx w', St w (fun _ => False) w' [cel bx [dp s0] 166] → K (.func (.func 184) ⟨[]⟩ ⟨[dp bx]⟩) w') : CK Tryz.prog 174 [dp s0] w K := by
 have hS := St.nil w (fun _ => False)
 refine call_k Tryz.func174 k174 Tryz.ntmps174 (Nat.le_of_ble_eq_true rfl) ?_
 refine gW ?_
 refine g_ef rfl (ef_bx hS rfl fun b1 w1 hS => ?_)
 refine gW ?_
 exact g_ret (q_1 rfl (h _ _ hS))
theorem d_next {ι : Type} {Ls : Value → ι → List Res} {Inv : Nat → ι → Prop} {s0 bx l i j : Nat} {v0 v : Value} {all bs : Bs} (hv : SubV v0 all v bs) (hb : bs.length < 1000000000)
  (hi : ∀ v σ, (Ls v σ)[i]? = some (cel bx [dp s0] 166)) (hj : ∀ v σ, (Ls v σ)[j]? = some (cel s0 [v] 219)) (hset : ∀ v v' σ, (Ls v σ).set j (cel s0 [v'] 219) = Ls v' σ)
  (hr : ∀ v σ w, St w0 S0 w (Ls v σ) → Rd v0 5 1 all.length (bys all) w) {σ0 : ι} (h0 : Inv 0 σ0) (hS : St w0 S0 w (Ls v σ0))
  (hy : ∀ (k : Nat) (hk : k < bs.length) (v' : Value) (σ : ι) (w : World), SubV v0 all v' (bs.drop (k + 1)) → Inv k σ → St w0 S0 w (Ls v' σ) → Yd Tryz.prog l [.int .u8 ((bs.getD k 0).toNat : Int)] w fun u w' => (u = .bool true ∧ ∃ σ', Inv (k + 1) σ' ∧ St w0 S0 w' (Ls v' σ')) ∨ (u = .bool false ∧ K (.tuple ⟨[]⟩) w'))
  (he : ∀ v' σ w, Inv bs.length σ → St w0 S0 w (Ls v' σ) → K (.tuple ⟨[]⟩) w) : CK Tryz.prog 184 [.func (.yield l) ⟨[]⟩ ⟨[]⟩, dp bx] w K := by
 refine call_k Tryz.func184 k184 Tryz.ntmps184 (Nat.le_of_ble_eq_true rfl) ?_
 refine gW ?_
 refine g_lp (ι := Nat × Value × ι) (fun x => [(0, .func (.yield l) ⟨[]⟩ ⟨[]⟩), (1, dp bx)]) (fun x w => x.1 ≤ bs.length ∧ SubV v0 all x.2.1 (bs.drop x.1) ∧ Inv x.1 x.2.2 ∧ St w0 S0 w (Ls x.2.1 x.2.2)) (fun x => bs.length - x.1) (0, v, σ0) ⟨rfl, rfl, trivial⟩ ⟨Nat.zero_le _, hv, h0, hS⟩ ?_
 clear hS h0 hv
 rintro ⟨k, v1, σ⟩ w ⟨hk, hv, hI, hS⟩
 dsimp only at hk hv hI hS ⊢
 have hR := hv.2 w (hr _ _ _ hS)
 obtain ⟨a, c, rfl⟩ := hR.form
 refine gW ?_
 refine g_l1 rfl rfl (hS.b i (hi _ σ)) rfl ?_
 refine gW ?_
 refine g_l1 rfl rfl (hS.b j (hj _ σ)) rfl ?_
 refine gW ?_
 (refine g_cd rfl (fun hc => ?_) (fun hc => ?_) <;> simp only [cmv, arv, Bool.not_eq_true', Bool.not_eq_false', decide_eq_true_eq, decide_eq_false_iff_not] at hc)
 ·have hk2 : k < bs.length := by rw [List.length_drop] at hc; omega
  have hcap := hR.cap
  obtain ⟨b, off, cap, lx, e, hcp, hlx, hxx, hbb⟩ := hR.block (by rw [List.length_drop]; omega)
  cases e
  have e0 : (bs.drop k).getD 0 0 = bs.getD k 0 := by
   rw [List.getD_eq_getElem?_getD, List.getElem?_drop, Nat.add_zero, List.getD_eq_getElem?_getD]
  refine gW ?_
  refine g_l1 rfl rfl (hS.b i (hi _ σ)) rfl ?_
  refine gW ?_
  refine g_l1 rfl rfl (hS.b j (hj _ σ)) rfl ?_
  refine g_rq rfl rfl ⟨by decide, by rw [List.length_drop]; omega⟩ ?_
  refine g_l1r rfl rfl hbb (rdB (i := 0) hxx (by rw [List.length_drop]; omega)) ?_
  rw [e0]
  refine gW ?_
  obtain ⟨a', hv', hsl⟩ := hv.drop (x := .tmp 0) (k := 1) (hr _ _ _ hS) (by rw [List.length_drop]; omega)
  rw [List.drop_drop] at hv'
  refine g_dr mixed ?_
  replace hS := hS.drew
  refine d_l1 rfl rfl rfl (hS.b i (hi _ σ)) rfl ?_
  refine d_l1 rfl rfl rfl (hS.b i (hi _ σ)) rfl ?_
  refine gD ?_
  refine d_l1 rfl rfl rfl (hS.b j (hj _ σ)) rfl ?_
  refine d_rq rfl rfl (hsl rfl rfl) ⟨by omega, by rw [List.length_drop]; omega, by omega, Int.le_refl _⟩ ?_
  refine gD ?_
  refine d_e0 rfl rfl ?_
  refine ef_st hS j (hj _ σ) rfl rfl rfl (Nat.le_refl _) rfl fun w hS => ⟨rc_0, ?_⟩
  replace hS : St w0 S0 w (Ls (.slice a' ((bs.drop k).length - 1) (c - 1)) σ) := by
   have := hset (.slice (some ⟨b, off, none⟩) (bs.drop k).length c) (.slice a' ((bs.drop k).length - 1) (c - 1)) σ
   rw [← this]
   exact hS
  refine d_fin ?_
  refine gW ?_
  refine g_ef rfl (ef_yd (vs := [.int .u8 ((bs.getD k 0).toNat : Int)]) rfl rfl ((hy k hk2 _ σ _ hv' hI hS).mono ?_))
  rintro u w (⟨rfl, σ', hI', hS⟩ | ⟨rfl, hK⟩)
  ·refine gW ?_
   exact g_l (k + 1, _, σ') ⟨rfl, rfl, trivial⟩ ⟨by simp only; omega, hv', hI', hS⟩ (by simp only; omega)
  ·refine gW ?_
   exact g_ret (q_0 hK)
 ·have e : k = bs.length := by rw [List.length_drop] at hc; omega
  subst e
  refine gW ?_
  exact q_n (he _ σ _ hI hS)
end
section
variable {w w0 : World} {S0 : Nat → Prop} {L B : List Res} {K : Value → World → Prop} {s : Bs} {E0 E1 E2 : Nat}
def NumL (s0 b2 b3 b4 b5 bw : Nat) (v0 : Value) (all : Bs) (v v' : Value) (nn : Nat) (e : Int) (L : List Res) : List Res :=
 cel s0 [v'] 219 :: rdR v0 5 1 all.length (bys all) :: cel b4 [.int .u64 (nn : Int)] 137 :: cel b5 [.int .i64 e] 30 :: cel b2 [dp s0] 166 :: cel b3 [dp b5] 222 :: cel bw [v] 40 :: L
theorem k_numE {T : TT} {b2 b3 b4 b5 bw s0 dB : Nat} {v0 v v' : Value} {all : Bs} {nn : Nat} {e : Int} {M : List Res} {i : Nat} (he : e ≠ 0) (hv1 : v.oneCell' = true) (hvc : v.cells.toList = [v]) (h4 : lk T 4 = some (dp b4)) (h5 : lk T 5 = some (dp b5)) (hS : St w0 S0 w (NumL s0 b2 b3 b4 b5 bw v0 all v v' nn e M)) (hM : M[i]? = some (obj dB (.deferred (some []))))
  (h : ∀ w', St w0 S0 w' (SrcR s0 v0 all v) → K (.tuple ⟨[.int .u64 (nn : Int), .int .i64 e]⟩) w') : QF Tryz.prog [.cell 4 137, .cell 5 30] K .ret T [⟨.collected dB, #[]⟩, ⟨.fn (.func 173) ⟨[dp b3, dp bw, dp b2]⟩, ⟨[]⟩ ++ ⟨[]⟩⟩] w := by
 refine q_dr hS (i + 7) hM fun w hS => ?_
 refine q_df ?_
 refine bd_back (i := 0) (i2 := 4) (i3 := 5) (i5 := 3) (iw := 6) hv1 hvc hS rfl rfl rfl rfl rfl (fun h0 => absurd h0 he) fun _ w hS => ?_
 refine q_cc h4 (by kernel_rfl) (hS.b 2 rfl) rfl h5 (by kernel_rfl) (hS.b 3 rfl) rfl (h _ (hS.sel [0, 1] rfl rfl))
theorem k_num0 {T : TT} {b2 b3 b4 b5 bw s0 dB : Nat} {v0 v v' : Value} {all : Bs} {nn : Nat} {M : List Res} {i : Nat} (hv1 : v.oneCell' = true) (hvc : v.cells.toList = [v]) (h4 : lk T 4 = some (dp b4)) (h5 : lk T 5 = some (dp b5)) (hS : St w0 S0 w (NumL s0 b2 b3 b4 b5 bw v0 all v v' nn 0 M)) (hM : M[i]? = some (obj dB (.deferred (some []))))
  (h : ∀ w', St w0 S0 w' (SrcR s0 v0 all v') → K (.tuple ⟨[.int .u64 (nn : Int), .int .i64 0]⟩) w') : QF Tryz.prog [.cell 4 137, .cell 5 30] K .ret T [⟨.collected dB, #[]⟩, ⟨.fn (.func 173) ⟨[dp b3, dp bw, dp b2]⟩, ⟨[]⟩ ++ ⟨[]⟩⟩] w := by
 refine q_dr hS (i + 7) hM fun w hS => ?_
 refine q_df ?_
 refine bd_back (i := 0) (i2 := 4) (i3 := 5) (i5 := 3) (iw := 6) hv1 hvc hS rfl rfl rfl rfl rfl (fun _ => ?_) fun h0 => absurd rfl h0
 refine q_cc h4 (by kernel_rfl) (hS.b 2 rfl) rfl h5 (by kernel_rfl) (hS.b 3 rfl) rfl (h _ (hS.sel [0, 1] rfl rfl))
set_option maxHeartbeats 2000000 in
theorem b_Number {s0 : Nat} {v0 v : Value} {all bs : Bs} {most : Nat} (hv : SubV v0 all v bs) (hb : bs.length < 1000000000) (hS : St w0 S0 w (SrcR s0 v0 all v))
  (h1 : numEM bs most ≠ 0 → ∀ w', St w0 S0 w' (SrcR s0 v0 all v) → K (.tuple ⟨[.int .u64 0, .int .i64 (numEM bs most)]⟩) w')
  (h2 : numEM bs most = 0 → ∀ v' w', SubV v0 all v' (bs.drop (numK bs)) → St w0 S0 w' (SrcR s0 v0 all v') → K (.tuple ⟨[.int .u64 (numN bs : Int), .int .i64 0]⟩) w') : CK Tryz.prog 148 [dp s0, .int .u64 (most : Int)] w K := by
 have hvf : v.oneCell' = true ∧ v.cells.toList = [v] := by
  obtain ⟨a, c, rfl⟩ := (hv.2 w (hS.ok 1 _ rfl)).form
  exact ⟨rfl, rfl⟩
 have bad : ∀ {e : Int}, e ≠ 0 → numE bs = e → ∀ w', St w0 S0 w' (SrcR s0 v0 all v) → K (.tuple ⟨[.int .u64 ((0 : Nat) : Int), .int .i64 e]⟩) w' := fun {e} he h w' hS => by
  have e1 : numEM bs most = e := by unfold numEM; rw [h, if_pos he]
  rw [← e1]
  exact h1 (by rw [e1]; exact he) w' hS
 refine call_k Tryz.func148 k148 Tryz.ntmps148 (Nat.le_of_ble_eq_true rfl) ?_
 refine gW ?_
 refine g_ef rfl (ef_al hS fun b4 w1 hS => ?_)
 refine g_ef rfl (ef_al hS fun b5 w1 hS => ?_)
 refine gW ?_
 refine g_sc rfl ?_
 refine gW ?_
 refine g_cl rfl rfl (b_back (b5 := b5) (i := 0) hvf.1 hvf.2 rfl hS fun b2 b3 bw w1 hS => ?_)
 refine g_df rfl rfl rfl ?_
 refine gW ?_
 refine g_ef rfl (ef_al hS fun b6 w1 hS => ?_)
 refine g_ef rfl (ef_al hS fun b7 w1 hS => ?_)
 refine g_ef0 rfl (ef_st hS 7 rfl rfl rfl rfl (Nat.le_refl _) rfl fun w1 hS => ?_)
 refine g_ef0 rfl (ef_st hS 8 rfl rfl rfl rfl (Nat.le_refl _) rfl fun w1 hS => ?_)
 refine gW ?_
 refine g_cl rfl rfl (b_next fun bx w1 h' => ?_)
 replace hS := hS.call0.2 _ _ h'
 clear h'
 replace hS : St w0 S0 w1 (NumL s0 b2 b3 b4 b5 bw v0 all v v (valN bs 0) 0 [cel b6 [.int .i64 ((0 : Nat) : Int)] 3, cel b7 [.bool false] 4, cel bx [dp s0] 166]) := hS
 refine gW ?_
 refine g_atd 2 [(1, .int .u64 (most : Int)), (4, dp b4), (5, dp b5), (7, dp b7)] (fun D1 w' => ∃ dB v' q nn, D1 = [⟨.collected dB, #[]⟩, ⟨.fn (.func 173) ⟨[dp b3, dp bw, dp b2]⟩, ⟨[]⟩ ++ ⟨[]⟩⟩] ∧ (q = false → numE bs = 10) ∧ (q = true → numE bs = 0 ∧ SubV v0 all v' (bs.drop (numK bs)) ∧ nn = numN bs) ∧
  St w0 S0 w' (NumL s0 b2 b3 b4 b5 bw v0 all v v' nn 0 [cel b7 [.bool q] 4, obj dB (.deferred (some []))])) rfl ?_ ?_
 ·refine g_wkc (T' := [(15, .func (.func 184) ⟨[]⟩ ⟨[dp bx]⟩), (1, .int .u64 (most : Int)), (4, dp b4), (5, dp b5), (6, dp b6), (7, dp b7)]) ⟨rfl, rfl, rfl, rfl, rfl, rfl, trivial⟩ ?_
  refine g_rf (cap := [dp bx]) (first := []) hS rfl (callFunc_of Tryz.func184 rfl rfl) fun l dB w2 hS => ?_
  refine d_next (ι := Nat) (Ls := fun v' m => NumL s0 b2 b3 b4 b5 bw v0 all v v' (valN bs m) 0 [cel b6 [.int .i64 (m : Int)] 3, cel b7 [.bool false] 4, cel bx [dp s0] 166, obj dB (.deferred (some [])), _]) (Inv := fun k m => m = k ∧ k ≤ 9 ∧ ∀ i, i < k → 128 ≤ (bs.getD i 0).toNat) (i := 9) (j := 0) hv hb (fun v σ => rfl) (fun v σ => rfl) (fun v v' σ => rfl) (fun v σ w hS => hS.ok 1 _ rfl) (σ0 := 0) ⟨rfl, by omega, fun i hi => absurd hi (Nat.not_lt_zero i)⟩ hS ?_ ?_
  ·clear hS
   rintro k hk v' σ w2 hv' ⟨hI, hk9, hI2⟩ hS
   have e : k = σ := Eq.symm hI
   subst e
   have lw : low bs k = (bs.getD k 0).toNat % 128 := rfl
   generalize hC : bs.getD k 0 = C at lw
   refine yd_of hS 11 rfl rfl ?_
   refine gW ?_
   refine ⟨rfl, _, _, hS, rfl, fun w2 hS => ?_⟩
   refine gW ?_
   refine g_rq rfl rfl (by decide) ?_
   refine gW ?_
   rw [lo128, ← lw]
   refine gW ?_
   refine g_ef0 rfl (ef_st hS 8 rfl rfl rfl rfl (Nat.le_refl _) rfl fun w2 hS => ?_)
   generalize hW : cmv BinOp.lss (C.toNat : Int) 128 = W at hS
   have hW' : W = decide (C.toNat < 128) := by rw [← hW]; simp only [cmv]; exact decide_eq_decide.2 (by omega)
   replace hS : St w0 S0 w2 (NumL s0 b2 b3 b4 b5 bw v0 all v v' (valN bs k) 0 [cel b6 [.int .i64 (k : Int)] 3, cel b7 [.bool W] 4, cel bx [dp s0] 166, obj dB (.deferred (some [])), _]) := hS
   refine g_r0 ?_
   refine g_sq ?_
   refine g_atx (ι := Bool) 1 (fun q => [(4, dp b4), (5, dp b5), (6, dp b6), (7, dp b7), (9, .int .u64 (low bs k : Int)), (42, .bool q)]) (fun q w' => (q = true ↔ (k = 9 ∧ (1 < low bs k ∨ 128 ≤ C.toNat)) ∨ (C.toNat < 128 ∧ low bs k = 0 ∧ 0 < k)) ∧ w' = w2) rfl ?_ ?_
   ·refine gW ?_
    refine g_l1 rfl rfl (hS.b  7 rfl) rfl ?_
    refine gW ?_
    have fin42 : ∀ (q : Bool), (q = true ↔ (k = 9 ∧ (1 < low bs k ∨ 128 ≤ C.toNat)) ∨ (C.toNat < 128 ∧ low bs k = 0 ∧ 0 < k)) → (q = true ↔ (k = 9 ∧ (1 < low bs k ∨ 128 ≤ C.toNat)) ∨ (C.toNat < 128 ∧ low bs k = 0 ∧ 0 < k)) ∧ w2 = w2 := fun q h => ⟨h, rfl⟩
    have hlow := low_lt bs k
    refine g_sp (t := 24) rfl fun q1 hq1 => ?_
    have hq1 : q1 = decide (k = 9) := by rw [← hq1]; simp only [cmv]; exact decide_eq_decide.2 (by omega)
    by_cases k9 : k = 9
    ·rw [decide_eq_true k9] at hq1
     subst hq1
     refine gW ?_
     refine g_sp (t := 27) rfl fun q2 hq2 => ?_
     have hq2 : q2 = decide (1 < low bs k) := by rw [← hq2]; simp only [cmv]; exact decide_eq_decide.2 (by omega)
     by_cases l1 : 1 < low bs k
     ·rw [decide_eq_true l1] at hq2
      subst hq2
      refine gW ?_
      exact g_jx true ⟨rfl, rfl, rfl, rfl, rfl, rfl, trivial⟩ (fin42 _ ⟨fun _ => .inl ⟨k9, .inl l1⟩, fun _ => rfl⟩)
     ·rw [decide_eq_false l1] at hq2
      subst hq2
      refine gW ?_
      refine g_l1 rfl rfl (hS.b  8 rfl) rfl ?_
      refine gW ?_
      by_cases cw : C.toNat < 128
      ·rw [hW', decide_eq_true cw]
       refine gW ?_
       refine g_l1 rfl rfl (hS.b  8 rfl) rfl ?_
       rw [hW', decide_eq_true cw]
       refine gW ?_
       refine g_sp (t := 38) rfl fun q3 hq3 => ?_
       have hq3 : q3 = decide (low bs k = 0) := by rw [← hq3]; simp only [cmv]; exact decide_eq_decide.2 (by omega)
       by_cases l0 : low bs k = 0
       ·rw [decide_eq_true l0] at hq3
        subst hq3
        refine gW ?_
        refine g_l1 rfl rfl (hS.b  7 rfl) rfl ?_
        refine gW ?_
        refine g_jx (decide (0 < k)) ⟨rfl, rfl, rfl, rfl, rfl, ?_, trivial⟩ (fin42 _ ?_)
        ·show some (Value.bool (cmv BinOp.gtr (k : Int) 0)) = _
         rw [show cmv BinOp.gtr (k : Int) 0 = decide (0 < k) by simp only [cmv]; exact decide_eq_decide.2 (by omega)]
        ·rw [decide_eq_true_eq]
         constructor
         ·intro h; exact .inr ⟨cw, l0, h⟩
         ·rintro (⟨h, h'⟩ | h)
          ·omega
          ·exact h.2.2
       ·rw [decide_eq_false l0] at hq3
        subst hq3
        refine gW ?_
        refine g_jx false ⟨rfl, rfl, rfl, rfl, rfl, rfl, trivial⟩ (fin42 _ ⟨nofun, ?_⟩)
        rintro (⟨h, h'⟩ | h)
        ·omega
        ·exact absurd h.2.1 l0
      ·rw [hW', decide_eq_false cw]
       refine gW ?_
       exact g_jx true ⟨rfl, rfl, rfl, rfl, rfl, rfl, trivial⟩ (fin42 _ ⟨fun _ => .inl ⟨k9, .inr (by omega)⟩, fun _ => rfl⟩)
    ·rw [decide_eq_false k9] at hq1
     subst hq1
     refine gW ?_
     by_cases cw : C.toNat < 128
     ·refine g_l1 rfl rfl (hS.b  8 rfl) rfl ?_
      rw [hW', decide_eq_true cw]
      refine gW ?_
      refine g_sp (t := 38) rfl fun q3 hq3 => ?_
      have hq3 : q3 = decide (low bs k = 0) := by rw [← hq3]; simp only [cmv]; exact decide_eq_decide.2 (by omega)
      by_cases l0 : low bs k = 0
      ·rw [decide_eq_true l0] at hq3
       subst hq3
       refine gW ?_
       refine g_l1 rfl rfl (hS.b  7 rfl) rfl ?_
       refine gW ?_
       refine g_jx (decide (0 < k)) ⟨rfl, rfl, rfl, rfl, rfl, ?_, trivial⟩ (fin42 _ ?_)
       ·show some (Value.bool (cmv BinOp.gtr (k : Int) 0)) = _
        rw [show cmv BinOp.gtr (k : Int) 0 = decide (0 < k) by simp only [cmv]; exact decide_eq_decide.2 (by omega)]
       ·rw [decide_eq_true_eq]
        constructor
        ·intro h; exact .inr ⟨cw, l0, h⟩
        ·rintro (⟨h, h'⟩ | h)
         ·exact absurd h k9
         ·exact h.2.2
      ·rw [decide_eq_false l0] at hq3
       subst hq3
       refine gW ?_
       refine g_jx false ⟨rfl, rfl, rfl, rfl, rfl, rfl, trivial⟩ (fin42 _ ⟨nofun, ?_⟩)
       rintro (⟨h, h'⟩ | h)
       ·exact absurd h k9
       ·exact absurd h.2.1 l0
     ·refine g_l1 rfl rfl (hS.b  8 rfl) rfl ?_
      rw [hW', decide_eq_false cw]
      refine gW ?_
      refine g_jx false ⟨rfl, rfl, rfl, rfl, rfl, rfl, trivial⟩ (fin42 _ ⟨nofun, ?_⟩)
      rintro (⟨h, h'⟩ | h)
      ·exact absurd h k9
      ·exact absurd h.1 cw
   ·rintro q T w3 hT ⟨hq, rfl⟩
    refine g_wkc hT ?_
    cases q with
    | true =>
     have hbad := hq.1 rfl
     have hE : numE bs = 11 := by
      rcases hbad with ⟨h9, h⟩ | ⟨h1, h2, h3⟩
      ·subst h9
       exact numE_9 (by omega) (fun i hi => hI2 i hi) (by rw [hC]; exact h)
      ·unfold numE
       rw [fin_some hk (by rw [hC]; exact h1) hI2]
       exact if_pos (.inr (.inr ⟨h3, h2⟩))
     refine gW ?_
     refine g_ef0 rfl (ef_st hS 2 rfl rfl rfl rfl (Nat.le_refl _) rfl fun w2 hS => ?_)
     refine g_ef0 rfl (ef_st hS 3 rfl rfl rfl rfl (Nat.le_refl _) rfl fun w2 hS => ?_)
     replace hS : St w0 S0 w2 (NumL s0 b2 b3 b4 b5 bw v0 all v v' 0 11 [cel b6 [.int .i64 (k : Int)] 3, cel b7 [.bool W] 4, cel bx [dp s0] 166, obj dB (.deferred (some [])), _]) := hS
     refine gW ?_
     refine g_rt ?_
     refine k_ret ?_
     refine ⟨_, _, hS, rfl, fun w2 hS => .inr ⟨rfl, ?_⟩⟩
     refine ⟨_, 11, _, _, hS, rfl, (fun h => nomatch h), fun w2 hS => ?_⟩
     refine k_ret (k_numE (i := 3) (by decide) hvf.1 hvf.2 rfl rfl hS rfl (bad (by decide) hE))
    | false =>
     have hnb := fun h => Bool.false_ne_true (hq.2 h)
     have h9 : k = 9 → low bs k ≤ 1 := fun h => by
      by_cases e : 1 < low bs k
      ·exact (hnb (.inl ⟨h, .inl e⟩)).elim
      ·omega
     refine gW ?_
     refine g_dr mixed ?_
     replace hS := hS.drew
     refine d_l1 rfl rfl rfl (hS.b 2 rfl) rfl ?_
     refine gD ?_
     refine d_l1 rfl rfl rfl (hS.b 7 rfl) rfl ?_
     refine d_rq rfl rfl rfl (in64 (by simp only [arv]; omega)) ?_
     refine d_rq rfl rfl rfl (by simp only [arv]; omega) ?_
     rw [show arv .mul 7 (k : Int) = 7 * (k : Int) by rfl]
     refine gD ?_
     rw [or7 hk9 (valN_lt bs k) (low_lt bs k) h9]
     refine d_e0 rfl rfl ?_
     refine ef_st hS 2 rfl rfl rfl rfl (Nat.le_refl _) rfl fun w2 hS => ⟨rc_0, ?_⟩
     refine d_fin ?_
     refine gW ?_
     refine g_l1 rfl rfl (hS.b  7 rfl) rfl ?_
     refine g_rq rfl rfl (in64 (by simp only [arv]; omega)) ?_
     rw [show arv .add (k : Int) 1 = ((k + 1 : Nat) : Int) by simp only [arv]; omega]
     refine g_ef0 rfl (ef_st hS 7 rfl rfl rfl rfl (Nat.le_refl _) rfl fun w2 hS => ?_)
     refine gW ?_
     refine g_l1 rfl rfl (hS.b  8 rfl) rfl ?_
     replace hS : St w0 S0 w2 (NumL s0 b2 b3 b4 b5 bw v0 all v v' (valN bs (k + 1)) 0 [cel b6 [.int .i64 ((k + 1 : Nat) : Int)] 3, cel b7 [.bool W] 4, cel bx [dp s0] 166, obj dB (.deferred (some [])), _]) := hS
     refine gW ?_
     by_cases cw : C.toNat < 128
     ·rw [decide_eq_true cw] at hW'
      subst hW'
      have hf := fin_some hk (by rw [hC]; exact cw) hI2
      have hE : numE bs = 0 := by
       unfold numE
       rw [hf]
       refine if_neg ?_
       rintro (h | ⟨h, h'⟩ | ⟨h, h'⟩)
       ·omega
       ·have := h9 h; subst h; omega
       ·exact hnb (.inr ⟨cw, h', h⟩)
      refine gW ?_
      refine g_xt (k_xo rfl ?_)
      refine ⟨_, _, hS, rfl, fun w2 hS => .inr ⟨rfl, ?_⟩⟩
      refine ⟨_, 11, _, _, hS, rfl, (fun h => nomatch h), fun w2 hS => ?_⟩
      refine k_xt rfl (g_jd ⟨rfl, rfl, rfl, rfl, trivial⟩ ⟨dB, v', true, valN bs (k + 1), rfl, nofun, fun _ => ⟨hE, ?_, ?_⟩, hS.sel [0, 1, 2, 3, 4, 5, 6, 8, 10] rfl rfl⟩)
      ·unfold numK; rw [hf]; exact hv'
      ·unfold numN; rw [hf]
     ·rw [decide_eq_false cw] at hW'
      subst hW'
      have hk8 : k < 9 := by
       by_cases e : k = 9
       ·exact (hnb (.inl ⟨e, .inr (by omega)⟩)).elim
       ·omega
      refine gW ?_
      refine ⟨_, _, hS.sel [0, 1, 2, 3, 4, 5, 6, 7, 8, 9, 10, 11] rfl rfl, rfl, fun w2 hS => .inl ⟨rfl, k + 1, ⟨rfl, by omega, fun i hi => ?_⟩, hS⟩⟩
      by_cases e : i = k
      ·subst e; rw [hC]; omega
      ·exact hI2 i (by omega)
  ·clear hS
   rintro v' σ w2 ⟨hI, hk9, hI2⟩ hS
   have e : bs.length = σ := Eq.symm hI
   subst e
   refine ⟨_, 11, _, _, hS, rfl, (fun h => nomatch h), fun w2 hS => ?_⟩
   refine g_b (g_jd ⟨rfl, rfl, rfl, rfl, trivial⟩ ⟨dB, v', false, valN bs bs.length, rfl, fun _ => ?_, nofun, hS.sel [0, 1, 2, 3, 4, 5, 6, 8, 10] rfl rfl⟩)
   unfold numE
   rw [fin_none hI2]
   exact if_pos (by omega)
 ·clear hS
  rintro T D1 w1 hT ⟨dB, v', q, nn, rfl, hq0, hq1, hS⟩
  refine g_wkc hT ?_
  refine gW ?_
  refine g_l1 rfl rfl (hS.b  7 rfl) rfl ?_
  cases q with
  | false =>
   refine gW ?_
   refine g_ef0 rfl (ef_st hS 2 rfl rfl rfl rfl (Nat.le_refl _) rfl fun w2 hS => ?_)
   refine g_ef0 rfl (ef_st hS 3 rfl rfl rfl rfl (Nat.le_refl _) rfl fun w2 hS => ?_)
   replace hS : St w0 S0 w2 (NumL s0 b2 b3 b4 b5 bw v0 all v v' 0 10 [cel b7 [.bool false] 4, obj dB (.deferred (some []))]) := hS
   refine gW ?_
   exact g_ret (k_numE (i := 1) (by decide) hvf.1 hvf.2 rfl rfl hS rfl (bad (by decide) (hq0 rfl)))
  | true =>
   obtain ⟨hE, hv', rfl⟩ := hq1 rfl
   refine gW ?_
   refine g_l1 rfl rfl (hS.b  2 rfl) rfl ?_
   refine gW ?_
   (refine g_cd rfl (fun hc => ?_) (fun hc => ?_) <;> simp only [cmv, arv, Bool.not_eq_true', Bool.not_eq_false', decide_eq_true_eq, decide_eq_false_iff_not] at hc)
   ·have eM : numEM bs most = 12 := by unfold numEM; rw [if_neg (by rw [hE]; decide), if_pos (by omega)]
    refine gW ?_
    refine g_ef0 rfl (ef_st hS 2 rfl rfl rfl rfl (Nat.le_refl _) rfl fun w2 hS => ?_)
    refine g_ef0 rfl (ef_st hS 3 rfl rfl rfl rfl (Nat.le_refl _) rfl fun w2 hS => ?_)
    replace hS : St w0 S0 w2 (NumL s0 b2 b3 b4 b5 bw v0 all v v' 0 12 [cel b7 [.bool true] 4, obj dB (.deferred (some []))]) := hS
    refine gW ?_
    refine g_ret (k_numE (i := 1) (by decide) hvf.1 hvf.2 rfl rfl hS rfl fun w' hS => ?_)
    rw [← eM]
    exact h1 (by rw [eM]; decide) w' hS
   ·have eM : numEM bs most = 0 := by unfold numEM; rw [if_neg (by rw [hE]; decide), if_neg (by omega)]
    refine gW ?_
    refine g_l1 rfl rfl (hS.b  2 rfl) rfl ?_
    refine g_ef0 rfl (ef_st hS 2 rfl rfl rfl rfl (Nat.le_refl _) rfl fun w2 hS => ?_)
    refine g_ef0 rfl (ef_st hS 3 rfl rfl rfl rfl (Nat.le_refl _) rfl fun w2 hS => ?_)
    replace hS : St w0 S0 w2 (NumL s0 b2 b3 b4 b5 bw v0 all v v' (numN bs) 0 [cel b7 [.bool true] 4, obj dB (.deferred (some []))]) := hS
    refine gW ?_
    exact g_ret (k_num0 (i := 1) hvf.1 hvf.2 rfl rfl hS rfl (h2 eM _ · hv'))
end
def bytE (b : Bs) (most : Nat) : Int := if numEM b most ≠ 0 then numEM b most else if (b.drop (numK b)).length < numN b then 10 else 0
def bytB (b : Bs) : Bs := (b.drop (numK b)).take (numN b)
def bytR (b : Bs) : Bs := (b.drop (numK b)).drop (numN b)
theorem cmv_ye {a b : Int} (h : ¬ a = b) : cmv BinOp.neq a b = true := by
 show (!decide (a = b)) = true
 rw [decide_eq_false h]
 rfl
theorem numEM_le {b : Bs} {most : Nat} (h : numEM b most = 0) : numN b ≤ most := by
 unfold numEM at h
 split at h
 ·exact absurd h (by assumption)
 ·split at h
  ·cases h
  ·omega
section
variable {w w0 : World} {S0 : Nat → Prop} {L B : List Res} {K : Value → World → Prop} {s : Bs} {E0 E1 E2 : Nat}
theorem k_back {T : TT} {b2 b3 b5 bw s0 : Nat} {v0 v v' u : Value} {all : Bs} {e : Int} {M : List Res} (hv1 : v.oneCell' = true) (hvc : v.cells.toList = [v]) (h4 : lk T 4 = some u) (h5 : lk T 5 = some (dp b5))
  (hS : St w0 S0 w (cel s0 [v'] 219 :: rdR v0 5 1 all.length (bys all) :: cel b5 [.int .i64 e] 30 :: cel b2 [dp s0] 166 :: cel b3 [dp b5] 222 :: cel bw [v] 40 :: M))
  (h : ∀ w', St w0 S0 w' (SrcR s0 v0 all (if e = 0 then v' else v) ++ M) → K (.tuple ⟨[u, .int .i64 e]⟩) w') : QF Tryz.prog [.tmp 4, .cell 5 30] K .ret T [⟨.fn (.func 173) ⟨[dp b3, dp bw, dp b2]⟩, ⟨[]⟩ ++ ⟨[]⟩⟩] w := by
 have sub : ∀ {v2 : Value} {w : World}, St w0 S0 w (cel s0 [v2] 219 :: rdR v0 5 1 all.length (bys all) :: cel b5 [.int .i64 e] 30 :: cel b2 [dp s0] 166 :: cel b3 [dp b5] 222 :: cel bw [v] 40 :: M) → St w0 S0 w (SrcR s0 v0 all v2 ++ M) := fun {v2} {w} hS =>
  St.selB (A := [cel s0 [v2] 219, rdR v0 5 1 all.length (bys all), cel b5 [.int .i64 e] 30, cel b2 [dp s0] 166, cel b3 [dp b5] 222, cel bw [v] 40]) hS [0, 1] rfl rfl
 refine q_df ?_
 refine bd_back (i := 0) (i2 := 3) (i3 := 4) (i5 := 2) (iw := 5) hv1 hvc hS rfl rfl rfl rfl rfl (fun h0 => ?_) fun h0 w hS => ?_
 ·refine q_tc h4 h5 (by kernel_rfl) (hS.b 2 rfl) rfl (h _ ?_)
  rw [if_pos h0]
  exact sub hS
 ·refine q_tc h4 h5 (by kernel_rfl) (hS.b 2 rfl) rfl (h _ ?_)
  rw [if_neg h0]
  exact sub hS
theorem b_Bytes {s0 : Nat} {v0 v : Value} {all bs : Bs} {most : Nat} (hv : SubV v0 all v bs) (hb : bs.length < 1000000000) (hmost : most < 1000000000) (hS : St w0 S0 w (SrcR s0 v0 all v))
  (h1 : bytE bs most ≠ 0 → ∀ w', St w0 S0 w' (SrcR s0 v0 all v) → K (.tuple ⟨[.slice none 0 0, .int .i64 (bytE bs most)]⟩) w')
  (h2 : bytE bs most = 0 → ∀ v' u w', SubV v0 all v' (bytR bs) → St w0 S0 w' (SrcR s0 v0 all v' ++ [row u 5 1 (bytB bs).length (bys (bytB bs))]) → K (.tuple ⟨[u, .int .i64 0]⟩) w') : CK Tryz.prog 94 [dp s0, .int .i64 (most : Int)] w K := by
 have hvf : v.oneCell' = true ∧ v.cells.toList = [v] := by
  obtain ⟨a, c, rfl⟩ := (hv.2 w (hS.ok 1 _ rfl)).form
  exact ⟨rfl, rfl⟩
 refine call_k Tryz.func94 k94 Tryz.ntmps94 (Nat.le_of_ble_eq_true rfl) ?_
 refine gW ?_
 refine g_ef rfl (ef_al hS fun b5 w1 hS => ?_)
 refine gW ?_
 refine g_cl rfl rfl (b_back (b5 := b5) (i := 0) hvf.1 hvf.2 rfl hS fun b2 b3 bw w1 hS => ?_)
 refine g_df rfl rfl rfl ?_
 replace hS : St w0 S0 w1 (SrcR s0 v0 all v ++ [cel b5 [.int .i64 0] 30, cel b2 [dp s0] 166, cel b3 [dp b5] 222, cel bw [v] 40]) := hS
 have hF := hS.frame
 refine gW ?_
 rw [show max 0 (most : Int) = (most : Int) by omega, u64n hmost]
 refine g_cl rfl rfl (b_Number (most := most) hv hb hF.1 (fun he w1 h' => ?_) (fun he v' w1 hv' h' => ?_))
 ·replace hS := hF.2 _ _ h'
  have eB : bytE bs most = numEM bs most := by unfold bytE; rw [if_pos he]
  refine gW ?_
  refine g_ef0 rfl (ef_st hS 2 rfl rfl rfl rfl (Nat.le_refl _) rfl fun w1 hS => ?_)
  refine gW ?_
  refine g_l1 rfl rfl (hS.b  2 rfl) rfl ?_
  rw [← eB] at he hS ⊢
  refine gW ?_
  rw [cmv_ye he]
  refine gW ?_
  refine g_dr mixed ?_
  replace hS := hS.drew
  refine d_l1 rfl rfl rfl (hS.b 2 rfl) rfl ?_
  refine gD ?_
  refine d_e0 rfl rfl ?_
  refine ef_st hS 2 rfl rfl rfl rfl (Nat.le_refl _) rfl fun w2 hS => ⟨rc_0, ?_⟩
  refine d_fin ?_
  refine gW ?_
  refine g_ret (k_back (M := []) hvf.1 hvf.2 rfl rfl hS fun w' hS => ?_)
  rw [if_neg he] at hS
  exact h1 he w' hS
 ·replace hS := hF.2 _ _ h'
  have hle := numEM_le he
  refine gW ?_
  refine g_ef0 rfl (ef_st hS 2 rfl rfl rfl rfl (Nat.le_refl _) rfl fun w1 hS => ?_)
  replace hS : St w0 S0 w1 (SrcR s0 v0 all v' ++ [cel b5 [.int .i64 0] 30, cel b2 [dp s0] 166, cel b3 [dp b5] 222, cel bw [v] 40]) := hS
  have hF := hS.frame
  refine gW ?_
  refine g_l1 rfl rfl (hS.b  2 rfl) rfl ?_
  refine gW ?_
  rw [show IntKind.i64.wrap (numN bs : Int) = (numN bs : Int) from wrap_in (in64 (by omega))]
  refine g_cl rfl rfl (b_Raw (n := numN bs) hv' (by rw [List.length_drop]; omega) (by omega) hF.1 (fun hlt w1 h' => ?_) (fun hge v2 u w1 hv2 h' => ?_))
  ·replace hS := hF.2 _ _ h'
   have eB : bytE bs most = 10 := by unfold bytE; rw [if_neg (by rw [he]; decide), if_pos hlt]
   refine gW ?_
   refine g_ef0 rfl (ef_st hS 2 rfl rfl rfl rfl (Nat.le_refl _) rfl fun w1 hS => ?_)
   refine gW ?_
   refine g_ret (k_back (M := []) (e := 10) hvf.1 hvf.2 rfl rfl hS fun w' hS => ?_)
   rw [← eB]
   exact h1 (by rw [eB]; decide) w' hS
  ·replace hS := hF.2 _ _ h'
   have eB : bytE bs most = 0 := by unfold bytE; rw [if_neg (by rw [he]; decide), if_neg (by omega)]
   have eL : (bytB bs).length = numN bs := by unfold bytB; rw [List.length_take]; omega
   refine gW ?_
   refine g_ef0 rfl (ef_st hS 3 rfl rfl rfl rfl (Nat.le_refl _) rfl fun w1 hS => ?_)
   refine gW ?_
   replace hS := hS.sel [0, 1, 3, 4, 5, 6, 2] rfl rfl
   refine g_ret (k_back (M := [_]) (e := 0) hvf.1 hvf.2 rfl rfl hS fun w' hS => ?_)
   rw [if_pos rfl] at hS
   refine h2 eB v2 u w' hv2 ?_
   rw [eL]
   exact hS
end
def encF : Nat → Nat → Bs
 | 0, n => [UInt8.ofNat n]
 | f + 1, n => if n < 128 then [UInt8.ofNat n] else UInt8.ofNat (128 + n % 128) :: encF f (n / 128)
def encN (n : Nat) : Bs := encF 10 n
def valL : Bs → Nat
 | [] => 0
 | c :: r => c.toNat % 128 + 128 * valL r
theorem u8n {n : Nat} (h : n < 256) : (UInt8.ofNat n).toNat = n := by
 rw [UInt8.toNat_ofNat', Nat.mod_eq_of_lt (by omega)]
theorem enc_val : ∀ (f n : Nat), n < 128 ^ (f + 1) → valL (encF f n) = n
 | 0, n, h => by
  rw [encF]
  simp only [valL]
  rw [u8n (by omega)]
  omega
 | f + 1, n, h => by
  rw [encF]
  split
  ·simp only [valL]
   rw [u8n (by omega)]
   omega
  ·simp only [valL]
   rw [u8n (by omega), enc_val f (n / 128) (by rw [Nat.div_lt_iff_lt_mul (by decide)]; rw [Nat.pow_succ] at h; exact h)]
   omega
def canB : Bs → Prop
 | [] => False
 | [c] => c.toNat < 128
 | c :: r => 128 ≤ c.toNat ∧ canB r ∧ valL r ≠ 0
theorem canB_cons {c : UInt8} {r : Bs} (h : r ≠ []) : canB (c :: r) ↔ 128 ≤ c.toNat ∧ canB r ∧ valL r ≠ 0 := by
 cases r with
 | nil => exact absurd rfl h
 | cons d r => rfl
theorem enc_ne (f n : Nat) : encF f n ≠ [] := by
 cases f with
 | zero => simp [encF]
 | succ f => rw [encF]; split <;> simp
theorem enc_can : ∀ (f n : Nat), n < 128 ^ (f + 1) → canB (encF f n)
 | 0, n, h => by
  show (UInt8.ofNat n).toNat < 128
  rw [u8n (by omega)]
  omega
 | f + 1, n, h => by
  rw [encF]
  have hd : n / 128 < 128 ^ (f + 1) := by rw [Nat.div_lt_iff_lt_mul (by decide)]; rw [Nat.pow_succ] at h; exact h
  split
  ·show (UInt8.ofNat n).toNat < 128
   rw [u8n (by omega)]
   omega
  ·rw [canB_cons (enc_ne _ _)]
   refine ⟨by rw [u8n (by omega)]; omega, enc_can f _ hd, ?_⟩
   rw [enc_val f _ hd]
   omega
theorem can_enc : ∀ (f : Nat) (l : Bs), canB l → l.length ≤ f + 1 → encF f (valL l) = l
 | _, [], h, _ => h.elim
 | 0, [c], h, _ => by
  have h : c.toNat < 128 := h
  simp only [valL, encF]
  rw [show c.toNat % 128 + 128 * 0 = c.toNat by omega, UInt8.ofNat_toNat]
 | f + 1, [c], h, _ => by
  have h : c.toNat < 128 := h
  have e : valL [c] = c.toNat := by simp only [valL]; omega
  rw [e, encF, if_pos h, UInt8.ofNat_toNat]
 | 0, c :: d :: r, h, hl => by simp at hl
 | f + 1, c :: d :: r, h, hl => by
  obtain ⟨h1, h2, h3⟩ := h
  have hc := c.toNat_lt
  rw [show valL (c :: d :: r) = c.toNat % 128 + 128 * valL (d :: r) from rfl, encF, if_neg (by omega)]
  rw [show (c.toNat % 128 + 128 * valL (d :: r)) / 128 = valL (d :: r) by omega, can_enc f (d :: r) h2 (by simp at hl ⊢; omega), show 128 + (c.toNat % 128 + 128 * valL (d :: r)) % 128 = c.toNat by omega, UInt8.ofNat_toNat]
theorem valL_app (a : Bs) (c : UInt8) : valL (a ++ [c]) = valL a + c.toNat % 128 * 128 ^ a.length := by
 induction a with
 | nil => simp [valL]
 | cons x a ih =>
  rw [List.cons_append, valL, ih, valL, List.length_cons, Nat.pow_succ, Nat.mul_add]
  rw [show 128 * (c.toNat % 128 * 128 ^ a.length) = c.toNat % 128 * (128 ^ a.length * 128) by rw [Nat.mul_comm 128, Nat.mul_assoc]]
  omega
theorem valN_L (b : Bs) : ∀ k, k ≤ b.length → valN b k = valL (b.take k)
 | 0, _ => rfl
 | k + 1, h => by
  rw [List.take_succ_eq_append_getElem (by omega), valL_app, List.length_take, Nat.min_eq_left (by omega), valN, valN_L b k (by omega)]
  unfold low
  rw [List.getD_eq_getElem?_getD, List.getElem?_eq_getElem (by omega)]
  rfl
def goB : Bs → Prop
 | [] => False
 | [c] => c.toNat < 128
 | c :: r => 128 ≤ c.toNat ∧ goB r
theorem goB_cons {c : UInt8} {r : Bs} (h : r ≠ []) : goB (c :: r) ↔ 128 ≤ c.toNat ∧ goB r := by
 cases r with
 | nil => exact absurd rfl h
 | cons d r => rfl
theorem canB_go : ∀ (l : Bs), goB l → (canB l ↔ l.length = 1 ∨ (l.getLast?.getD 0).toNat % 128 ≠ 0)
 | [], h => h.elim
 | [c], _ => by
  rename_i h
  exact ⟨fun _ => .inl rfl, fun _ => h⟩
 | c :: d :: r, h => by
  obtain ⟨h1, h2⟩ := h
  have ih := canB_go (d :: r) h2
  have hl : ((c :: d :: r).getLast?.getD 0) = ((d :: r).getLast?.getD 0) := by simp [List.getLast?_cons_cons]
  rw [canB_cons (by simp), hl]
  have hz : (valL (d :: r) ≠ 0) ↔ (r ≠ [] ∧ canB (d :: r)) ∨ ((d :: r).getLast?.getD 0).toNat % 128 ≠ 0 ∨ valL (d :: r) ≠ 0 := by
   constructor
   ·intro h; exact .inr (.inr h)
   ·rintro (⟨hr, hc⟩ | h | h)
    ·rw [canB_cons hr] at hc
     rw [valL]
     omega
    ·intro h0
     apply h
     clear ih hl h1 h2 h
     induction r generalizing d with
     | nil => rw [valL, valL] at h0; simp; omega
     | cons e r ihr =>
      rw [valL] at h0
      rw [show ((d :: e :: r).getLast?.getD 0) = ((e :: r).getLast?.getD 0) by simp [List.getLast?_cons_cons]]
      exact ihr e (by omega)
    ·exact h
  constructor
  ·rintro ⟨_, hc, hv⟩
   right
   rcases ih.1 hc with h | h
   ·have : r = [] := by simpa using h
    subst this
    rw [valL, valL] at hv
    simp
    omega
   ·exact h
  ·rintro (h | h)
   ·simp at h
   ·exact ⟨h1, ih.2 (.inr h), hz.2 (.inr (.inl h))⟩
theorem go_take {b : Bs} {k : Nat} (h : fin b = some k) : goB (b.take (k + 1)) := by
 obtain ⟨h1, h2, h3⟩ := fin_lt h
 clear h
 induction k generalizing b with
 | zero =>
  match b, h1, h2 with
  | c :: r, _, h2 => exact h2
 | succ k ih =>
  match b, h1, h2, h3 with
  | c :: r, h1, h2, h3 =>
   rw [List.take_succ_cons, goB_cons (by
    cases r with
    | nil => simp at h1
    | cons d r => simp)]
   exact ⟨h3 0 (by omega), ih (by simpa using h1) h2 fun i hi => h3 (i + 1) (by omega)⟩
theorem enc_iff {b : Bs} {k : Nat} (hf : fin b = some k) (hk : k ≤ 9) : encN (valN b (k + 1) % 18446744073709551616) = b.take (k + 1) ↔ ¬ ((k = 9 ∧ 1 < low b 9) ∨ (0 < k ∧ low b k = 0)) := by
 obtain ⟨h1, h2, h3⟩ := fin_lt hf
 have hgo := go_take hf
 have hlen : (b.take (k + 1)).length = k + 1 := by rw [List.length_take]; omega
 have hlast : ((b.take (k + 1)).getLast?.getD 0).toNat % 128 = low b k := by
  rw [List.getLast?_eq_getElem?, hlen, Nat.add_sub_cancel, List.getElem?_take, if_pos (by omega)]
  rfl
 have hcan := canB_go _ hgo
 rw [hlast, hlen] at hcan
 have hV := valN_L b (k + 1) (by omega)
 have hm : valN b (k + 1) % 18446744073709551616 < 128 ^ (10 + 1) := Nat.lt_of_lt_of_le (Nat.mod_lt _ (by decide)) (by decide)
 have hbig : valN b (k + 1) < 18446744073709551616 ↔ ¬ (k = 9 ∧ 1 < low b 9) := by
  by_cases e : k = 9
  ·subst e
   have := valN_lt b 9
   rw [valN]
   have e9 : (128 : Nat) ^ 9 = 9223372036854775808 := by decide
   rw [e9] at this ⊢
   omega
  ·have h4 := valN_lt b (k + 1)
   have h5 : (128 : Nat) ^ (k + 1) ≤ 128 ^ 9 := Nat.pow_le_pow_right (by decide) (by omega)
   have e9 : (128 : Nat) ^ 9 = 9223372036854775808 := by decide
   rw [e9] at h5
   omega
 constructor
 ·intro h hbad
  have h6 := enc_val 10 _ hm
  rw [show encF 10 (valN b (k + 1) % 18446744073709551616) = b.take (k + 1) from h, ← hV] at h6
  have h7 := enc_can 10 _ hm
  rw [show encF 10 (valN b (k + 1) % 18446744073709551616) = b.take (k + 1) from h] at h7
  rcases hbad with hb | hb
  ·exact (hbig.1 (by have := Nat.mod_lt (valN b (k + 1)) (show 0 < 18446744073709551616 by decide); omega)) hb
  ·rcases hcan.1 h7 with h8 | h8 <;> omega
 ·intro h
  have hlt := hbig.2 fun hb => h (.inl hb)
  rw [Nat.mod_eq_of_lt hlt, hV]
  refine can_enc 10 _ (hcan.2 ?_) (by rw [hlen]; omega)
  by_cases e : k = 0
  ·left; omega
  ·right; intro h0; exact h (.inr ⟨by omega, h0⟩)
def SrcX (s0 : Nat) (v0 : Value) (all : Bs) (v : Value) : List Res := [cel s0 [v] 183, rdR v0 5 1 all.length (bys all)]
def wh (b : Bs) : Nat := match fin b with | some k => k + 1 | none => 0
theorem SubV.hd {v0 : Value} {all bs : Bs} {a : Option Addr} {n c k : Nat} {w : World} (h : SubV v0 all (.slice a n c) bs) (hr : Rd v0 5 1 all.length (bys all) w) (hk : k ≤ bs.length) :
  SubV v0 all (.slice a k c) (bs.take k) ∧ ∀ {T : TT} {y z : Operand} {q : IntKind}, ev T y = some (.slice a n c) → ev T z = some (.int q (k : Int)) → pev T (.sl y none (some z) none 1) = .rq (0 ≤ (0 : Int) ∧ (0 : Int) ≤ (k : Int) ∧ (k : Int) ≤ (c : Int) ∧ (c : Int) ≤ (c : Int)) (.slice a k c) := by
 have hn : n = bs.length := by
  obtain ⟨a', c', e⟩ := (h.2 w hr).form
  cases e; rfl
 subst hn
 refine ⟨⟨fun y o s n c e => ?_, fun w hw => ?_⟩, fun {T y z q} hy hz => ?_⟩
 ·cases e; exact h.1 _ _ _ _ _ rfl
 ·have := (h.2 w hw).head hk
  rw [List.length_take, Nat.min_eq_left hk]
  rwa [bys_take] at this
 ·cases a with
  | none => unfold pev; simp only [hy, bnd, hz]; rfl
  | some ad =>
   obtain ⟨b, off, sp⟩ := ad
   cases sp with
   | some s => exact (h.1 b off s _ _ rfl).elim
   | none => unfold pev; simp only [hy, bnd, hz]; rfl
theorem wr64 (n : Int) : IntKind.u64.wrap n = n % 18446744073709551616 := by
 unfold IntKind.wrap
 simp [IntKind.bits, IntKind.signed]
theorem horner (x c : Nat) : IntKind.u64.wrap (arv .add (IntKind.u64.wrap (arv .mul 128 ((x % 18446744073709551616 : Nat) : Int))) ((c : Nat) : Int)) = (((c + 128 * x) % 18446744073709551616 : Nat) : Int) := by
 rw [wr64, wr64]
 simp only [arv]
 omega
section
variable {w w0 : World} {S0 : Nat → Prop} {L B : List Res} {K : Value → World → Prop} {s : Bs} {E0 E1 E2 : Nat}
theorem r_where {v : Value} {n : Nat} {bs : Bs} (hl : bs.length = n) (hn : n < 1000000000) (hr : Rd v E0 1 n (bys bs) w) (h : K (.int .i64 (wh bs : Int)) w) : CK Tryz.prog 154 [v] w K := by
 obtain ⟨a, c, rfl⟩ := hr.form
 refine call_k Tryz.func154 k154 Tryz.ntmps154 (Nat.le_of_ble_eq_true rfl) ?_
 refine gW ?_
 refine g_lp (ι := Nat) (fun k => [(0, .slice a n c), (3, .int .i64 k)]) (fun k w' => k ≤ n ∧ (∀ i, i < k → 128 ≤ (bs.getD i 0).toNat) ∧ w' = w) (fun k => n - k) 0 ⟨rfl, rfl, trivial⟩ ⟨Nat.zero_le _, fun i hi => absurd hi (Nat.not_lt_zero i), rfl⟩ ?_
 rintro k w1 ⟨hk, hI, rfl⟩
 refine gW ?_
 (refine g_cd rfl (fun hc => ?_) (fun hc => ?_) <;> simp only [cmv, arv, Bool.not_eq_true', Bool.not_eq_false', decide_eq_true_eq, decide_eq_false_iff_not] at hc)
 ·have hlt : k < n := by omega
  obtain ⟨b, off, cap, lx, e, hcp, hlx, hxx, hbb⟩ := hr.block (by omega)
  cases e
  refine gW ?_
  refine g_rq rfl rfl ⟨by omega, by omega⟩ ?_
  refine g_l1r rfl rfl hbb (by rw [Int.toNat_natCast]; exact rdB (i := k) hxx (by omega)) ?_
  refine g_ok rfl rfl ?_
  refine g_r0 ?_
  (refine g_cd rfl (fun hq => ?_) (fun hq => ?_) <;> simp only [cmv, arv, Bool.not_eq_true', Bool.not_eq_false', decide_eq_true_eq, decide_eq_false_iff_not] at hq)
  ·have ew : wh bs = k + 1 := by unfold wh; rw [fin_some (by omega) (by omega) hI]
   refine gW ?_
   refine g_rq rfl rfl (in64 (by simp only [arv]; omega)) ?_
   rw [show arv .add (k : Int) 1 = ((k + 1 : Nat) : Int) by simp only [arv]; omega, ← ew]
   refine gW ?_
   exact g_ret (q_1 rfl h)
  ·refine gW ?_
   refine g_rq rfl rfl (in64 (by simp only [arv]; omega)) ?_
   refine gW ?_
   refine g_l (k + 1) ⟨rfl, rfl, trivial⟩ ⟨by omega, fun i hi => ?_, rfl⟩ (by omega)
   by_cases e : i = k
   ·subst e; omega
   ·exact hI i (by omega)
 ·have ew : wh bs = 0 := by unfold wh; rw [fin_none fun i hi => hI i (by omega)]
  rw [ew] at h
  refine gW ?_
  exact g_ret (q_1 rfl h)
theorem r_enc {n : Nat} (hn : n < 18446744073709551616) (h : ∀ v' w', St w (fun _ => False) w' [row v' 5 1 (encN n).length (bys (encN n))] → K v' w') : CK Tryz.prog 155 [.int .u64 (n : Int)] w K := by
 have hS := (St.nil w (fun _ => False)).nilrow 5 1
 refine call_k Tryz.func155 k155 Tryz.ntmps155 (Nat.le_of_ble_eq_true rfl) ?_
 refine gW ?_
 refine g_lp (ι := Nat × Nat × Bs × Value) (fun x => [(0, .int .u64 (x.1 : Int)), (3, x.2.2.2)]) (fun x w' => x.1 < 18446744073709551616 ∧ x.1 < 128 ^ (x.2.1 + 1) ∧ x.2.2.1 ++ encF x.2.1 x.1 = encN n ∧ x.2.2.1.length + x.2.1 = 10 ∧ St w (fun _ => False) w' [row x.2.2.2 5 1 x.2.2.1.length (bys x.2.2.1)]) (fun x => x.2.1) (n, 10, [], _) ⟨rfl, rfl, trivial⟩ ⟨hn, Nat.lt_of_lt_of_le hn (show 18446744073709551616 ≤ 128 ^ 11 by decide), rfl, rfl, hS⟩ ?_
 clear hS
 rintro ⟨m, f, acc, v⟩ w1 ⟨hm64, hm, he, hf, hS⟩
 dsimp only at hm64 hm he hf hS ⊢
 refine gW ?_
 (refine g_cd rfl (fun hc => ?_) (fun hc => ?_) <;> simp only [cmv, arv, Bool.not_eq_true', Bool.not_eq_false', decide_eq_true_eq, decide_eq_false_iff_not] at hc)
 ·cases f with
  | zero => exfalso; omega
  | succ f =>
   rw [encF, if_neg (by omega)] at he
   refine gW ?_
   refine g_rq rfl rfl (by decide) ?_
   rw [show (m : Int).tmod 128 = ((m % 128 : Nat) : Int) by rw [Int.tmod_eq_emod_of_nonneg (by omega)]; omega]
   refine gW ?_
   rw [show IntKind.u8.wrap (IntKind.u64.wrap (arv .add 128 ((m % 128 : Nat) : Int))) = ((UInt8.ofNat (128 + m % 128)).toNat : Int) by
    rw [u8n (by omega), wr64, IntKind.wrap_u8]
    simp only [arv]
    omega]
   refine g_ef rfl (ef_bl (rs := bys [UInt8.ofNat (128 + m % 128)]) hS rfl fun b7 w1 hS => ?_)
   refine g_ef rfl (ef_ap (n := acc.length) (m := 1) (ys := bys [UInt8.ofNat (128 + m % 128)]) hS 0 rfl rfl rfl (.inl ⟨5, .inr ⟨b7, 0, 1, _, rfl, Nat.le_refl _, Nat.le_refl _, rfl, (hS.b 1 rfl).r⟩⟩) (bys_one _) (by omega) (by omega) fun v6 w1 hS => ?_)
   rw [← bys_append] at hS
   refine gW ?_
   refine g_rq rfl rfl (by decide) ?_
   rw [show IntKind.u64.wrap ((m : Int).tdiv 128) = ((m / 128 : Nat) : Int) by
    rw [Int.tdiv_eq_ediv_of_nonneg (by omega), wr64]
    omega]
   refine gW ?_
   refine g_l (m / 128, f, acc ++ [UInt8.ofNat (128 + m % 128)], v6) ⟨rfl, rfl, trivial⟩ ⟨by show m / 128 < _; omega, ?_, by rw [List.append_assoc]; exact he, by simp; omega, ?_⟩ (by simp only; omega)
   ·show m / 128 < 128 ^ (f + 1)
    rw [Nat.div_lt_iff_lt_mul (by decide)]
    rw [Nat.pow_succ] at hm
    exact hm
   ·rw [List.length_append]
    exact hS.sel [0] rfl rfl
 ·have e1 : encF f m = [UInt8.ofNat m] := by
   cases f with
   | zero => rfl
   | succ f => rw [encF, if_pos (by omega)]
  rw [e1] at he
  refine gW ?_
  rw [show IntKind.u8.wrap (m : Int) = ((UInt8.ofNat m).toNat : Int) by rw [u8n (by omega), IntKind.wrap_u8]; omega]
  refine g_ef rfl (ef_bl (rs := bys [UInt8.ofNat m]) hS rfl fun b7 w1 hS => ?_)
  refine g_ef rfl (ef_ap (n := acc.length) (m := 1) (ys := bys [UInt8.ofNat m]) hS 0 rfl rfl rfl (.inl ⟨5, .inr ⟨b7, 0, 1, _, rfl, Nat.le_refl _, Nat.le_refl _, rfl, (hS.b 1 rfl).r⟩⟩) (bys_one _) (by omega) (by omega) fun v6 w1 hS => ?_)
  rw [← bys_append] at hS
  refine gW ?_
  refine g_ret (q_1 rfl (h _ _ ?_))
  rw [← he, List.length_append]
  exact hS.sel [0] rfl rfl
theorem r_Raw {s0 : Nat} {v0 v : Value} {all bs : Bs} {n : Nat} (hv : SubV v0 all v bs) (hb : bs.length < 1000000000) (hn : n < 1000000000) (hS : St w0 S0 w (SrcX s0 v0 all v))
  (h1 : bs.length < n → ∀ w', St w0 S0 w' (SrcX s0 v0 all v) → K (.tuple ⟨[.slice none 0 0, .int .i64 10]⟩) w')
  (h2 : n ≤ bs.length → ∀ v' u w', SubV v0 all v' (bs.drop n) → St w0 S0 w' (SrcX s0 v0 all v' ++ [row u 5 1 n (bys (bs.take n))]) → K (.tuple ⟨[u, .int .i64 0]⟩) w') : CK Tryz.prog 104 [dp s0, .int .i64 (n : Int)] w K := by
 have hR0 : Rd v0 5 1 all.length (bys all) w := hS.ok 1 _ rfl
 have hR := hv.2 w hR0
 obtain ⟨a, c, rfl⟩ := hR.form
 have hc := hR.cap
 refine call_k Tryz.func104 k104 Tryz.ntmps104 (Nat.le_of_ble_eq_true rfl) ?_
 refine gW ?_
 refine g_l1 rfl rfl (hS.b  0 rfl) rfl ?_
 refine gW ?_
 refine g_cd rfl (fun hq => ?_) (fun hq => ?_) <;> (simp only [cmv, arv, Bool.not_eq_true', Bool.not_eq_false', decide_eq_true_eq, decide_eq_false_iff_not] at hq)
 ·refine gW ?_
  exact g_ret (q_2 rfl rfl (h1 (by omega) _ hS))
 have hle : n ≤ bs.length := by omega
 obtain ⟨hvh, hslh⟩ := hv.hd hR0 hle
 refine gW ?_
 refine g_l1 rfl rfl (hS.b  0 rfl) rfl ?_
 refine gW ?_
 refine g_rq rfl (hslh rfl rfl) ⟨by decide, by omega, by omega, Int.le_refl _⟩ ?_
 have hR2 := hvh.2 w hR0
 rw [List.length_take, Nat.min_eq_left hle] at hR2
 refine g_cl rfl rfl (r_Twin (l := bs.take n) (by omega) hR2 fun u w1 h' => ?_)
 replace hS := hS.call0.2 _ _ h'
 clear h'
 obtain ⟨a', hv', hsl'⟩ := hv.drop (x := .tmp 1) (k := n) hR0 hle
 refine gW ?_
 refine g_l1 rfl rfl (hS.b  0 rfl) rfl ?_
 refine gW ?_
 refine g_rq rfl (hsl' rfl rfl) ⟨by omega, by omega, by omega, Int.le_refl _⟩ ?_
 refine gW ?_
 refine g_ef0 rfl (ef_st hS 0 rfl rfl rfl rfl (Nat.le_refl _) rfl fun w1 hS => ?_)
 refine gW ?_
 exact g_ret (q_2 rfl rfl (h2 hle _ _ _ hv' hS))
set_option maxHeartbeats 1000000 in
theorem r_Number {s0 : Nat} {v0 v : Value} {all bs : Bs} {most : Nat} (hv : SubV v0 all v bs) (hb : bs.length < 1000000000) (hS : St w0 S0 w (SrcX s0 v0 all v))
  (h1 : numEM bs most ≠ 0 → ∀ w', St w0 S0 w' (SrcX s0 v0 all v) → K (.tuple ⟨[.int .u64 0, .int .i64 (numEM bs most)]⟩) w')
  (h2 : numEM bs most = 0 → ∀ v' w', SubV v0 all v' (bs.drop (numK bs)) → St w0 S0 w' (SrcX s0 v0 all v') → K (.tuple ⟨[.int .u64 (numN bs : Int), .int .i64 0]⟩) w') : CK Tryz.prog 106 [dp s0, .int .u64 (most : Int)] w K := by
 have bad : ∀ {e : Int}, e ≠ 0 → numE bs = e → ∀ w', St w0 S0 w' (SrcX s0 v0 all v) → K (.tuple ⟨[.int .u64 ((0 : Nat) : Int), .int .i64 e]⟩) w' := fun {e} he h w' hS => by
  have e1 : numEM bs most = e := by unfold numEM; rw [h, if_pos he]
  rw [← e1]
  exact h1 (by rw [e1]; exact he) w' hS
 have hR0 : ∀ {L : List Res} {w : World}, St w0 S0 w (SrcX s0 v0 all v ++ L) → Rd v0 5 1 all.length (bys all) w := fun hS => hS.ok 1 _ rfl
 have hR := hv.2 w (hR0 (L := []) hS)
 obtain ⟨a, c, rfl⟩ := hR.form
 have hcap := hR.cap
 refine call_k Tryz.func106 k106 Tryz.ntmps106 (Nat.le_of_ble_eq_true rfl) ?_
 refine gW ?_
 refine g_l1 rfl rfl (hS.b  0 rfl) rfl ?_
 refine g_cl rfl rfl (r_where rfl hb hR ?_)
 cases hf : fin bs with
 | none =>
  have ew : wh bs = 0 := by unfold wh; rw [hf]
  rw [ew]
  refine gW ?_
  refine g_l1 rfl rfl (hS.b  0 rfl) rfl ?_
  refine gW ?_
  (refine g_cd rfl (fun hc => ?_) (fun hc => ?_) <;> simp only [cmv, arv, Bool.not_eq_true', Bool.not_eq_false', decide_eq_true_eq, decide_eq_false_iff_not] at hc)
  ·refine gW ?_
   refine g_ret (q_2 rfl rfl (bad (e := 10) (by decide) ?_ _ hS))
   unfold numE; rw [hf]; exact if_pos (by omega)
  ·refine gW ?_
   refine g_ret (q_2 rfl rfl (bad (e := 11) (by decide) ?_ _ hS))
   unfold numE; rw [hf]; exact if_neg (by omega)
 | some k =>
  obtain ⟨hk1, hk2, hk3⟩ := fin_lt hf
  have ew : wh bs = k + 1 := by unfold wh; rw [hf]
  have eK : numK bs = k + 1 := by unfold numK; rw [hf]
  have eN : numN bs = valN bs (k + 1) := by unfold numN; rw [hf]
  rw [ew]
  refine gW ?_
  (refine g_cd rfl (fun hc => ?_) (fun hc => ?_) <;> simp only [cmv, arv, Bool.not_eq_true', Bool.not_eq_false', decide_eq_true_eq, decide_eq_false_iff_not] at hc)
  ·refine gW ?_
   refine g_ret (q_2 rfl rfl (bad (e := 11) (by decide) ?_ _ hS))
   unfold numE; rw [hf]; exact if_pos (.inl (by omega))
  have hk9 : k ≤ 9 := by omega
  refine gW ?_
  refine g_rq rfl rfl (in64 (by simp only [arv]; omega)) ?_
  refine gW ?_
  refine g_atx (ι := Unit) 2 (fun _ => [(0, dp s0), (1, .int .u64 (most : Int)), (6, .int .i64 ((k + 1 : Nat) : Int)), (7, .int .u64 ((valN bs (k + 1) % 18446744073709551616 : Nat) : Int))]) (fun _ w' => St w0 S0 w' (SrcX s0 v0 all (.slice a bs.length c))) rfl ?_ ?_
  ·refine g_lp (ι := Nat) (fun j => [(0, dp s0), (1, .int .u64 (most : Int)), (6, .int .i64 ((k + 1 : Nat) : Int)), (7, .int .u64 ((valL ((bs.take (k + 1)).drop (k + 1 - j)) % 18446744073709551616 : Nat) : Int)), (8, .int .i64 ((k : Int) - j))]) (fun j w' => j ≤ k + 1 ∧ St w0 S0 w' (SrcX s0 v0 all (.slice a bs.length c))) (fun j => k + 1 - j) 0
    ⟨rfl, rfl, rfl, by rw [Nat.sub_zero, List.drop_eq_nil_of_le (by rw [List.length_take]; omega)]; rfl, by simp only [arv]; exact congrArg (fun n => some (Value.int .i64 n)) (by omega), trivial⟩ ⟨Nat.zero_le _, hS⟩ ?_
   clear hS hR
   rintro j w1 ⟨hj, hS⟩
   refine gW ?_
   (refine g_cd rfl (fun hc => ?_) (fun hc => ?_) <;> simp only [cmv, arv, Bool.not_eq_true', Bool.not_eq_false', decide_eq_true_eq, decide_eq_false_iff_not] at hc)
   ·have hjk : j ≤ k := by omega
    rw [show (k : Int) - (j : Int) = ((k - j : Nat) : Int) by omega]
    obtain ⟨b, off, cap, lx, e, hcp, hlx, hxx, hbb⟩ := (hv.2 _ (hR0 (L := []) hS)).block (by omega)
    cases e
    refine gW ?_
    refine g_l1 rfl rfl (hS.b  0 rfl) rfl ?_
    refine gW ?_
    refine g_rq rfl rfl ⟨by omega, by omega⟩ ?_
    refine g_l1r rfl rfl hbb (by rw [Int.toNat_natCast]; exact rdB (i := k - j) hxx (by omega)) ?_
    refine g_rq rfl rfl (by decide) ?_
    refine gW ?_
    rw [lo128, horner]
    have est : (bs.getD (k - j) 0).toNat % 128 + 128 * valL ((bs.take (k + 1)).drop (k + 1 - j)) = valL ((bs.take (k + 1)).drop (k + 1 - (j + 1))) := by
     rw [List.drop_eq_getElem_cons (i := k + 1 - (j + 1)) (by rw [List.length_take]; omega), valL, show k + 1 - (j + 1) + 1 = k + 1 - j by omega, List.getElem_take, List.getD_eq_getElem?_getD, List.getElem?_eq_getElem (by omega)]
     simp only [show k + 1 - (j + 1) = k - j by omega, Option.getD_some]
    rw [est]
    refine g_rq rfl rfl (in64 (by simp only [arv]; omega)) ?_
    rw [show arv .sub ((k - j : Nat) : Int) 1 = (k : Int) - ((j + 1 : Nat) : Int) by simp only [arv]; omega]
    refine gW ?_
    exact g_l (j + 1) ⟨rfl, rfl, rfl, rfl, rfl, trivial⟩ ⟨by omega, hS⟩ (by omega)
   ·have e : j = k + 1 := by omega
    subst e
    refine gW ?_
    refine g_jx () ⟨rfl, rfl, rfl, ?_, trivial⟩ hS
    rw [Nat.sub_self, List.drop_zero, ← valN_L bs (k + 1) (by omega)]
    rfl
  clear hS hR
  rintro _ T w1 hT hS
  refine g_wkc hT ?_
  have hiff := enc_iff hf hk9
  generalize hM : valN bs (k + 1) % 18446744073709551616 = M at hiff
  obtain ⟨hvh, hslh⟩ := hv.hd (hR0 (L := []) hS) (show k + 1 ≤ bs.length by omega)
  have htl : (bs.take (k + 1)).length = k + 1 := by rw [List.length_take]; omega
  refine gW ?_
  refine g_dr mixed ?_
  replace hS := hS.drew
  refine gD ?_
  refine d_l1 rfl rfl rfl (hS.b 0 rfl) rfl ?_
  refine gD ?_
  refine d_rq rfl rfl (hslh rfl rfl) ⟨by decide, by omega, by omega, Int.le_refl _⟩ ?_
  have hRt := hvh.2 _ (hR0 (L := []) hS)
  rw [htl] at hRt
  refine d_qt rfl rfl rfl (qt_bsR rfl hRt) ?_
  refine d_cl rfl rfl rfl (r_enc (n := M) (by rw [← hM]; exact Nat.mod_lt _ (by decide)) fun u w2 h' => ?_)
  replace hS := hS.call0.2 _ _ h'
  clear h' hRt
  have hRt := hvh.2 _ (hR0 (L := [_]) hS)
  rw [htl] at hRt
  refine ⟨rc_1 rfl rfl rfl rfl (hS.b 0 rfl) rfl (rc_qt rfl rfl rfl rfl (qt_bsR rfl hRt) rc_0), ?_⟩
  refine d_qt rfl rfl rfl (qt_bsR rfl (Ow.rd (hS.ok 2 _ rfl))) ?_
  refine gD ?_
  refine d_fin ?_
  by_cases he : encN M = bs.take (k + 1)
  ·rw [show (!decide ((⟨(encN M).toArray⟩ : ByteArray).data.toList = (⟨(bs.take (k + 1)).toArray⟩ : ByteArray).data.toList)) = false by rw [decide_eq_true he]; rfl]
   have hgood := hiff.1 he
   have eE : numE bs = 0 := by
    unfold numE; rw [hf]; refine if_neg ?_
    rintro (h | h | h)
    ·omega
    ·exact hgood (.inl h)
    ·exact hgood (.inr h)
   have eM : M = numN bs := by
    have h1 := enc_val 10 M (Nat.lt_of_lt_of_le (by rw [← hM]; exact Nat.mod_lt _ (by decide)) (show 18446744073709551616 ≤ 128 ^ (10 + 1) by decide))
    rw [eN, valN_L bs _ (by omega), ← he]
    exact h1.symm
   rw [eM]
   refine gW ?_
   (refine g_cd rfl (fun hq => ?_) (fun hq => ?_) <;> simp only [cmv, arv, Bool.not_eq_true', Bool.not_eq_false', decide_eq_true_eq, decide_eq_false_iff_not] at hq)
   ·have e12 : numEM bs most = 12 := by unfold numEM; rw [if_neg (by rw [eE]; decide), if_pos (by omega)]
    rw [e12] at h1
    refine gW ?_
    exact g_ret (q_2 rfl rfl (h1 (by decide) _ (hS.sel [0, 1] rfl rfl)))
   ·have e0 : numEM bs most = 0 := by unfold numEM; rw [if_neg (by rw [eE]; decide), if_neg (by omega)]
    obtain ⟨a', hv', hsl'⟩ := hv.drop (x := .tmp 1) (k := k + 1) (hR0 (L := [_]) hS) (by omega)
    rw [← eK] at hv'
    refine gW ?_
    refine g_l1 rfl rfl (hS.b  0 rfl) rfl ?_
    refine gW ?_
    refine g_rq rfl (hsl' rfl rfl) ⟨by omega, by omega, by omega, Int.le_refl _⟩ ?_
    refine gW ?_
    refine g_ef0 rfl (ef_st hS 0 rfl rfl rfl rfl (Nat.le_refl _) rfl fun w1 hS => ?_)
    refine gW ?_
    rw [← eK] at hS
    exact g_ret (q_2 rfl rfl (h2 e0 _ _ hv' (hS.sel [0, 1] rfl rfl)))
  ·rw [show (!decide ((⟨(encN M).toArray⟩ : ByteArray).data.toList = (⟨(bs.take (k + 1)).toArray⟩ : ByteArray).data.toList)) = true by rw [decide_eq_false he]; rfl]
   have hbad := fun h => he (hiff.2 h)
   refine gW ?_
   refine g_ret (q_2 rfl rfl (bad (e := 11) (by decide) ?_ _ (hS.sel [0, 1] rfl rfl)))
   unfold numE; rw [hf]; refine if_pos ?_
   by_cases e : (k = 9 ∧ 1 < low bs 9) ∨ (0 < k ∧ low bs k = 0)
   ·exact .inr e
   ·exact (hbad e).elim
theorem r_Bytes {s0 : Nat} {v0 v : Value} {all bs : Bs} {most : Nat} (hv : SubV v0 all v bs) (hb : bs.length < 1000000000) (hmost : most < 1000000000) (hS : St w0 S0 w (SrcX s0 v0 all v))
  (h1 : bytE bs most ≠ 0 → ∀ w', St w0 S0 w' (SrcX s0 v0 all v) → K (.tuple ⟨[.slice none 0 0, .int .i64 (bytE bs most)]⟩) w')
  (h2 : bytE bs most = 0 → ∀ v' u w', SubV v0 all v' (bytR bs) → St w0 S0 w' (SrcX s0 v0 all v' ++ [row u 5 1 (bytB bs).length (bys (bytB bs))]) → K (.tuple ⟨[u, .int .i64 0]⟩) w') : CK Tryz.prog 105 [dp s0, .int .i64 (most : Int)] w K := by
 have hvf : v.oneCell' = true ∧ v.cells.toList = [v] := by
  obtain ⟨a, c, rfl⟩ := (hv.2 w (hS.ok 1 _ rfl)).form
  exact ⟨rfl, rfl⟩
 refine call_k Tryz.func105 k105 Tryz.ntmps105 (Nat.le_of_ble_eq_true rfl) ?_
 refine gW ?_
 refine g_l1 rfl rfl (hS.b  0 rfl) rfl ?_
 refine gW ?_
 rw [u64n hmost]
 refine g_cl rfl rfl (r_Number (most := most) hv hb hS (fun he w1 hS => ?_) (fun he v' w1 hv' hS => ?_))
 ·have eB : bytE bs most = numEM bs most := by unfold bytE; rw [if_pos he]
  rw [← eB] at he ⊢
  refine gW ?_
  rw [cmv_ye he]
  refine gW ?_
  exact g_ret (q_2 rfl rfl (h1 he _ hS))
 ·have hle := numEM_le he
  refine gW ?_
  rw [show IntKind.i64.wrap (numN bs : Int) = (numN bs : Int) from wrap_in (in64 (by omega))]
  refine g_cl rfl rfl (r_Raw (n := numN bs) hv' (by rw [List.length_drop]; omega) (by omega) hS (fun hlt w1 hS => ?_) (fun hge v2 u w1 hv2 hS => ?_))
  ·have eB : bytE bs most = 10 := by unfold bytE; rw [if_neg (by rw [he]; decide), if_pos hlt]
   rw [eB] at h1
   refine gW ?_
   refine g_ef0 rfl (ef_st hS 0 rfl rfl rfl (by rw [hvf.2]; rfl) (Nat.le_refl _) (by rw [hvf.2]; simpa using hvf.1) fun w1 hS => ?_)
   rw [hvf.2] at hS
   refine gW ?_
   exact g_ret (q_2 rfl rfl (h1 (by decide) _ hS))
  ·have eB : bytE bs most = 0 := by unfold bytE; rw [if_neg (by rw [he]; decide), if_neg (by omega)]
   have eL : (bytB bs).length = numN bs := by unfold bytB; rw [List.length_take]; omega
   refine gW ?_
   refine g_ret (q_2 rfl rfl (h2 eB v2 u _ hv2 ?_))
   rw [eL]
   exact hS
end
end Go.Proofs.YtocofjmknnckhaaGreatDoor
