/- Oh5 Qi4 Qi5 Qi6 Ng0 Qi7 Qi8 -/
import Derived.Test.YtocofjmknnckhaaGreatDoorPk13
import Derived.LaidSub
import Derived.Lib.LaidTab
import Derived.Test.YtocofjmknnckhaaGreatDoorCards
import Derived.Test.YtocofjmknnckhaaGreatDoorTie
import Derived.WalkKit
import Derived.ProofKit
import Derived.OpenShut
import Derived.Deep.DeepHandedRow
set_option linter.unusedSimpArgs false
set_option linter.unusedVariables false
namespace Go.Proofs.YtocofjmknnckhaaGreatDoor
open Go.En
theorem gd_at {s : Bs} {k : Nat} (h : k < s.length) : (⟨s.toArray⟩ : ByteArray).data.toList.getD (k : Int).toNat 0 = s[k] := by
 rw [Int.toNat_natCast]
 show s.getD k 0 = s[k]
 rw [List.getD_eq_getElem?_getD, List.getElem?_eq_getElem h]
 rfl
theorem rd_x' {l xs : List Value} {off n k : Nat} (hx : (l.drop off).take (n * 1) = xs) (hn : xs.length = n) (hk : k < xs.length) : l[off + k * 1]? = some xs[k] := by
 have h1 := congrArg (fun l : List Value => l[k]?) hx
 simp only [List.getElem?_take, List.getElem?_drop] at h1
 rw [if_pos (by omega), List.getElem?_eq_getElem hk] at h1
 rw [Nat.mul_one]
 exact h1
theorem ceq_c {c : UInt8} {n : Nat} (hn : n < 256) : cmv BinOp.eql ((c.toNat : Nat) : Int) (n : Int) = decide (c = UInt8.ofNat n) := by
 simp only [cmv]
 rw [decide_eq_decide]
 constructor
 ·intro h
  refine UInt8.toNat_inj.1 ?_
  rw [UInt8.toNat_ofNat']
  omega
 ·intro h
  rw [h, UInt8.toNat_ofNat']
  omega
theorem lock_suf (p : Bs) : ([46, 108, 111, 99, 107] : Bs).isSuffixOf p = true ↔ 5 ≤ p.length ∧ p.drop (p.length - 5) = [46, 108, 111, 99, 107] := by
 rw [List.isSuffixOf_iff_suffix, List.suffix_iff_eq_drop]
 constructor
 ·intro h
  refine ⟨?_, h.symm⟩
  have := congrArg List.length h
  simp at this
  omega
 ·rintro ⟨_, h⟩
  exact h.symm
theorem dot_suf {s : Bs} (h : 0 < s.length) : ([46] : Bs).isSuffixOf s = true ↔ s[s.length - 1] = 46 := by
 rw [List.isSuffixOf_iff_suffix, List.suffix_iff_eq_drop]
 have e : s.drop (s.length - 1) = [s[s.length - 1]] := by
  rw [List.drop_eq_getElem_cons (by omega), List.drop_eq_nil_of_le (by omega)]
 show [46] = s.drop (s.length - 1) ↔ _
 rw [e]
 constructor
 ·intro h
  exact (List.cons.inj h).1.symm
 ·intro h
  rw [h]
theorem dot_pre {p : Bs} (h : 0 < p.length) : ([46] : Bs).isPrefixOf p = true ↔ p[0] = 46 := by
 match p, h with
 | x :: p, _ =>
  simp [List.isPrefixOf]
  exact eq_comm
section
variable {w w0 : World} {S0 : Nat → Prop} {L B : List Res} {K : Value → World → Prop} {s : Bs} {E0 E1 : Nat}
set_option maxHeartbeats 8000000 in
theorem r_Breaks (h : ∀ w', St w (fun _ => False) w' [] → K (.int .i64 (brk s)) w') : CK Tryz.prog 44 [sv s] w K := by
 have hS := St.nil w (fun _ => False)
 have esz : (⟨s.toArray⟩ : ByteArray).size = s.length := by rw [Lib.size_eq]
 have hsl : ((⟨s.toArray⟩ : ByteArray).data.toList.length : Int) = s.length := rfl
 have stop : ∀ j, j < 8 → (∀ i, i < j → rul i s = false) → rul j s = true → ∀ w', St w (fun _ => False) w' [] → K (.int .i64 ((j : Int) + 1)) w' := fun j hj h0 h1 w' hS => by
  have hb := brk_at j hj h0 h1
  rw [hb] at h
  exact h w' hS
 refine call_k Tryz.func44 k44 Tryz.ntmps44 (Nat.le_of_ble_eq_true rfl) ?_
 refine gW ?_
 rw [esz]
 (generalize q1 : cmv _ _ _ = q; cases q <;> simp only [cmv, arv, Bool.not_eq_true', Bool.not_eq_false', decide_eq_true_eq, decide_eq_false_iff_not] at q1 <;> first | (exfalso; omega) | skip)
 rotate_left
 ·have e0 : s = [] := List.eq_nil_of_length_eq_zero (by omega)
  refine gW ?_
  exact g_ret (q_1 rfl (stop 0 (by decide) (fun i hi => absurd hi (Nat.not_lt_zero i)) (by simp [rul, e0]) _ hS))
 refine gW ?_
 rw [esz]
 (generalize q2 : cmv _ _ _ = q; cases q <;> simp only [cmv, arv, Bool.not_eq_true', Bool.not_eq_false', decide_eq_true_eq, decide_eq_false_iff_not] at q2 <;> first | (exfalso; omega) | skip)
 rotate_left
 ·refine gW ?_
  exact g_ret (q_1 rfl (stop 0 (by decide) (fun i hi => absurd hi (Nat.not_lt_zero i)) (by simp [rul]; right; omega) _ hS))
 have r0 : rul 0 s = false := by
  simp only [rul, Bool.or_eq_false_iff, decide_eq_false_iff_not]
  exact ⟨fun e => by rw [e] at q1; simp at q1, by omega⟩
 refine gW ?_
 refine g_lp (ι := Nat) (fun k => [(0, sv s), (3, .int .i64 k)]) (fun k w' => k ≤ s.length ∧ (∀ j (hj : j < s.length), j < k → may s[j] = true) ∧ St w (fun _ => False) w' []) (fun k => s.length - k) 0 ⟨rfl, rfl, trivial⟩ ⟨Nat.zero_le _, fun j _ h => absurd h (Nat.not_lt_zero j), hS⟩ ?_
 clear hS
 rintro k w1 ⟨hk, hP, hS⟩
 refine gW ?_
 rw [esz]
 (refine g_cd rfl (fun hlt => ?_) (fun hlt => ?_) <;> simp only [cmv, arv, Bool.not_eq_true', Bool.not_eq_false', decide_eq_true_eq, decide_eq_false_iff_not] at hlt)
 ·have hlt : k < s.length := by omega
  refine gW ?_
  refine g_rq rfl rfl ⟨by omega, by omega⟩ ?_
  rw [gd_at hlt]
  refine g_cl rfl rfl (r_may ?_)
  refine gW ?_
  cases hm : may s[k]
  ·refine gW ?_
   refine g_ret (q_1 rfl (stop 1 (by decide) (fun i hi => ?_) ?_ _ hS))
   ·have : i = 0 := by omega
    subst this; exact r0
   ·simp only [rul, List.any_eq_true]
    exact ⟨s[k], List.getElem_mem _, by rw [hm]; rfl⟩
  ·refine gW ?_
   refine g_rq rfl rfl (in64 (by simp only [arv]; omega)) ?_
   refine gW ?_
   refine g_l (k + 1) ⟨rfl, rfl, trivial⟩ ⟨by omega, fun j hj hjk => ?_, hS⟩ (by omega)
   by_cases e : j = k
   ·subst e; exact hm
   ·exact hP j hj (by omega)
 have r1 : rul 1 s = false := by
  simp only [rul]
  rw [List.any_eq_false]
  intro x hx
  obtain ⟨j, hj, rfl⟩ := List.getElem_of_mem hx
  rw [hP j hj (by omega)]
  decide
 have R1 : ∀ i, i < 2 → rul i s = false := fun i hi => by
  rcases i with _ | _ | i
  ·exact r0
  ·exact r1
  ·omega
 refine gW ?_
 refine g_cl rfl rfl (r_parts (by omega) fun vp w1 h' => ?_)
 replace hS := hS.call0.2 _ _ h'
 replace hS : St w (fun _ => False) w1 [row vp 9 1 (prt s).length ((prt s).map sv)] := hS
 clear h' hP hk hlt
 have hpm : ((prt s).map sv).length = (prt s).length := List.length_map ..
 have hpl : (prt s).length ≤ 4294967280 := by
  have := Lib.countB_le ⟨#[47]⟩ (by decide) _ (⟨s.toArray⟩ : ByteArray) (Nat.le_refl _)
  have h2 : (prt s).length = Lib.countB ⟨s.toArray⟩ ⟨#[47]⟩ + 1 := by
   rw [prt, List.length_map]
   exact Lib.splitB_all _ (by decide) _ _ _ rfl
  omega
 obtain ⟨a, c, rfl⟩ := hS.rlen 0 rfl
 refine gW ?_
 refine g_lp (ι := Nat) (fun k => [(0, sv s), (5, .slice a (prt s).length c), (6, .int .i64 k)]) (fun k w' => k ≤ (prt s).length ∧ (∀ j (hj : j < (prt s).length), j < k → (prt s)[j] ≠ []) ∧ St w (fun _ => False) w' [row (.slice a (prt s).length c) 9 1 (prt s).length ((prt s).map sv)]) (fun k => (prt s).length - k) 0 ⟨rfl, rfl, rfl, trivial⟩ ⟨Nat.zero_le _, fun j _ h => absurd h (Nat.not_lt_zero j), hS⟩ ?_
 clear hS
 rintro k w1 ⟨hk, hP, hS⟩
 refine gW ?_
 (refine g_cd rfl (fun hlt => ?_) (fun hlt => ?_) <;> simp only [cmv, arv, Bool.not_eq_true', Bool.not_eq_false', decide_eq_true_eq, decide_eq_false_iff_not] at hlt)
 ·have hlt : k < (prt s).length := by omega
  obtain ⟨b, off, cap, l, e1, hcap, hl, hx, hb⟩ := Rd.block (Ow.rd (hS.ok 0 _ rfl)) (by omega)
  cases e1
  refine gW ?_
  refine g_rq rfl rfl ⟨by omega, by omega⟩ ?_
  refine g_l1r rfl rfl hb (by rw [Int.toNat_natCast]; exact rd_x' hx hpm (by rw [hpm]; exact hlt)) ?_
  rw [List.getElem_map]
  refine gW ?_
  generalize hq : decide ((⟨(prt s)[k].toArray⟩ : ByteArray).data.toList = (⟨#[]⟩ : ByteArray).data.toList) = q
  have hq2 : decide ((prt s)[k] = []) = q := hq
  cases q
  ·refine gW ?_
   refine g_rq rfl rfl (in64 (by simp only [arv]; omega)) ?_
   refine gW ?_
   refine g_l (k + 1) ⟨rfl, rfl, rfl, trivial⟩ ⟨by omega, fun j hj hjk => ?_, hS⟩ (by omega)
   by_cases e : j = k
   ·subst e; exact of_decide_eq_false hq2
   ·exact hP j hj (by omega)
  ·refine gW ?_
   refine g_ret (q_1 rfl (stop 2 (by decide) R1 ?_ _ (hS.sel [] rfl rfl)))
   simp only [rul, List.any_eq_true]
   exact ⟨(prt s)[k], List.getElem_mem _, hq2⟩
 have hne : ∀ p ∈ prt s, p ≠ [] := fun p hp => by
  obtain ⟨j, hj, rfl⟩ := List.getElem_of_mem hp
  exact hP j hj (by omega)
 have r2 : rul 2 s = false := by
  simp only [rul]
  rw [List.any_eq_false]
  intro p hp
  rw [decide_eq_false (hne p hp)]
  decide
 have R2 : ∀ i, i < 3 → rul i s = false := fun i hi => by
  by_cases e : i = 2
  ·subst e; exact r2
  ·exact R1 i (by omega)
 clear hP hk hlt
 refine gW ?_
 refine g_lp (ι := Nat) (fun k => [(0, sv s), (5, .slice a (prt s).length c), (7, .int .i64 k)]) (fun k w' => k ≤ (prt s).length ∧ (∀ j (hj : j < (prt s).length), j < k → ([46] : Bs).isPrefixOf (prt s)[j] = false) ∧ St w (fun _ => False) w' [row (.slice a (prt s).length c) 9 1 (prt s).length ((prt s).map sv)]) (fun k => (prt s).length - k) 0 ⟨rfl, rfl, rfl, trivial⟩ ⟨Nat.zero_le _, fun j _ h => absurd h (Nat.not_lt_zero j), hS⟩ ?_
 clear hS
 rintro k w1 ⟨hk, hP, hS⟩
 refine gW ?_
 (refine g_cd rfl (fun hlt => ?_) (fun hlt => ?_) <;> simp only [cmv, arv, Bool.not_eq_true', Bool.not_eq_false', decide_eq_true_eq, decide_eq_false_iff_not] at hlt)
 ·have hlt : k < (prt s).length := by omega
  have hpk : 0 < (prt s)[k].length := List.length_pos_iff.2 (hne _ (List.getElem_mem hlt))
  obtain ⟨b, off, cap, l, e1, hcap, hl, hx, hb⟩ := Rd.block (Ow.rd (hS.ok 0 _ rfl)) (by omega)
  cases e1
  refine gW ?_
  refine g_rq rfl rfl ⟨by omega, by omega⟩ ?_
  refine g_l1r rfl rfl hb (by rw [Int.toNat_natCast]; exact rd_x' hx hpm (by rw [hpm]; exact hlt)) ?_
  rw [List.getElem_map]
  refine gW ?_
  refine g_rq rfl rfl ⟨by omega, by show ((0 : Nat) : Int) < ((prt s)[k].length : Int); omega⟩ ?_
  rw [show (0 : Int) = ((0 : Nat) : Int) from rfl, gd_at hpk]
  refine gW ?_
  rw [show (46 : Int) = ((46 : Nat) : Int) from rfl, ceq_c (by decide)]
  cases hq : decide ((prt s)[k][0] = UInt8.ofNat 46)
  ·have hq2 := of_decide_eq_false hq
   refine gW ?_
   refine g_rq rfl rfl (in64 (by simp only [arv]; omega)) ?_
   refine gW ?_
   refine g_l (k + 1) ⟨rfl, rfl, rfl, trivial⟩ ⟨by omega, fun j hj hjk => ?_, hS⟩ (by omega)
   by_cases e : j = k
   ·subst e
    cases hp : ([46] : Bs).isPrefixOf (prt s)[j]
    ·rfl
    ·exact absurd ((dot_pre hpk).1 hp) hq2
   ·exact hP j hj (by omega)
  ·refine gW ?_
   refine g_ret (q_1 rfl (stop 3 (by decide) R2 ?_ _ (hS.sel [] rfl rfl)))
   simp only [rul, List.any_eq_true]
   exact ⟨(prt s)[k], List.getElem_mem _, (dot_pre hpk).2 (of_decide_eq_true hq)⟩
 have r3 : rul 3 s = false := by
  simp only [rul]
  rw [List.any_eq_false]
  intro p hp
  obtain ⟨j, hj, rfl⟩ := List.getElem_of_mem hp
  rw [hP j hj (by omega)]
  decide
 have R3 : ∀ i, i < 4 → rul i s = false := fun i hi => by
  by_cases e : i = 3
  ·subst e; exact r3
  ·exact R2 i (by omega)
 clear hP hk hlt
 refine gW ?_
 refine g_lp (ι := Nat) (fun k => [(0, sv s), (5, .slice a (prt s).length c), (8, .int .i64 ((k : Nat) + 1 : Nat))]) (fun k w' => k + 1 ≤ s.length ∧ (∀ j (hj : j + 1 < s.length), j < k → ¬ (s[j] = 46 ∧ s[j + 1] = 46)) ∧ St w (fun _ => False) w' [row (.slice a (prt s).length c) 9 1 (prt s).length ((prt s).map sv)]) (fun k => s.length - k) 0 ⟨rfl, rfl, rfl, trivial⟩ ⟨by omega, fun j _ h => absurd h (Nat.not_lt_zero j), hS⟩ ?_
 clear hS
 rintro k w1 ⟨hk, hP, hS⟩
 refine gW ?_
 rw [esz]
 (refine g_cd rfl (fun hlt => ?_) (fun hlt => ?_) <;> simp only [cmv, arv, Bool.not_eq_true', Bool.not_eq_false', decide_eq_true_eq, decide_eq_false_iff_not] at hlt)
 ·have hlt : k + 1 < s.length := by omega
  have em : (arv BinOp.sub ((k + 1 : Nat) : Int) 1) = ((k : Nat) : Int) := by simp only [arv]; omega
  have next : ¬ (s[k] = 46 ∧ s[k + 1] = 46) → ∀ j (hj : j + 1 < s.length), j < k + 1 → ¬ (s[j] = 46 ∧ s[j + 1] = 46) := fun h0 j hj hjk => by
   by_cases e : j = k
   ·subst e; exact h0
   ·exact hP j hj (by omega)
  refine gW ?_
  refine g_rq rfl rfl ⟨by omega, by rw [hsl]; omega⟩ ?_
  rw [gd_at hlt]
  refine gW ?_
  rw [show (46 : Int) = ((46 : Nat) : Int) from rfl, ceq_c (by decide)]
  cases hq : decide (s[k + 1] = UInt8.ofNat 46)
  ·have hq2 := of_decide_eq_false hq
   refine gW ?_
   refine g_rq rfl rfl (in64 (by simp only [arv]; omega)) ?_
   refine gW ?_
   exact g_l (k + 1) ⟨rfl, rfl, by show some (Value.int .i64 _) = some (Value.int .i64 _); congr 2, trivial⟩ ⟨by omega, next (fun h => hq2 h.2), hS⟩ (by omega)
  ·have hq2 := of_decide_eq_true hq
   refine gW ?_
   refine g_rq rfl rfl (in64 (by rw [em]; omega)) ?_
   rw [em]
   refine g_rq rfl rfl ⟨by omega, by rw [hsl]; omega⟩ ?_
   rw [gd_at (show k < s.length by omega)]
   refine gW ?_
   rw [ceq_c (by decide)]
   cases hq3 : decide (s[k] = UInt8.ofNat 46)
   ·have hq4 := of_decide_eq_false hq3
    refine gW ?_
    refine g_rq rfl rfl (in64 (by simp only [arv]; omega)) ?_
    refine gW ?_
    exact g_l (k + 1) ⟨rfl, rfl, by show some (Value.int .i64 _) = some (Value.int .i64 _); congr 2, trivial⟩ ⟨by omega, next (fun h => hq4 h.1), hS⟩ (by omega)
   ·refine gW ?_
    refine g_ret (q_1 rfl (stop 4 (by decide) R3 ?_ _ (hS.sel [] rfl rfl)))
    simp only [rul]
    unfold Lib.contains
    rw [decide_eq_true_eq, cont2]
    refine ⟨k, ?_, ?_⟩
    ·rw [List.getElem?_eq_getElem (by omega)]
     exact congrArg some (of_decide_eq_true hq3)
    ·rw [List.getElem?_eq_getElem hlt]
     exact congrArg some hq2
 have r4 : rul 4 s = false := by
  simp only [rul]
  unfold Lib.contains
  rw [decide_eq_false_iff_not, cont2]
  rintro ⟨i, h1, h2⟩
  have hi := (List.getElem?_eq_some_iff.1 h2).1
  exact hP i hi (by omega) ⟨(List.getElem?_eq_some_iff.1 h1).2, (List.getElem?_eq_some_iff.1 h2).2⟩
 have R4 : ∀ i, i < 5 → rul i s = false := fun i hi => by
  by_cases e : i = 4
  ·subst e; exact r4
  ·exact R3 i (by omega)
 clear hP hk hlt
 refine gW ?_
 refine g_lp (ι := Nat) (fun k => [(0, sv s), (5, .slice a (prt s).length c), (9, .int .i64 k)]) (fun k w' => k ≤ (prt s).length ∧ (∀ j (hj : j < (prt s).length), j < k → ([46, 108, 111, 99, 107] : Bs).isSuffixOf (prt s)[j] = false) ∧ St w (fun _ => False) w' [row (.slice a (prt s).length c) 9 1 (prt s).length ((prt s).map sv)]) (fun k => (prt s).length - k) 0 ⟨rfl, rfl, rfl, trivial⟩ ⟨Nat.zero_le _, fun j _ h => absurd h (Nat.not_lt_zero j), hS⟩ ?_
 clear hS
 rintro k w1 ⟨hk, hP, hS⟩
 refine gW ?_
 (refine g_cd rfl (fun hlt => ?_) (fun hlt => ?_) <;> simp only [cmv, arv, Bool.not_eq_true', Bool.not_eq_false', decide_eq_true_eq, decide_eq_false_iff_not] at hlt)
 ·have hlt : k < (prt s).length := by omega
  obtain ⟨b, off, cap, l, e1, hcap, hl, hx, hb⟩ := Rd.block (Ow.rd (hS.ok 0 _ rfl)) (by omega)
  cases e1
  have eszp : (⟨(prt s)[k].toArray⟩ : ByteArray).size = (prt s)[k].length := by rw [Lib.size_eq]
  have hpl : (prt s)[k].length ≤ s.length := prt_le (List.getElem_mem hlt)
  have next : ([46, 108, 111, 99, 107] : Bs).isSuffixOf (prt s)[k] = false → ∀ j (hj : j < (prt s).length), j < k + 1 → ([46, 108, 111, 99, 107] : Bs).isSuffixOf (prt s)[j] = false := fun h0 j hj hjk => by
   by_cases e : j = k
   ·subst e; exact h0
   ·exact hP j hj (by omega)
  refine gW ?_
  refine g_rq rfl rfl ⟨by omega, by omega⟩ ?_
  refine g_l1r rfl rfl hb (by rw [Int.toNat_natCast]; exact rd_x' hx hpm (by rw [hpm]; exact hlt)) ?_
  rw [List.getElem_map]
  refine gW ?_
  rw [eszp]
  (generalize q3 : cmv _ _ _ = q; cases q <;> simp only [cmv, arv, Bool.not_eq_true', Bool.not_eq_false', decide_eq_true_eq, decide_eq_false_iff_not] at q3 <;> first | (exfalso; omega) | skip)
  ·refine gW ?_
   refine g_rq rfl rfl (in64 (by simp only [arv]; omega)) ?_
   refine gW ?_
   refine g_l (k + 1) ⟨rfl, rfl, rfl, trivial⟩ ⟨by omega, next ?_, hS⟩ (by omega)
   cases hp : ([46, 108, 111, 99, 107] : Bs).isSuffixOf (prt s)[k]
   ·rfl
   ·have := ((lock_suf _).1 hp).1
    omega
  ·refine gW ?_
   refine g_rq rfl rfl ⟨by omega, by omega⟩ ?_
   refine g_l1r rfl rfl hb (by rw [Int.toNat_natCast]; exact rd_x' hx hpm (by rw [hpm]; exact hlt)) ?_
   rw [List.getElem_map]
   refine gW ?_
   refine g_rq rfl rfl (in64 (by simp only [arv]; omega)) ?_
   have em : (arv BinOp.sub ((prt s)[k].length : Int) 5).toNat = (prt s)[k].length - 5 := by simp only [arv]; omega
   refine g_rq rfl rfl ⟨by simp only [arv]; omega, by rw [eszp]; simp only [arv]; omega, by rw [eszp]; omega⟩ ?_
   rw [em, eszp, Int.toNat_natCast]
   have ex : (⟨(prt s)[k].toArray⟩ : ByteArray).extract ((prt s)[k].length - 5) (prt s)[k].length = ⟨((prt s)[k].drop ((prt s)[k].length - 5)).toArray⟩ := by
    have := sv_ext (prt s)[k] ((prt s)[k].length - 5) (prt s)[k].length
    rw [List.take_of_length_le (by rw [List.length_drop]; omega)] at this
    exact Value.string.inj this
   rw [ex]
   refine gW ?_
   generalize hq : decide ((⟨((prt s)[k].drop ((prt s)[k].length - 5)).toArray⟩ : ByteArray).data.toList = (⟨#[46, 108, 111, 99, 107]⟩ : ByteArray).data.toList) = q
   have hq2 : decide ((prt s)[k].drop ((prt s)[k].length - 5) = [46, 108, 111, 99, 107]) = q := hq
   cases q
   ·refine gW ?_
    refine g_rq rfl rfl (in64 (by simp only [arv]; omega)) ?_
    refine gW ?_
    refine g_l (k + 1) ⟨rfl, rfl, rfl, trivial⟩ ⟨by omega, next ?_, hS⟩ (by omega)
    cases hp : ([46, 108, 111, 99, 107] : Bs).isSuffixOf (prt s)[k]
    ·rfl
    ·exact absurd ((lock_suf _).1 hp).2 (of_decide_eq_false hq2)
   ·refine gW ?_
    refine g_ret (q_1 rfl (stop 5 (by decide) R4 ?_ _ (hS.sel [] rfl rfl)))
    simp only [rul, List.any_eq_true]
    exact ⟨(prt s)[k], List.getElem_mem _, (lock_suf _).2 ⟨by omega, of_decide_eq_true hq2⟩⟩
 have r5 : rul 5 s = false := by
  simp only [rul]
  rw [List.any_eq_false]
  intro p hp
  obtain ⟨j, hj, rfl⟩ := List.getElem_of_mem hp
  rw [hP j hj (by omega)]
  decide
 have R5 : ∀ i, i < 6 → rul i s = false := fun i hi => by
  by_cases e : i = 5
  ·subst e; exact r5
  ·exact R4 i (by omega)
 clear hP hk hlt
 have hs0 : 0 < s.length := by omega
 refine gW ?_
 rw [esz]
 have em : (arv BinOp.sub (s.length : Int) 1) = ((s.length - 1 : Nat) : Int) := by simp only [arv]; omega
 refine g_rq rfl rfl (in64 (by rw [em]; omega)) ?_
 rw [em]
 refine g_rq rfl rfl ⟨by omega, by rw [hsl]; omega⟩ ?_
 rw [gd_at (show s.length - 1 < s.length by omega)]
 refine gW ?_
 rw [show (46 : Int) = ((46 : Nat) : Int) from rfl, ceq_c (by decide)]
 cases hq : decide (s[s.length - 1] = UInt8.ofNat 46)
 rotate_left
 ·refine gW ?_
  refine g_ret (q_1 rfl (stop 6 (by decide) R5 ?_ _ (hS.sel [] rfl rfl)))
  simp only [rul]
  exact (dot_suf hs0).2 (of_decide_eq_true hq)
 have r6 : rul 6 s = false := by
  simp only [rul]
  cases hp : ([46] : Bs).isSuffixOf s
  ·rfl
  ·exact absurd ((dot_suf hs0).1 hp) (of_decide_eq_false hq)
 have R6 : ∀ i, i < 7 → rul i s = false := fun i hi => by
  by_cases e : i = 6
  ·subst e; exact r6
  ·exact R5 i (by omega)
 refine gW ?_
 refine g_lp (ι := Nat) (fun k => [(0, sv s), (11, .int .i64 ((k : Nat) + 1 : Nat))]) (fun k w' => k + 1 ≤ s.length ∧ (∀ j (hj : j + 1 < s.length), j < k → ¬ (s[j] = 64 ∧ s[j + 1] = 123)) ∧ St w (fun _ => False) w' []) (fun k => s.length - k) 0 ⟨rfl, rfl, trivial⟩ ⟨by omega, fun j _ h => absurd h (Nat.not_lt_zero j), hS.sel [] rfl rfl⟩ ?_
 clear hS
 rintro k w1 ⟨hk, hP, hS⟩
 refine gW ?_
 rw [esz]
 (refine g_cd rfl (fun hlt => ?_) (fun hlt => ?_) <;> simp only [cmv, arv, Bool.not_eq_true', Bool.not_eq_false', decide_eq_true_eq, decide_eq_false_iff_not] at hlt)
 ·have hlt : k + 1 < s.length := by omega
  have em : (arv BinOp.sub ((k + 1 : Nat) : Int) 1) = ((k : Nat) : Int) := by simp only [arv]; omega
  have next : ¬ (s[k] = 64 ∧ s[k + 1] = 123) → ∀ j (hj : j + 1 < s.length), j < k + 1 → ¬ (s[j] = 64 ∧ s[j + 1] = 123) := fun h0 j hj hjk => by
   by_cases e : j = k
   ·subst e; exact h0
   ·exact hP j hj (by omega)
  refine gW ?_
  refine g_rq rfl rfl ⟨by omega, by rw [hsl]; omega⟩ ?_
  rw [gd_at hlt]
  refine gW ?_
  rw [show (123 : Int) = ((123 : Nat) : Int) from rfl, ceq_c (by decide)]
  cases hq : decide (s[k + 1] = UInt8.ofNat 123)
  ·have hq2 := of_decide_eq_false hq
   refine gW ?_
   refine g_rq rfl rfl (in64 (by simp only [arv]; omega)) ?_
   refine gW ?_
   exact g_l (k + 1) ⟨rfl, by show some (Value.int .i64 _) = some (Value.int .i64 _); congr 2, trivial⟩ ⟨by omega, next (fun h => hq2 h.2), hS⟩ (by omega)
  ·have hq2 := of_decide_eq_true hq
   refine gW ?_
   refine g_rq rfl rfl (in64 (by rw [em]; omega)) ?_
   rw [em]
   refine g_rq rfl rfl ⟨by omega, by rw [hsl]; omega⟩ ?_
   rw [gd_at (show k < s.length by omega)]
   refine gW ?_
   rw [show (64 : Int) = ((64 : Nat) : Int) from rfl, ceq_c (by decide)]
   cases hq3 : decide (s[k] = UInt8.ofNat 64)
   ·have hq4 := of_decide_eq_false hq3
    refine gW ?_
    refine g_rq rfl rfl (in64 (by simp only [arv]; omega)) ?_
    refine gW ?_
    exact g_l (k + 1) ⟨rfl, by show some (Value.int .i64 _) = some (Value.int .i64 _); congr 2, trivial⟩ ⟨by omega, next (fun h => hq4 h.1), hS⟩ (by omega)
   ·refine gW ?_
    refine g_ret (q_1 rfl (stop 7 (by decide) R6 ?_ _ hS))
    simp only [rul]
    unfold Lib.contains
    rw [decide_eq_true_eq, cont2]
    refine ⟨k, ?_, ?_⟩
    ·rw [List.getElem?_eq_getElem (by omega)]
     exact congrArg some (of_decide_eq_true hq3)
    ·rw [List.getElem?_eq_getElem hlt]
     exact congrArg some hq2
 have r7 : rul 7 s = false := by
  simp only [rul]
  unfold Lib.contains
  rw [decide_eq_false_iff_not, cont2]
  rintro ⟨i, h1, h2⟩
  have hi := (List.getElem?_eq_some_iff.1 h2).1
  exact hP i hi (by omega) ⟨(List.getElem?_eq_some_iff.1 h1).2, (List.getElem?_eq_some_iff.1 h2).2⟩
 have e0 : brk s = 0 := brk_no8 fun i hi => by
  by_cases e : i = 7
  ·subst e; exact r7
  ·exact R6 i (by omega)
 rw [e0] at h
 refine gW ?_
 exact g_ret (q_1 rfl (h _ hS))
theorem r_Check4 (h : ∀ w', St w (fun _ => False) w' [] → K (.int .i64 (nmE s)) w') : CK Tryz.prog 21 [sv s] w K := by
 refine call_k Tryz.func21 k21 Tryz.ntmps21 (Nat.le_of_ble_eq_true rfl) ?_
 refine gW ?_
 refine g_cl rfl rfl (r_Breaks fun w1 hS => ?_)
 refine gW ?_
 by_cases e : brk s = 0
 ·rw [show nmE s = 0 by unfold nmE; rw [if_pos e]] at h
  rw [e]
  refine gW ?_
  exact g_ret (q_1 rfl (h _ hS))
 ·have e1 : nmE s = 40 := by unfold nmE; rw [if_neg e]
  rw [e1] at h
  rw [show cmv BinOp.gtr (brk s : Int) 0 = true by simp only [cmv, decide_eq_true_eq]; omega]
  refine gW ?_
  exact g_ret (q_1 rfl (h _ hS))
end
theorem pev_bd' {T : TT} {z : ZZ} {ps : List (Nat × Nat × Operand)} {out : List Value} (h : fillP T ps (zx z) = some out) : pev T (.bd z ps) = .ok (.agg ⟨out⟩) := by simp [pev, h]
section
variable {w w0 : World} {S0 : Nat → Prop} {L B : List Res} {K : Value → World → Prop} {s : Bs} {E0 E1 : Nat}
set_option maxHeartbeats 4000000 in
theorem r_Names20 {v : Value} {n : Nat} {ids : List Id} (hd : ids.length = n) (hn : n < 2000000) (hr : Rd v E0 32 n (fl ic ids) w)
  (h0 : brk s ≠ 0 → ∀ w', St w (fun _ => False) w' [] → K (.tuple ⟨[.slice none 0 0, .int .i64 40]⟩) w')
  (h : brk s = 0 → ∀ v' w', St w (fun _ => False) w' [row v' 56 33 (nmL s ids).length (fl lc (nmL s ids))] → K (.tuple ⟨[v', .int .i64 0]⟩) w') : CK Tryz.prog 7 [sv s, v] w K := by
 have hS := St.nil w (fun _ => False)
 refine call_k Tryz.func7 k7 Tryz.ntmps7 (Nat.le_of_ble_eq_true rfl) ?_
 refine gW ?_
 refine g_cl rfl rfl (r_Check4 fun w' hS => ?_)
 refine gW ?_
 by_cases e : brk s = 0
 rotate_left
 ·have e1 : nmE s = 40 := by unfold nmE; rw [if_neg e]
  rw [e1]
  refine gW ?_
  exact g_ret (q_2 rfl rfl (h0 e _ hS))
 have e1 : nmE s = 0 := by unfold nmE; rw [if_pos e]
 rw [e1]
 have hle := brk_le e
 replace h := h e
 clear h0
 refine gW ?_
 refine g_cl rfl rfl (r_Set hd hn (hr.same fun b hb => hS.fr.kept b (hr.lt b hb) (fun h => h)) fun v1 w1 h' => ?_)
 replace hS := hS.call0.2 _ _ h'
 replace hS : St w (fun _ => False) w1 [row v1 46 32 (iset ids).length (fl ic (iset ids))] := hS
 clear h'
 have hml : (iset ids).length < 2000000 := by have := kset_len (fun x : Id => x.1) ids; unfold iset; omega
 have hnm : nmL s ids = (iset ids).map (nm1 s (decide (1 < (iset ids).length))) := rfl
 have hsrt := nmL_sorted s ids
 rw [hnm] at h hsrt
 clear hnm
 generalize iset ids = I at *
 obtain ⟨a, c, rfl⟩ := hS.rlen 0 rfl
 have blk : ∀ {k : Nat} (hlt : k < I.length) {w' : World} {L : List Res}, St w (fun _ => False) w' (row (.slice a I.length c) 46 32 I.length (fl ic I) :: L) → ∃ b off lr, a = some ⟨b, off, none⟩ ∧ I.length ≤ c ∧ off + k * 32 + 32 ≤ lr.length ∧ (lr.drop (off + k * 32)).take 32 = ic I[k] ∧ Blr w' b lr 46 := fun {k} hlt {_ _} hS => by
  obtain ⟨b, off, cap, lr, e1, hcap, hlr, hx, hb⟩ := Rd.block (Ow.rd (hS.ok 0 _ rfl)) (by omega)
  cases e1
  exact ⟨b, off, lr, rfl, hcap, by have : (k + 1) * 32 ≤ c * 32 := Nat.mul_le_mul_right 32 (by omega); omega, rd_at ic_len hx rfl hlt, hb⟩
 refine gW ?_
 have e1 : cmv .eql (I.length : Int) 1 = decide (I.length = 1) := by
  simp only [cmv]
  exact decide_eq_decide.2 ⟨fun h => by omega, fun h => by omega⟩
 rw [e1]
 by_cases hI1 : I.length = 1
 ·rw [decide_eq_true hI1]
  obtain ⟨x, rfl⟩ : ∃ x, I = [x] := by
   match I, hI1 with
   | [x], _ => exact ⟨x, rfl⟩
  obtain ⟨b, off, lr, rfl, hcap, hbd, hX, hb⟩ := blk (k := 0) (Nat.zero_lt_succ _) hS
  refine gW ?_
  refine g_rq rfl rfl ⟨Int.le_refl _, by simp⟩ ?_
  refine g_lmr rfl rfl hb hbd ?_
  rw [show (Int.toNat 0) = 0 from rfl, hX]
  refine g_qt rfl (qt_bd (out := lc (s, x)) (fill_li _ rfl rfl) _) ?_
  refine g_ef rfl (ef_bl (rs := lc (s, x)) hS (evcs_1 rfl (lc_len _)) fun g w1 hS => ?_)
  refine gW ?_
  refine g_ret (q_2 rfl rfl (h _ _ ?_))
  have e2 : fl lc (List.map (nm1 s (decide (1 < [x].length))) [x]) = lc (s, x) := by simp [fl, nm1]
  rw [e2]
  exact (hS.close_row (n := 1) (cap := 1) (sz := 33) (xs := lc (s, x)) 1 rfl (Nat.le_refl _) (lc_len _) (List.prefix_refl _) (lc_len _)).sel [1] rfl rfl
 rw [decide_eq_false hI1]
 have hnm1 : ∀ (y : Id) (k : Nat), k < I.length → ∀ (hk : k + 1 ≤ I.length), y ∈ I → nm1 s (decide (1 < I.length)) y = (s ++ 126 :: hex y.1, y) := fun y k hk _ hy => by
  unfold nm1 cfl
  rw [if_pos (decide_eq_true (by omega))]
 refine gW ?_
 refine g_lp (ι := Nat × Value) (fun x => [(0, sv s), (6, .slice a I.length c), (7, x.2), (8, .int .i64 x.1)])
  (fun x w' => x.1 ≤ I.length ∧ St w (fun _ => False) w' [row (.slice a I.length c) 46 32 I.length (fl ic I), row x.2 56 33 x.1 (fl lc ((I.take x.1).map (nm1 s (decide (1 < I.length)))))]) (fun x => I.length - x.1) (0, .slice none 0 0)
  ⟨rfl, rfl, rfl, rfl, trivial⟩ ⟨Nat.zero_le _, hS.nilrow 56 33⟩ ?_
 clear hS
 rintro ⟨k, vo⟩ w1 ⟨hk, hS⟩
 dsimp only at hk hS ⊢
 refine gW ?_
 (generalize hlt : cmv _ _ _ = q; cases q <;> simp only [cmv, arv, Bool.not_eq_true', Bool.not_eq_false', decide_eq_true_eq, decide_eq_false_iff_not] at hlt <;> first | (exfalso; omega) | skip)
 ·have ek : k = I.length := by omega
  subst ek
  rw [List.take_length] at hS
  refine gW ?_
  refine g_ret (q_2 rfl rfl (h _ _ ?_))
  rw [List.length_map]
  exact hS.sel [1] rfl rfl
 have hlt : k < I.length := by omega
 have hF := hS.drew
 obtain ⟨b, off, lr, rfl, hcap, hbd, hX, hb⟩ := blk hlt hF
 have hym := hnm1 I[k] k hlt hlt (List.getElem_mem hlt)
 have htk : (I.take (k + 1)).map (nm1 s (decide (1 < I.length))) = (I.take k).map (nm1 s (decide (1 < I.length))) ++ [nm1 s (decide (1 < I.length)) I[k]] := by
  rw [List.take_succ_eq_append_getElem hlt, List.map_append]
  rfl
 have hpw : ((I.take k).map (nm1 s (decide (1 < I.length))) ++ [nm1 s (decide (1 < I.length)) I[k]]).Pairwise fun x y => ble x.1 y.1 = true := by
  rw [← htk]
  exact List.Pairwise.sublist ((List.take_sublist _ _).map _) hsrt
 have hFl : ((I.take k).map (nm1 s (decide (1 < I.length)))).length = k := by rw [List.length_map, List.length_take]; omega
 rw [hym] at htk hpw
 generalize (I.take k).map (nm1 s (decide (1 < I.length))) = F at *
 generalize hY : I[k] = Y at *
 have hle1 : ∀ a ∈ F, ble a.1 (s ++ 126 :: hex Y.1) = true := fun a ha => (List.pairwise_append.1 hpw).2.2 a ha _ (List.mem_singleton.2 rfl)
 have hxl : (hex Y.1).length = 64 := by rw [hex_len, Y.2]
 clear hF
 refine gW ?_
 refine g_dr mixed ?_
 replace hS := hS.drew
 refine gD ?_
 refine d_rq rfl rfl rfl (by rw [Lib.size_eq, Lib.size_eq]; simp; omega) ?_
 refine gD ?_
 refine d_rq rfl rfl rfl ⟨by omega, by omega⟩ ?_
 refine d_qt rfl rfl rfl (qt_ldmr rfl hb hbd) ?_
 rw [Int.toNat_natCast, hX]
 refine gD ?_
 refine d_rq rfl rfl rfl ⟨by omega, by omega⟩ ?_
 refine d_qt rfl rfl rfl (qt_ldmr rfl hb hbd) ?_
 rw [Int.toNat_natCast, hX]
 refine d_cl rfl rfl rfl (r_Text Y.2 fun w2 h' => ⟨?_, ?_⟩)
 ·obtain ⟨b2, off2, lr2, e2, hcap2, hbd2, hX2, hb2⟩ := blk hlt (hS.call0.2 _ _ h')
  cases e2
  rw [hY] at hX2
  refine rc_qt rfl rfl rfl rfl (hX2 ▸ qt_ldmr rfl hb2 hbd2) rc_0
 replace hS := hS.call0.2 _ _ h'
 clear h' hb
 rw [List.append_nil] at hS
 refine gD ?_
 refine d_rq rfl rfl rfl (by simp [Lib.size_eq, hex_len]; omega) ?_
 have esv : Value.string ((⟨s.toArray⟩ : ByteArray) ++ ⟨#[126]⟩ ++ ⟨(hex Y.1).toArray⟩) = sv (s ++ 126 :: hex Y.1) := by
  rw [← sv_of]; congr 1; simp
 rw [esv]
 refine d_ok rfl rfl (pev_bd' (fill_li (s ++ 126 :: hex Y.1, Y) rfl rfl)) ?_
 refine d_cl rfl rfl rfl (r_in (o := F) (x := (s ++ 126 :: hex Y.1, Y)) hFl (by omega) (hS.ok 1 _ rfl) fun j v2 w2 h1 h2 h' => ⟨rc_0, ?_⟩)
 replace hS := hS.call0.2 _ _ h'
 clear h'
 have hj : F.length ≤ j := Nat.le_of_not_lt fun hj => h2 hj (hle1 _ (List.getElem_mem hj))
 have ei : insAt F j (s ++ 126 :: hex Y.1, Y) = F ++ [(s ++ 126 :: hex Y.1, Y)] := by
  unfold insAt
  rw [List.take_of_length_le hj, List.drop_eq_nil_of_le hj]
 rw [ei, ← htk] at hS
 refine d_e rfl rfl (ef_qt ((pev_ok rfl).2 _) ⟨rc_0, ?_⟩)
 refine d_fin ?_
 refine gW ?_
 refine g_rq rfl rfl (in64 (by simp only [arv]; omega)) ?_
 refine gW ?_
 refine g_l (k + 1, v2) ⟨rfl, rfl, rfl, rfl, trivial⟩ ⟨by simp only; omega, ?_⟩ (by simp only; omega)
 have e3 : ((I.take (k + 1)).map (nm1 s (decide (1 < I.length)))).length = k + 1 := by rw [List.length_map, List.length_take]; omega
 rw [e3] at hS
 exact hS.sel [0, 2] rfl rfl
end
def e1 (o : Value × Bs) : List Value := [o.1]
theorem e1_len (o : Value × Bs) : (e1 o).length = 1 := rfl
theorem rd_e1 {l : List Value} {off n : Nat} {d : List (Value × Bs)} (h : (l.drop off).take (n * 1) = fl e1 d) (hn : d.length = n) {i : Nat} (hi : i < d.length) : l[off + i * 1]? = some d[i].1 := by
 have h1 := rd_at e1_len h hn hi
 have h2 := congrArg (fun l : List Value => l[0]?) h1
 simp only [List.getElem?_take, List.getElem?_drop] at h2
 rw [if_pos (by decide)] at h2
 exact h2
section
variable {w w0 : World} {S0 : Nat → Prop} {L B : List Res} {K : Value → World → Prop} {s : Bs} {E0 E1 : Nat} {bS bm : Nat} {q : Int} {vl : Value} {Z : List On} {l : Sto} {x y : Id}
theorem hds_len (l : Sto) (t : List Id) : (hdsS l t).length ≤ t.length := Nat.le_trans (List.length_filter_le _ _) (kset_len (fun x : Id => x.1) t)
theorem b_Survivors {v : Value} {tips : List Id} (hG : SG l) (hn : tips.length < 400000) (hr : ∀ {L : List Res} {w' : World}, St w0 S0 w' L → Rd v E0 32 tips.length (fl ic tips) w') (hS : St w0 S0 w (SR bS bm q l)) (h : ∀ v' w', St w0 S0 w' (SR bS bm q l ++ [rowI v' (iset (hdsS l tips))]) → K v' w') : CK Tryz.prog 9 [dp bS, v] w K := by
 have hl := hds_len l tips
 refine call_k Tryz.func9 k9 Tryz.ntmps9 (Nat.le_of_ble_eq_true rfl) ?_
 refine gW ?_
 refine g_cl rfl rfl (b_Heads hG hn hr hS fun v1 w1 hS => ?_)
 refine g_cl rfl rfl (b_Set rfl (by omega) (Ow.rd (hS.ok 2 _ rfl)) fun v2 w2 h' => ?_)
 replace hS := hS.call0.2 _ _ h'
 refine gW ?_
 exact g_ret (q_1 rfl (h _ _ (hS.sel [0, 1, 3] rfl rfl)))
theorem r_Survivors {v : Value} {tips : List Id} (hG : SG (ZS Z)) (hn : tips.length < 2000000) (hr : ∀ {L : List Res} {w' : World}, St w0 S0 w' L → Rd v E0 32 tips.length (fl ic tips) w') (hS : St w0 S0 w (XR bS vl q Z)) (h : ∀ v' w', St w0 S0 w' (XR bS vl q Z ++ [rowI v' (iset (hdsS (ZS Z) tips))]) → K v' w') : CK Tryz.prog 10 [dp bS, v] w K := by
 have hl := hds_len (ZS Z) tips
 refine call_k Tryz.func10 k10 Tryz.ntmps10 (Nat.le_of_ble_eq_true rfl) ?_
 refine gW ?_
 refine g_cl rfl rfl (r_Heads10 hG hn hr hS fun v1 w1 hS => ?_)
 refine g_cl rfl rfl (r_Set rfl (by omega) (Ow.rd (hS.ok 3 _ rfl)) fun v2 w2 h' => ?_)
 replace hS := hS.call0.2 _ _ h'
 refine gW ?_
 exact g_ret (q_1 rfl (h _ _ (hS.sel [0, 1, 2, 4] rfl rfl)))
theorem b_great {v : Value} {Z : List (Value × Bs)} {n : Nat} (hd : Z.length = n) (hn : n ≤ 9223372036854775807) (hr : Rd v E0 1 n (fl e1 Z) w) (he : ∀ p ∈ Z, Ext w p) (h : ∀ g : Bool, (g = false → n ≤ 30 ∧ ∀ p ∈ Z, p.2.length ≤ 4100) → ∀ w', St w (fun _ => False) w' [] → K (.bool g) w') : CK Tryz.prog 4 [v] w K := by
 have hS := St.nil w (fun _ => False)
 have hrr : ∀ {L : List Res} (w' : World), St w (fun _ => False) w' L → Rd v E0 1 n (fl e1 Z) w' := fun w' hS => hr.same fun b hb => hS.fr.kept b (hr.lt b hb) (fun h => h)
 obtain ⟨a, c, rfl⟩ := hr.form
 subst hd
 refine call_k Tryz.func4 k4 Tryz.ntmps4 (Nat.le_of_ble_eq_true rfl) ?_
 refine gW ?_
 refine g_lp (ι := Nat) (fun k => [(0, .slice a Z.length c), (5, .slice a Z.length c), (6, .int .i64 Z.length), (7, .int .i64 k)]) (fun k w' => k ≤ Z.length ∧ (∀ p ∈ Z.take k, p.2.length ≤ 4100) ∧ St w (fun _ => False) w' []) (fun k => Z.length - k) 0 ⟨rfl, rfl, rfl, rfl, trivial⟩ ⟨Nat.zero_le _, (fun p hp => absurd hp List.not_mem_nil), hS⟩ ?_
 clear hS
 rintro k w1 ⟨hk, hI, hS⟩
 refine gW ?_
 (generalize hlt : cmv _ _ _ = q; cases q <;> simp only [cmv, arv, Bool.not_eq_true', Bool.not_eq_false', decide_eq_true_eq, decide_eq_false_iff_not] at hlt <;> first | (exfalso; omega) | skip)
 ·have ek : k = Z.length := by omega
  subst ek
  rw [List.take_length] at hI
  refine gW ?_
  (generalize hg : cmv _ _ _ = q; cases q <;> simp only [cmv, arv, Bool.not_eq_true', Bool.not_eq_false', decide_eq_true_eq, decide_eq_false_iff_not] at hg <;> first | (exfalso; omega) | skip)
  ·exact g_ret (q_1 rfl (h false (fun _ => ⟨by omega, hI⟩) _ hS))
  ·exact g_ret (q_1 rfl (h true (fun h => by cases h) _ hS))
 have hlt : k < Z.length := by omega
 obtain ⟨b, off, cap, lr, e1, hcap, hlr, hx, hb⟩ := Rd.block (hrr _ hS) (by omega)
 cases e1
 have hv := rd_e1 hx rfl hlt
 obtain ⟨E2, hz⟩ := he _ (List.getElem_mem hlt)
 have htk : ∀ p, p ∈ Z.take (k + 1) ↔ p ∈ Z.take k ∨ p = Z[k] := fun z => by rw [List.take_succ_eq_append_getElem hlt, List.mem_append, List.mem_singleton]
 generalize Z[k] = z at *
 obtain ⟨z1, z2⟩ := z
 obtain ⟨a2, c2, e2⟩ := hz.form
 dsimp only at hv hz e2 htk
 subst e2
 refine gW ?_
 refine g_rq rfl rfl ⟨by omega, by omega⟩ ?_
 refine g_l1r rfl rfl hb hv ?_
 refine gW ?_
 (generalize hg : cmv _ _ _ = q; cases q <;> simp only [cmv, arv, Bool.not_eq_true', Bool.not_eq_false', decide_eq_true_eq, decide_eq_false_iff_not] at hg <;> first | (exfalso; omega) | skip)
 ·refine gW ?_
  refine g_rq rfl rfl (in64 (by simp only [arv]; omega)) ?_
  refine gW ?_
  refine g_l (k + 1) ⟨rfl, rfl, rfl, rfl, trivial⟩ ⟨hlt, fun p hp => ?_, hS⟩ (by omega)
  rcases (htk p).1 hp with hp | rfl
  ·exact hI p hp
  ·dsimp only; omega
 ·refine gW ?_
  exact g_ret (q_1 rfl (h true (fun h => by cases h) _ hS))
set_option maxHeartbeats 2000000 in
theorem b_both {v : Value} {Z : List (Value × Bs)} {n : Nat} (hd : Z.length = n) (hn : n ≤ 30) (htb : Tb w) (hr : Rd v E0 1 n (fl e1 Z) w) (he : ∀ p ∈ Z, Ext w p) (hb : ∀ p ∈ Z, p.2.length ≤ 4100) (h : ∀ bS bm bX vl q Z' w', SG (ZS Z') → St w (fun _ => False) w' (SR bS bm q (ZS Z') ++ XR bX vl q Z') → K (.tuple ⟨[dp bS, dp bX, .bool true]⟩) w') : CK Tryz.prog 5 [v] w K := by
 have hS := St.nil w (fun _ => False)
 have hrr : ∀ {L : List Res} (w' : World), St w (fun _ => False) w' L → Rd v E0 1 n (fl e1 Z) w' := fun w' hS => hr.same fun b hb => hS.fr.kept b (hr.lt b hb) (fun h => h)
 obtain ⟨a, c, rfl⟩ := hr.form
 subst hd
 refine call_k Tryz.func5 k5 Tryz.ntmps5 (Nat.le_of_ble_eq_true rfl) ?_
 refine gW ?_
 refine g_cl rfl rfl (b_NewS (q := 1073741824) (Nat.le_refl _) fun bS bm w1 hS => ?_)
 refine gW ?_
 refine g_cl rfl rfl (r_NewS (q := 1073741824) (Nat.le_refl _) fun bX w2 h' => ?_)
 replace hS := hS.call0.2 _ _ h'
 clear h'
 refine gW ?_
 replace h := fun vl Z' w' => h bS bm bX vl ((1073741824 : Nat) : Int) Z' w'
 refine g_lp (ι := Nat × Value × List On) (fun y => [(5, dp bS), (7, dp bX), (30, .slice a Z.length c), (31, .int .i64 Z.length), (32, .int .i64 y.1)]) (fun y w' => y.1 ≤ Z.length ∧ y.2.2.length ≤ y.1 ∧ SG (ZS y.2.2) ∧ St w (fun _ => False) w' (SR bS bm ((1073741824 : Nat) : Int) (ZS y.2.2) ++ XR bX y.2.1 ((1073741824 : Nat) : Int) y.2.2)) (fun y => Z.length - y.1) (0, nl, []) ⟨rfl, rfl, rfl, rfl, rfl, trivial⟩ ⟨Nat.zero_le _, Nat.zero_le _, ⟨List.Pairwise.nil, fun _ h => absurd h List.not_mem_nil, fun _ h => absurd h List.not_mem_nil, by decide, by decide⟩, hS⟩ ?_
 clear hS
 rintro ⟨k, vl, Y⟩ w1 ⟨hk, hY, hG, hS⟩
 dsimp only at hk hY hG hS ⊢
 refine gW ?_
 (generalize hlt : cmv _ _ _ = q; cases q <;> simp only [cmv, arv, Bool.not_eq_true', Bool.not_eq_false', decide_eq_true_eq, decide_eq_false_iff_not] at hlt <;> first | (exfalso; omega) | skip)
 ·refine gW ?_
  exact g_ret (q_3 rfl rfl rfl (h vl Y _ hG hS))
 have hlt : k < Z.length := by omega
 have hYl : (ZS Y).length = Y.length := by unfold ZS; rw [List.length_map]
 obtain ⟨b, off, cap, lr, e1, hcap, hlr, hx, hbb⟩ := Rd.block (hrr _ hS) (by omega)
 cases e1
 have hv := rd_e1 hx rfl hlt
 have hzb := hb _ (List.getElem_mem hlt)
 obtain ⟨E2, hz⟩ := he _ (List.getElem_mem hlt)
 generalize Z[k] = z at *
 obtain ⟨z1, z2⟩ := z
 dsimp only at hv hz hzb
 have hzr : ∀ {L : List Res} {w' : World}, St w (fun _ => False) w' L → Rd z1 E2 1 z2.length (bys z2) w' := fun {_ _} hS => hz.same fun b hb => hS.fr.kept b (hz.lt b hb) (fun h => h)
 refine gW ?_
 refine g_rq rfl rfl ⟨by omega, by omega⟩ ?_
 refine g_l1r rfl rfl hbb hv ?_
 refine gW ?_
 have hF := hS.frame
 refine g_cl rfl rfl (b_PutS (fun h' => htb.in (hF.2 _ _ h')) hG (Nat.le_refl _) (by omega) (fun h' => hzr (hF.2 _ _ h')) hF.1 fun y1 w2 h' => ?_)
 replace hS := hF.2 _ _ h'
 clear h' hF
 refine gW ?_
 refine g_ef rfl (ef_al hS fun b6 w1 hS => ?_)
 have lz : (zx [(32, Value.int .u8 0)]).length = 32 := by decide
 refine gW ?_
 refine g_ef0 rfl (ef_st hS 5 rfl rfl rfl (ic_len y1) (by rw [lz]; decide) (List.all_eq_true.2 (ic_one y1)) fun w1 hS => ?_)
 replace hS : St w (fun _ => False) w1 (XR bX vl ((1073741824 : Nat) : Int) Y ++ SR bS bm ((1073741824 : Nat) : Int) (putS 1073741824 (ZS Y) z2).1) := hS.sel [2, 3, 4, 0, 1] rfl rfl
 refine gW ?_
 have hF := hS.frame
 refine g_cl rfl rfl (r_PutS hG (Nat.le_refl _) (by omega) (fun h' => hzr (hF.2 _ _ h')) hF.1 fun y2 vl2 Y2 w2 hY2 h' => ?_)
 replace hS := hF.2 _ _ h'
 clear h' hF
 refine gW ?_
 refine g_ef rfl (ef_al hS fun b7 w1 hS => ?_)
 refine gW ?_
 refine g_ef0 rfl (ef_st hS 5 rfl rfl rfl (ic_len y2) (by rw [lz]; decide) (List.all_eq_true.2 (ic_one y2)) fun w1 hS => ?_)
 have hpl := putS_len 1073741824 (ZS Y) z2
 have hG2 : SG (ZS Y2) := by rw [hY2]; exact putS_ok hG (by omega) (Nat.le_refl _) (by omega)
 rw [← hY2] at hS hpl
 have hY2l : (ZS Y2).length = Y2.length := by unfold ZS; rw [List.length_map]
 replace hS : St w (fun _ => False) w1 (SR bS bm ((1073741824 : Nat) : Int) (ZS Y2) ++ XR bX vl2 ((1073741824 : Nat) : Int) Y2) := hS.sel [3, 4, 0, 1, 2] rfl rfl
 generalize (((putS 1073741824 (ZS Y) z2).2 : Nat) : Int) = er
 refine gW ?_
 rw [show cmv .neq er er = false by simp [cmv]]
 refine gW ?_
 refine g_rq rfl rfl (in64 (by simp only [arv]; omega)) ?_
 refine gW ?_
 exact g_l (k + 1, vl2, Y2) ⟨rfl, rfl, rfl, rfl, rfl, trivial⟩ ⟨hlt, by dsimp only; omega, hG2, hS⟩ (by simp only; omega)
end
noncomputable def nmQ (s : Bs) (ids : List Id) : List Li := if brk s = 0 then nmL s ids else []
theorem nmQ_len (s : Bs) (ids : List Id) : (nmQ s ids).length ≤ ids.length := by
 unfold nmQ
 split
 ·unfold nmL; rw [List.length_map]; exact kset_len (fun x : Id => x.1) ids
 ·exact Nat.zero_le _
section
variable {w w0 : World} {S0 : Nat → Prop} {L B : List Res} {K : Value → World → Prop} {s : Bs} {E0 E1 : Nat} {bS bm : Nat} {q : Int} {vl : Value} {l : Sto} {x y : Id}
theorem b_NamesQ {v : Value} {n : Nat} {ids : List Id} (hd : ids.length = n) (hn : n < 2000000) (hg : Gl w) (hr : Rd v E0 32 n (fl ic ids) w)
  (h : ∀ v' w', St w (fun _ => False) w' [row v' 56 33 (nmQ s ids).length (fl lc (nmQ s ids))] → K (.tuple ⟨[v', .int .i64 (nmE s)]⟩) w') : CK Tryz.prog 6 [sv s, v] w K := by
 refine b_Names hd hn hg hr (fun e w' hS => ?_) (fun e v' w' hS => ?_)
 ·unfold nmQ at h
  rw [if_neg e] at h
  have e1 : nmE s = 40 := by unfold nmE; rw [if_neg e]
  rw [e1] at h
  exact h _ _ (hS.nilrow 56 33)
 ·unfold nmQ at h
  rw [if_pos e] at h
  have e1 : nmE s = 0 := by unfold nmE; rw [if_pos e]
  rw [e1] at h
  exact h _ _ hS
theorem r_NamesQ {v : Value} {n : Nat} {ids : List Id} (hd : ids.length = n) (hn : n < 2000000) (hr : Rd v E0 32 n (fl ic ids) w)
  (h : ∀ v' w', St w (fun _ => False) w' [row v' 56 33 (nmQ s ids).length (fl lc (nmQ s ids))] → K (.tuple ⟨[v', .int .i64 (nmE s)]⟩) w') : CK Tryz.prog 7 [sv s, v] w K := by
 refine r_Names20 hd hn hr (fun e w' hS => ?_) (fun e v' w' hS => ?_)
 ·unfold nmQ at h
  rw [if_neg e] at h
  have e1 : nmE s = 40 := by unfold nmE; rw [if_neg e]
  rw [e1] at h
  exact h _ _ (hS.nilrow 56 33)
 ·unfold nmQ at h
  rw [if_pos e] at h
  have e1 : nmE s = 0 := by unfold nmE; rw [if_pos e]
  rw [e1] at h
  exact h _ _ hS
set_option maxHeartbeats 4000000 in
theorem b_TipsLaw {v u : Value} {Z : List (Value × Bs)} {n m : Nat} {tips : List Id} (hg : Gl w) (htb : Tb w) (hd : Z.length = n) (hn : n ≤ 9223372036854775807) (hr : Rd v E0 1 n (fl e1 Z) w) (he : ∀ p ∈ Z, Ext w p)
  (hd1 : tips.length = m) (hn1 : m ≤ 9223372036854775807) (hr1 : Rd u E1 32 m (fl ic tips) w) (h : ∀ w', St w (fun _ => False) w' [] → K (.bool true) w') : CK Tryz.prog 3 [v, u, sv s] w K := by
 have hS := St.nil w (fun _ => False)
 obtain ⟨a, c, rfl⟩ := hr1.form
 subst hd1
 have hrr : ∀ {L : List Res} {w' : World}, St w (fun _ => False) w' L → Rd (.slice a tips.length c) E1 32 tips.length (fl ic tips) w' := fun {_ w'} hS => hr1.same fun b hb => hS.fr.kept b (hr1.lt b hb) (fun h => h)
 refine call_k Tryz.func3 k3 Tryz.ntmps3 (Nat.le_of_ble_eq_true rfl) ?_
 refine gW ?_
 refine g_cl rfl rfl (b_great hd hn hr he fun g hgr w1 hS => ?_)
 cases g with
 | true =>
  refine gW ?_
  exact g_ret (q_1 rfl (h _ hS))
 | false =>
 obtain ⟨h30, hb⟩ := hgr rfl
 clear hgr
 refine gW ?_
 generalize hg1 : cmv .gtr (tips.length : Int) 20 = g1
 cases g1 with
 | true =>
  refine gW ?_
  exact g_ret (q_1 rfl (h _ hS))
 | false =>
 have ht : tips.length ≤ 20 := by simp only [cmv, decide_eq_false_iff_not] at hg1; omega
 refine gW ?_
 generalize cmv .gtr _ _ = g2
 cases g2 with
 | true =>
  refine gW ?_
  exact g_ret (q_1 rfl (h _ hS))
 | false =>
 refine gW ?_
 refine g_cl rfl rfl (b_both (E0 := E0) hd h30 (htb.in hS) (hr.same fun b hb => hS.fr.kept b (hr.lt b hb) (fun h => h)) (fun p hp => by obtain ⟨E, hp⟩ := he p hp; exact ⟨E, hp.same fun b hb => hS.fr.kept b (hp.lt b hb) (fun h => h)⟩) hb fun bS bm bX vl q Y w2 hG h' => ?_)
 replace hS := hS.call0.2 _ _ h'
 clear h'
 replace hS : St w (fun _ => False) w2 (SR bS bm q (ZS Y) ++ XR bX vl q Y) := hS
 refine gW ?_
 refine g_ef rfl (ef_bl (rs := []) hS rfl fun bO w1 hS => ?_)
 replace hS : St w (fun _ => False) w1 (SR bS bm q (ZS Y) ++ XR bX vl q Y ++ [row (.slice (some ⟨bO, 0, none⟩) 0 0) 46 32 0 []]) := hS.close_row (n := 0) (cap := 0) (sz := 32) (xs := []) 5 rfl (Nat.le_refl _) rfl (List.prefix_refl _) rfl
 refine gW ?_
 refine g_ef rfl (ef_ap (bytes := 32) (n := 0) (m := tips.length) (ys := fl ic tips) hS 5 rfl rfl rfl (.inl ⟨_, hrr hS⟩) (fl_one ic_one _) (by omega) (by omega) fun vo w1 hS => ?_)
 rw [Nat.zero_add, List.nil_append] at hS
 replace hS : St w (fun _ => False) w1 (SR bS bm q (ZS Y) ++ (XR bX vl q Y ++ [rowI vo tips])) := hS
 refine gW ?_
 refine g_cl rfl rfl (b_NamesQ rfl (by omega) (hg.in hS) (Ow.rd (hS.ok 5 _ rfl)) fun vn w2 h' => ?_)
 replace hS := hS.call0.2 _ _ h'
 clear h'
 refine gW ?_
 refine g_cl rfl rfl (r_NamesQ rfl (by omega) (hrr hS) fun vm w2 h' => ?_)
 replace hS := hS.call0.2 _ _ h'
 clear h'
 replace hS : St w (fun _ => False) w2 (SR bS bm q (ZS Y) ++ (XR bX vl q Y ++ [rowI vo tips, row vn 56 33 (nmQ s tips).length (fl lc (nmQ s tips)), row vm 56 33 (nmQ s tips).length (fl lc (nmQ s tips))])) := hS
 have hql := nmQ_len s tips
 have hhl : (iset (hdsS (ZS Y) tips)).length ≤ tips.length := Nat.le_trans (kset_len (fun x : Id => x.1) _) (hds_len _ _)
 refine gW ?_
 have hF := hS.frame
 refine g_cl rfl rfl (b_Survivors (tips := tips) (E0 := 46) hG (by omega) (fun {L w'} h' => by
  have h2 := (hF.2 _ _ h').swap
  exact Ow.rd (h2.ok 3 (rowI vo tips) rfl)) hF.1 fun v1 w3 h' => ?_)
 replace hS := hF.2 _ _ h'
 clear h' hF
 replace hS : St w (fun _ => False) w3 (XR bX vl q Y ++ [rowI vo tips, row vn 56 33 (nmQ s tips).length (fl lc (nmQ s tips)), row vm 56 33 (nmQ s tips).length (fl lc (nmQ s tips)), rowI v1 (iset (hdsS (ZS Y) tips))]) := hS.sel [3, 4, 5, 6, 7, 8, 2] rfl rfl
 refine gW ?_
 have hF := hS.frame
 refine g_cl rfl rfl (r_Survivors hG (by omega) (fun {L w'} h' => hrr (hF.2 _ _ h')) hF.1 fun v2 w3 h' => ?_)
 replace hS := hF.2 _ _ h'
 clear h' hF
 replace hS : St w (fun _ => False) w3 [rowI v1 (iset (hdsS (ZS Y) tips)), rowI v2 (iset (hdsS (ZS Y) tips)), rowI vo tips, row vn 56 33 (nmQ s tips).length (fl lc (nmQ s tips)), row vm 56 33 (nmQ s tips).length (fl lc (nmQ s tips))] := hS.sel [7, 3, 4, 5, 6] rfl rfl
 generalize iset (hdsS (ZS Y) tips) = I at hS hhl
 generalize nmQ s tips = N at hS hql
 refine g_cl rfl rfl (r_SameI (d := I) (e := I) rfl rfl (by omega) (by omega) (Ow.rd (hS.ok 0 _ rfl)) (Ow.rd (hS.ok 1 _ rfl)) fun w4 h' => ?_)
 replace hS := hS.call0.2 _ _ h'
 clear h'
 rw [decide_eq_true rfl]
 refine gW ?_
 refine g_cl rfl rfl (r_Same (d := N) (e := N) rfl rfl (by omega) (by omega) (Ow.rd (hS.ok 3 _ rfl)) (Ow.rd (hS.ok 4 _ rfl)) fun w4 h' => ?_)
 replace hS := hS.call0.2 _ _ h'
 clear h'
 rw [decide_eq_true rfl]
 refine gW ?_
 rw [cmv_self _]
 refine gW ?_
 refine g_cl rfl rfl (r_SameI (d := tips) (e := tips) rfl rfl (by omega) (by omega) (Ow.rd (hS.ok 2 _ rfl)) (hrr hS) fun w4 h' => ?_)
 replace hS := hS.call0.2 _ _ h'
 clear h'
 rw [decide_eq_true rfl]
 refine gW ?_
 exact g_ret (q_1 rfl (h _ (hS.sel [] rfl rfl)))
end
open Go.En Go.ChangeShapes Go.WideShapes Go.Deep
section
variable {H : Type} {enc : TypeId × Value → H} {W : World}
theorem id_of {fuel : Nat} {cs : List Value} {x : DataW H × List MemPlace} (h : DataW.trod enc Tryz.prog W 0 (fun _ => true) true fuel 46 cs = some x) : ∃ o : Id, cs = ic o ∧ True := by
 obtain ⟨bs, hl, rfl⟩ := bytes_of Tryz.underlying46 Tryz.underlying5 (by kernel_rfl) (by kernel_rfl) h
 exact ⟨⟨bs, hl⟩, rfl, trivial⟩
theorem ids_of {v : Value} {d : DataW H} {p : List MemPlace} (hv : ∃ a n c, v = .slice a n c) (h : DataW.Trod enc Tryz.prog W 0 (fun _ => true) true 23 v d p) : ∃ E n ids, ids.length = n ∧ n ≤ 9223372036854775807 ∧ Rd v E 32 n (fl ic ids) W := by
 obtain ⟨E, n, os, h1, h2, h3, _⟩ := slice_of (R := fun _ => True) Tryz.underlying23 (by kernel_rfl) (by decide) ⟨zid, zid_len⟩ ic_len id_of hv h
 exact ⟨E, n, os, h1, h2, h3⟩
theorem gl_of (h : W.ShapedOpen Tryz.prog) : Gl W :=
 Go.Proofs.cell_of_shapedOpen_int (zero := #[.int .i64 0]) (t := 3) h (of_decide_eq_true (by kernel_rfl)) (by kernel_rfl) rfl (by kernel_rfl) (by kernel_rfl) Tryz.underlying3
end
open Go.En Go.ChangeShapes Go.WideShapes Go.Deep
section
variable {H : Type} {enc : TypeId × Value → H} {W : World}
theorem bs_el {fuel : Nat} {cs : List Value} {x : DataW H × List MemPlace} (h : DataW.trod enc Tryz.prog W 0 (fun _ => true) true fuel 40 cs = some x) : ∃ o : Value × Bs, cs = e1 o ∧ Ext W o := by
 rcases open_ints Tryz.underlying40 Tryz.underlying5 (by kernel_rfl) h with ⟨hcs, _⟩ | ⟨a, len, cap, zs, hcs, _, hl, _, hz, _, hcell, hwz⟩
 ·exact ⟨(_, []), hcs, 0, .inl ⟨⟨none, rfl⟩, rfl, rfl⟩⟩
 ·have hz : zs.length = cap := by simpa using hz
  obtain ⟨E, hr⟩ := rd_of (W := W) (a := a) (sz := 1) (by decide) hl (fun i => [.int .u8 (zs.getD i 0)]) (fun i _ => rfl) (fun i hi j hj => by
   have : j = 0 := by omega
   subst this
   rw [Nat.mul_one, Nat.add_zero, hcell i (by omega)]
   rfl)
  refine ⟨(_, (zs.take len).map fun n => UInt8.ofNat n.toNat), hcs, E, ?_⟩
  have hlen : ((zs.take len).map fun n => UInt8.ofNat n.toNat).length = len := by simp; omega
  dsimp only
  rw [hlen]
  have e : ((List.range len).map fun i => [Value.int .u8 (zs.getD i 0)]).flatten = bys ((zs.take len).map fun n => UInt8.ofNat n.toNat) := by
   rw [← List.flatMap_def, ← List.map_eq_flatMap]
   apply List.ext_getElem?
   intro k
   by_cases hk : k < len
   ·have hkz : k < zs.length := by omega
    simp [bys, hk, hkz]
    have := u8_rng (hwz _ (List.getElem_mem hkz))
    omega
   ·simp [bys, hk]
    omega
  rw [← e]
  exact hr
theorem bss_of {v : Value} {d : DataW H} {p : List MemPlace} (hv : ∃ a n c, v = .slice a n c) (h : DataW.Trod enc Tryz.prog W 0 (fun _ => true) true 22 v d p) : ∃ E n os, os.length = n ∧ n ≤ 9223372036854775807 ∧ Rd v E 1 n (fl e1 os) W ∧ ∀ o ∈ os, Ext W o :=
 slice_of (R := fun o => Ext W o) Tryz.underlying22 (by kernel_rfl) (by decide) (.nilFunc, []) e1_len bs_el hv h
theorem laid_mem {P : Program} {w : World} : ∀ {l : List (String × DataW Unit)} {ps : List MemPlace}, DataW.LaidVars P w l ps → ∀ x ∈ l, ∃ g t cs fuel p, P.globalNamed x.1 = some g ∧ (P.globals[g]?).map (·.type) = some t ∧ w.var? P x.1 = some cs ∧ DataW.trod (fun _ => ()) P w 0 (fun _ => true) false fuel t cs.toList = some (x.2, p)
 | [], _, _, x, hx => nomatch hx
 | (n, d) :: r, ps, h, x, hx => by
  obtain ⟨g, t, cs, fuel, p, q, e1, e2, e3, e4, hr, rfl⟩ := h
  rcases List.mem_cons.1 hx with rfl | hx
  ·exact ⟨g, t, cs, fuel, p, e1, e2, e3, e4⟩
  ·exact laid_mem hr x hx
theorem blr_of {P : Program} {w : World} {l : List (String × DataW Unit)} {name : String} {k : IntKind} {zs : List Int} {g : Nat} {t e : TypeId} {n : Nat} (h : laidMetH P l w) (hm : (name, Go.Lib.tabData k zs) ∈ l)
  (hg : P.globalNamed name = some g) (hty : (P.globals[g]?).map (·.type) = some t) (ht : P.underlying t = some (.array n e)) (he : P.underlying e = some (.int k)) (hce : P.cellsOf e = 1) (hct : P.cellsOf t = n) : ∃ E, Blr w g (zs.map fun z => Value.int k z) E := by
 obtain ⟨⟨ps, hl, _⟩, _⟩ := laidMetH_iff.1 h
 obtain ⟨g', t', cs, fuel, p, hg', ht', hvar, hd⟩ := laid_mem hl _ (List.mem_filter.2 ⟨hm, rfl⟩)
 obtain rfl := Option.some.inj (hg.symm.trans hg')
 obtain rfl := Option.some.inj (hty.symm.trans ht')
 have hc := Go.Lib.cells_of_tab ht he hce hct hd
 unfold World.var? at hvar
 rw [hg] at hvar
 simp only [Option.bind_some] at hvar
 split at hvar
 ·rename_i cs' T fr hh
  cases hvar
  refine ⟨T, fr, ?_⟩
  rw [hh, ← hc]
 ·cases hvar
theorem tb_of {l : List (String × DataW Unit)} (h : laidMetH Tryz.prog l W) (h1 : ("marshes/hash.begin", Go.Lib.tabData .u32 (H0.map fun x => (x.toNat : Int))) ∈ l) (h2 : ("marshes/hash.factors", Go.Lib.tabData .u32 (KF.map fun x => (x.toNat : Int))) ∈ l) : Tb W := by
 have e : ∀ L : List U, (L.map fun x => (x.toNat : Int)).map (fun z => Value.int .u32 z) = ws L := fun L => by unfold ws w4; rw [List.map_map]; rfl
 have b1 := blr_of (g := 0) (t := 108) (e := 107) (n := 8) h h1 (by kernel_rfl) (by kernel_rfl) Tryz.underlying108 Tryz.underlying107 (by kernel_rfl) (by kernel_rfl)
 have b2 := blr_of (g := 1) (t := 236) (e := 107) (n := 64) h h2 (by kernel_rfl) (by kernel_rfl) Tryz.underlying236 Tryz.underlying107 (by kernel_rfl) (by kernel_rfl)
 rw [e] at b1 b2
 exact ⟨b1, b2⟩
end
end Go.Proofs.YtocofjmknnckhaaGreatDoor
namespace Go.Proofs.YtocofjmknnckhaaGreatDoor.listingTips
open Go.ChangeShapes Go.WideShapes Go.ChangeAt Go.RowKit Go.ChangeMaps Go.Proofs.YtocofjmknnckhaaGreatDoor
theorem own : ownKnob Tryz.prog.godebug = none := by kernel_rfl
theorem laidOut : laidOutB Tryz.prog = true := by kernel_rfl
set_option maxRecDepth 100000 in
theorem contract (H : Type) (enc : TypeId × Value → H) (W : World) (base : Nat) (args : Array Value) (ds gs : List (DataW H)) (before : List MemPlace)
  (hval0 : ∀ (j : Nat) t v, Tryz.f3.params[j]? = some t → args[j]? = some v → Value.okWide Tryz.prog W .any base t v)
  (hW : DataW.Whole enc Tryz.prog Tryz.f3.params.toList Rows.listingTipsSpec.vars false W args.toList ds gs before) (hlaid : laidMetH Tryz.prog Rows.listingTipsRow.laid W) (hsh : W.ShapedOpen Tryz.prog) :
  Calls Tryz.prog 3 args W fun e W' => ∃ v, e = .returned v ∧ Rows.listingTipsSpec.post enc Tryz.prog Tryz.f3 false true false false W args v W' := by
 have hval : ∀ (j : Nat) t v, Tryz.f3.params[j]? = some t → args[j]? = some v → Value.okWide Tryz.prog W .any base t v := hval0
 have hW' := hW
 obtain ⟨p, q, hA0, hV, rfl, hfz, hnd⟩ := hW
 have hA : DataW.TrodAll enc Tryz.prog W 0 (fun _ => true) true Tryz.f3.params.toList args.toList ds p := hA0
 rw [Tryz.params3] at hA hval
 obtain ⟨v0, vs0, d0, ds0, p0, q0, hargs, rfl, rfl, h0, r0⟩ := trodAll_cons hA
 obtain ⟨v1, vs1, d1, ds1, p1, q1, rfl, rfl, rfl, h1, r1⟩ := trodAll_cons r0
 obtain ⟨v2, vs2, d2, ds2, p2, q2, rfl, rfl, rfl, h2, r2⟩ := trodAll_cons r1
 obtain ⟨rfl, rfl, rfl⟩ := trodAll_nil r2
 obtain rfl : args = #[v0, v1, v2] := by cases args; simp_all
 obtain ⟨rfl, rfl⟩ := trodVars_none hV
 have k0 := h0
 have lt0 : ∀ x ∈ p0, x.block < W.heap.size := by obtain ⟨m, hm⟩ := k0; exact DataW.trod_lt m _ _ _ hm
 obtain ⟨a0, len0, cap0, rfl⟩ := okWide_slice Tryz.underlying22 (hval 0 22 v0 rfl rfl)
 obtain ⟨E0, n0, x0, hd0, hn0, hr0, he0⟩ := bss_of ⟨_, _, _, rfl⟩ h0
 have k1 := h1
 have lt1 : ∀ x ∈ p1, x.block < W.heap.size := by obtain ⟨m, hm⟩ := k1; exact DataW.trod_lt m _ _ _ hm
 obtain ⟨a1, len1, cap1, rfl⟩ := okWide_slice Tryz.underlying23 (hval 1 23 v1 rfl rfl)
 obtain ⟨E1, n1, x1, hd1, hn1, hr1⟩ := ids_of ⟨_, _, _, rfl⟩ h1
 obtain ⟨s2, rfl, rfl, rfl, w2⟩ := open_string Tryz.underlying9 (hval 2 9 v2 rfl rfl) h2
 obtain ⟨l2, rfl⟩ : ∃ l : Bs, s2 = ⟨l.toArray⟩ := ⟨s2.data.toList, by cases s2; rfl⟩
 clear hA0 hval0
 have hcall : En.CK Tryz.prog 3 [.slice a0 len0 cap0, .slice a1 len1 cap1, sv l2] W (fun v w' => v = .bool true ∧ En.Fr W (fun _ => False) w') := b_TipsLaw (gl_of hsh) (tb_of hlaid (List.mem_of_getElem? (i := 1) (by kernel_rfl)) (List.mem_of_getElem? (i := 2) (by kernel_rfl))) hd0 hn0 hr0 he0 hd1 hn1 hr1 fun w' hS => ⟨rfl, hS.fr⟩
 refine Calls.mono hcall ?_
 rintro e W' ⟨v, rfl, rfl, hfr⟩
 have bel := En.below_of hfr
 exact ⟨_, rfl, _, _, _, [], _, [], hW', trodAll_mk1 (shut_bool Tryz.underlying4 _), (trodAll_cons_mk (Below.trod laidOut (by kernel_rfl) (of_decide_eq_true (by kernel_rfl)) k0 bel lt0) (trodAll_cons_mk (Below.trod laidOut (by kernel_rfl) (of_decide_eq_true (by kernel_rfl)) k1 bel lt1) (trodAll_cons_mk (shut_string Tryz.underlying9 w2) trodAll_mk0))), rfl, bel.frame _, fun h => by cases h⟩
def putFirst : Go.Obj → Go.Obj
 | .cells _ t frozen => .cells #[.int .u8 240, .int .u8 240, .int .u8 240, .int .u8 240, .int .u8 240, .int .u8 240, .int .u8 240, .int .u8 240, .int .u8 240, .int .u8 240, .int .u8 240, .int .u8 240, .int .u8 240, .int .u8 240, .int .u8 240, .int .u8 240, .int .u8 240, .int .u8 240, .int .u8 240, .int .u8 240, .int .u8 240, .int .u8 240, .int .u8 240, .int .u8 240, .int .u8 240, .int .u8 240, .int .u8 240, .int .u8 240, .int .u8 240, .int .u8 240, .int .u8 240, .int .u8 240, .int .u8 240, .int .u8 240, .int .u8 240, .int .u8 240, .int .u8 240, .int .u8 240, .int .u8 240, .int .u8 240, .int .u8 240, .int .u8 240, .int .u8 240, .int .u8 240, .int .u8 240, .int .u8 240, .int .u8 240, .int .u8 240, .int .u8 240, .int .u8 240, .int .u8 240, .int .u8 240, .int .u8 240, .int .u8 240, .int .u8 240, .int .u8 240, .int .u8 240, .int .u8 240, .int .u8 240, .int .u8 240, .int .u8 240, .int .u8 240, .int .u8 240, .int .u8 240, .int .u8 240, .int .u8 240, .int .u8 240, .int .u8 240, .int .u8 240, .int .u8 240, .int .u8 240, .int .u8 240, .int .u8 240, .int .u8 240, .int .u8 240, .int .u8 240, .int .u8 240, .int .u8 240, .int .u8 240, .int .u8 240, .int .u8 240, .int .u8 240, .int .u8 240, .int .u8 240, .int .u8 240, .int .u8 240, .int .u8 240, .int .u8 240, .int .u8 240, .int .u8 240, .int .u8 240, .int .u8 240, .int .u8 240, .int .u8 240, .int .u8 240, .int .u8 240, .int .u8 240, .int .u8 240, .int .u8 240, .int .u8 240, .int .u8 240, .int .u8 240, .int .u8 240, .int .u8 240, .int .u8 240, .int .u8 240, .int .u8 240, .int .u8 240, .int .u8 240, .int .u8 240, .int .u8 240, .int .u8 240, .int .u8 240, .int .u8 240, .int .u8 240, .int .u8 240, .int .u8 240, .int .u8 240, .int .u8 240, .int .u8 240, .int .u8 240, .int .u8 240, .int .u8 240, .int .u8 240, .int .u8 240, .int .u8 240, .int .u8 240, .int .u8 240, .int .u8 241, .int .u8 241, .int .u8 241, .int .u8 241, .int .u8 241, .int .u8 241, .int .u8 241, .int .u8 241, .int .u8 241, .int .u8 241, .int .u8 241, .int .u8 241, .int .u8 241, .int .u8 241, .int .u8 241, .int .u8 241, .int .u8 241, .int .u8 241, .int .u8 241, .int .u8 241, .int .u8 241, .int .u8 241, .int .u8 241, .int .u8 241, .int .u8 241, .int .u8 241, .int .u8 241, .int .u8 241, .int .u8 241, .int .u8 241, .int .u8 241, .int .u8 241, .int .u8 241, .int .u8 241, .int .u8 241, .int .u8 241, .int .u8 241, .int .u8 241, .int .u8 241, .int .u8 241, .int .u8 241, .int .u8 241, .int .u8 241, .int .u8 241, .int .u8 241, .int .u8 241, .int .u8 241, .int .u8 241, .int .u8 241, .int .u8 241, .int .u8 241, .int .u8 241, .int .u8 241, .int .u8 241, .int .u8 241, .int .u8 241, .int .u8 241, .int .u8 241, .int .u8 241, .int .u8 241, .int .u8 241, .int .u8 241, .int .u8 241, .int .u8 241, .int .u8 241, .int .u8 241, .int .u8 2, .int .u8 2, .int .u8 2, .int .u8 2, .int .u8 2, .int .u8 2, .int .u8 2, .int .u8 2, .int .u8 2, .int .u8 2, .int .u8 2, .int .u8 2, .int .u8 2, .int .u8 2, .int .u8 2, .int .u8 2, .int .u8 2, .int .u8 2, .int .u8 2, .int .u8 2, .int .u8 2, .int .u8 2, .int .u8 2, .int .u8 2, .int .u8 2, .int .u8 2, .int .u8 2, .int .u8 2, .int .u8 2, .int .u8 2, .int .u8 19, .int .u8 3, .int .u8 3, .int .u8 3, .int .u8 3, .int .u8 3, .int .u8 3, .int .u8 3, .int .u8 3, .int .u8 3, .int .u8 3, .int .u8 3, .int .u8 3, .int .u8 35, .int .u8 3, .int .u8 3, .int .u8 52, .int .u8 4, .int .u8 4, .int .u8 4, .int .u8 68, .int .u8 241, .int .u8 241, .int .u8 241, .int .u8 241, .int .u8 241, .int .u8 241, .int .u8 241, .int .u8 241, .int .u8 241, .int .u8 241, .int .u8 241] t frozen
 | o => o
def putAcc : Go.Obj → Go.Obj
 | .cells _ t frozen => .cells #[.int .u8 128, .int .u8 191, .int .u8 160, .int .u8 191, .int .u8 128, .int .u8 159, .int .u8 144, .int .u8 191, .int .u8 128, .int .u8 143, .int .u8 0, .int .u8 0, .int .u8 0, .int .u8 0, .int .u8 0, .int .u8 0, .int .u8 0, .int .u8 0, .int .u8 0, .int .u8 0, .int .u8 0, .int .u8 0, .int .u8 0, .int .u8 0, .int .u8 0, .int .u8 0, .int .u8 0, .int .u8 0, .int .u8 0, .int .u8 0, .int .u8 0, .int .u8 0] t frozen
 | o => o
def putBegin : Go.Obj → Go.Obj
 | .cells _ t frozen => .cells #[.int .u32 1779033703, .int .u32 3144134277, .int .u32 1013904242, .int .u32 2773480762, .int .u32 1359893119, .int .u32 2600822924, .int .u32 528734635, .int .u32 1541459225] t frozen
 | o => o
def putFactors : Go.Obj → Go.Obj
 | .cells _ t frozen => .cells #[.int .u32 1116352408, .int .u32 1899447441, .int .u32 3049323471, .int .u32 3921009573, .int .u32 961987163, .int .u32 1508970993, .int .u32 2453635748, .int .u32 2870763221, .int .u32 3624381080, .int .u32 310598401, .int .u32 607225278, .int .u32 1426881987, .int .u32 1925078388, .int .u32 2162078206, .int .u32 2614888103, .int .u32 3248222580, .int .u32 3835390401, .int .u32 4022224774, .int .u32 264347078, .int .u32 604807628, .int .u32 770255983, .int .u32 1249150122, .int .u32 1555081692, .int .u32 1996064986, .int .u32 2554220882, .int .u32 2821834349, .int .u32 2952996808, .int .u32 3210313671, .int .u32 3336571891, .int .u32 3584528711, .int .u32 113926993, .int .u32 338241895, .int .u32 666307205, .int .u32 773529912, .int .u32 1294757372, .int .u32 1396182291, .int .u32 1695183700, .int .u32 1986661051, .int .u32 2177026350, .int .u32 2456956037, .int .u32 2730485921, .int .u32 2820302411, .int .u32 3259730800, .int .u32 3345764771, .int .u32 3516065817, .int .u32 3600352804, .int .u32 4094571909, .int .u32 275423344, .int .u32 430227734, .int .u32 506948616, .int .u32 659060556, .int .u32 883997877, .int .u32 958139571, .int .u32 1322822218, .int .u32 1537002063, .int .u32 1747873779, .int .u32 1955562222, .int .u32 2024104815, .int .u32 2227730452, .int .u32 2361852424, .int .u32 2428436474, .int .u32 2756734187, .int .u32 3204031479, .int .u32 3329325298] t frozen
 | o => o
noncomputable def laidWorld (os : Os) : World :=
 { World.holding Tryz.prog os ⟨#[], #[], []⟩ with heap := ((((World.holding Tryz.prog os ⟨#[], #[], []⟩).heap.modify 0 putBegin).modify 1 putFactors).modify 3 putFirst).modify 4 putAcc }
theorem laid_met (os : Os) : laidMet Tryz.prog Rows.listingTipsRow.laid ((laidWorld os).forCall (fun _ _ => 0) ⟨#[], #[.slice none 0 0, .slice none 0 0, .string ⟨#[]⟩], []⟩).memory :=
 laidMet_of_run' 8 (by kernel_rfl) (by kernel_rfl)
theorem reads (os : Os) {H : Type} (enc : TypeId × Value → H) : ∃ places, DataW.whole enc Tryz.prog ((laidWorld os).forCall (fun _ _ => 0) ⟨#[], #[.slice none 0 0, .slice none 0 0, .string ⟨#[]⟩], []⟩).memory Tryz.f3.params.toList Rows.listingTipsSpec.vars false (#[.slice none 0 0, .slice none 0 0, .string ⟨#[]⟩] : Array Value).toList 8 = some ([.nil, .nil, .lit (.string [])], [], places) :=
 ⟨[], by kernel_rfl⟩
set_option maxRecDepth 100000 in
theorem lifted (os : Os) (started : os.Started) (H : Type) (enc : TypeId × Value → H) (F : Stop.Interp) :
  ReturnsInHanded {} Tryz.checked os 3 .any ((OpenSpec.ofChange Rows.listingTipsSpec).preRow enc Tryz.prog Tryz.f3 Rows.listingTipsRow.domain false Rows.listingTipsRow.laid) (((OpenSpec.ofChange Rows.listingTipsSpec).at F).post enc Tryz.prog Tryz.f3 false true false false) := by
 obtain ⟨places, hx⟩ := reads os enc
 refine returnsInHanded_of_row (C := Tryz.checked) (s := (OpenSpec.ofChange Rows.listingTipsSpec)) own started (by kernel_rfl) Tryz.func3
  (witness_row_at (enc := enc) (C := Tryz.checked) false (laidWorld os) #[.slice none 0 0, .slice none 0 0, .string ⟨#[]⟩] rfl (by kernel_rfl) (by kernel_rfl) (by kernel_rfl)
   (OpenSpec.preRow_of_cond 8 hx (by kernel_rfl) (fun k hk => by cases hk) (by kernel_rfl) (laid_met os))) ?_
 intro W base args ds gs before hval hW _ hcond _ hlaid hsh _
 exact contract H enc W base args ds gs before hval hW hlaid hsh
theorem said : Rows.ListingTipsSaid :=
 OpenClaim.holds_of_cond 3 Tryz.f3 rfl rfl rfl rfl rfl rfl rfl ⟨rfl, rfl, rfl, rfl, rfl⟩ rfl rfl rfl rfl rfl (by kernel_rfl) Tryz.func3 (by kernel_rfl)
  (of_decide_eq_true (by kernel_rfl)) (by unfold Func.isWrapper; first | (rw [if_pos (by decide +kernel)]; kernel_rfl) | (rw [if_neg (by decide +kernel)]; exact ⟨rfl, rfl⟩))
  (fun os started H enc _ F => by rw [OpenClaim.pre_eq_preRow]; exact lifted os started H enc F)
theorem plain (f : FuncId) (fn : Func) (hf : Tryz.pinned.checked.prog.funcNamed "marshes/marsheslaw20.ListingTips" = some f) (hfn : Tryz.pinned.checked.prog.funcs[f]? = some fn) :
  true = Tryz.pinned.checked.prog.looks [] ∧ ∀ (j : Nat) t, fn.params[j]? = some t → Tryz.pinned.checked.prog.wantsStandIn t = false := by
 obtain rfl : f = 3 := Option.some.inj ((show Tryz.prog.funcNamed "marshes/marsheslaw20.ListingTips" = some 3 by kernel_rfl).symm.trans hf) |>.symm
 obtain rfl : fn = Tryz.f3 := (Option.some.inj (Tryz.func3.symm.trans hfn)).symm
 refine ⟨by kernel_rfl, fun j t ht => ?_⟩
 rw [Tryz.params3] at ht
 have hm : t ∈ [22, 23, 9] := by simpa using Array.mem_of_getElem? ht
 have hall : (([22, 23, 9] : List TypeId).all fun u => !Tryz.prog.wantsStandIn u) = true := by kernel_rfl
 exact (show Tryz.prog.wantsStandIn t = false by simpa using List.all_eq_true.1 hall t hm)
end Go.Proofs.YtocofjmknnckhaaGreatDoor.listingTips
namespace Go.Proofs.YtocofjmknnckhaaGreatDoor
theorem listingTips_card : Rows.ListingTipsCardSaid :=
 Claim7.holds_tied_plain_at .later [] _ _ _ _ listingTips.said (fun _ h => by cases h) (by kernel_rfl) (fun _ h => by cases h) listingTips_row_tie rfl ⟨rfl, rfl⟩ (by kernel_rfl) rfl listingTips.plain (by kernel_rfl)
#print axioms listingTips_card
end Go.Proofs.YtocofjmknnckhaaGreatDoor
