/- Nh3 Nj1 Qd4 Qd6 Qd5 Qd7 -/
import Derived.Test.YtocofjmknnckhaaGreatDoorPk8
set_option linter.unusedSimpArgs false
set_option linter.unusedVariables false
namespace Go.Proofs.YtocofjmknnckhaaGreatDoor
open Go.En
theorem sv_ext (s : Bs) (a b : Nat) : (.string ((⟨s.toArray⟩ : ByteArray).extract a b) : Value) = sv ((s.drop a).take (b - a)) := by
 rw [← sv_of]
 congr 1
 have := Lib.extract_toList (⟨s.toArray⟩ : ByteArray) a b
 simp only [ByteArray.data_extract] at this ⊢
 simp
theorem iset_of {l m : List Id} (hm : m.Pairwise (lts fun x : Id => x.1)) (h : ∀ x, x ∈ m ↔ x ∈ l) : iset l = m :=
 lts_unique _ id_inj (kset_sorted _ id_inj l) hm fun x => (mem_kset _ l x).trans (h x).symm
theorem sv_app2 (a b : Bs) : (.string ((⟨a.toArray⟩ : ByteArray) ++ ⟨b.toArray⟩) : Value) = sv (a ++ b) := by
 rw [← sv_of]
 congr 1
theorem by_nib : ∀ n : Fin 256, IntKind.u8.wrap ((n.val : Int).tdiv 16) = ((n.val / 16 : Nat) : Int) ∧ IntKind.u8.wrap (arv .add ((n.val / 16 : Nat) : Int) 1) = ((n.val / 16 + 1 : Nat) : Int) ∧ (n.val : Int).tmod 16 = ((n.val % 16 : Nat) : Int) ∧ IntKind.u8.wrap (arv .add ((n.val % 16 : Nat) : Int) 1) = ((n.val % 16 + 1 : Nat) : Int) := by decide +kernel
theorem by_nib' (c : UInt8) : IntKind.u8.wrap ((c.toNat : Int).tdiv 16) = ((c.toNat / 16 : Nat) : Int) ∧ IntKind.u8.wrap (arv .add ((c.toNat / 16 : Nat) : Int) 1) = ((c.toNat / 16 + 1 : Nat) : Int) ∧ (c.toNat : Int).tmod 16 = ((c.toNat % 16 : Nat) : Int) ∧ IntKind.u8.wrap (arv .add ((c.toNat % 16 : Nat) : Int) 1) = ((c.toNat % 16 + 1 : Nat) : Int) := by_nib ⟨c.toNat, c.toNat_lt⟩
theorem dig_ext {i : Nat} (h : i < 16) : ((dig.drop i).take (i + 1 - i)) = [dig.getD i 0] := by
 have key : ∀ i : Fin 16, ((dig.drop i.val).take (i.val + 1 - i.val)) = [dig.getD i.val 0] := by decide
 exact key ⟨i, h⟩
theorem bys_get {l : Bs} {k : Nat} (h : k < l.length) : (bys l)[0 + k * 1]? = some (.int .u8 (l[k].toNat : Int)) := by
 rw [Nat.zero_add, Nat.mul_one]
 simp [bys, h]
section
variable {w w0 : World} {S0 : Nat → Prop} {L B : List Res} {K : Value → World → Prop} {s : Bs} {E0 E1 : Nat}
theorem r_Text {id : Bs} (hl : id.length = 32) (h : ∀ w', St w (fun _ => False) w' [] → K (sv (hex id)) w') : CK Tryz.prog 24 [.agg ⟨bys id⟩] w K := by
 have hS := St.nil w (fun _ => False)
 refine call_k Tryz.func24 k24 Tryz.ntmps24 (Nat.le_of_ble_eq_true rfl) ?_
 refine gW ?_
 refine g_ef rfl (ef_bx hS rfl fun b1 w1 hS => ?_)
 replace hS : St w (fun _ => False) w1 [cel b1 (bys id) 46] := hS
 refine gW ?_
 refine g_lp (ι := Nat) (fun k => [(1, dp b1), (3, sv (hex (id.take k))), (4, .int .i64 k)]) (fun k w' => k ≤ 32 ∧ St w (fun _ => False) w' [cel b1 (bys id) 46]) (fun k => 32 - k) 0 ⟨rfl, rfl, rfl, trivial⟩ ⟨Nat.zero_le _, hS⟩ ?_
 clear hS
 rintro k w1 ⟨hk, hS⟩
 refine gW ?_
 (refine g_cd rfl (fun hc => ?_) (fun hc => ?_) <;> simp only [cmv, arv, Bool.not_eq_true', Bool.not_eq_false', decide_eq_true_eq, decide_eq_false_iff_not] at hc)
 ·have hlt : k < id.length := by omega
  have hg := bys_get hlt
  obtain ⟨n1, n2, n3, n4⟩ := by_nib' id[k]
  have hb := id[k].toNat_lt
  refine gW ?_
  refine g_dr mixed ?_
  replace hS := hS.drew
  refine gD ?_
  refine d_rq rfl rfl rfl ⟨by omega, by omega⟩ ?_
  refine d_l1 rfl rfl rfl (hS.b 0 rfl) (by rw [Int.toNat_natCast]; exact hg) ?_
  refine d_rq rfl rfl rfl (by decide) ?_
  rw [n1]
  refine gD ?_
  refine d_rq rfl rfl rfl ⟨by omega, by omega⟩ ?_
  refine d_l1 rfl rfl rfl (hS.b 0 rfl) (by rw [Int.toNat_natCast]; exact hg) ?_
  refine d_rq rfl rfl rfl (by decide) ?_
  rw [n1]
  refine gD ?_
  rw [n2]
  refine d_rq rfl rfl rfl ⟨by omega, by omega, by show ((id[k].toNat / 16 + 1 : Nat) : Int) ≤ 16; omega⟩ ?_
  refine d_rq rfl rfl rfl (by simp [Lib.size_eq, hex_len]; omega) ?_
  refine gD ?_
  refine d_rq rfl rfl rfl ⟨by omega, by omega⟩ ?_
  refine d_l1 rfl rfl rfl (hS.b 0 rfl) (by rw [Int.toNat_natCast]; exact hg) ?_
  refine d_rq rfl rfl rfl (by decide) ?_
  rw [n3]
  refine gD ?_
  refine d_rq rfl rfl rfl ⟨by omega, by omega⟩ ?_
  refine d_l1 rfl rfl rfl (hS.b 0 rfl) (by rw [Int.toNat_natCast]; exact hg) ?_
  refine d_rq rfl rfl rfl (by decide) ?_
  rw [n3]
  refine gD ?_
  rw [n4]
  refine d_rq rfl rfl rfl ⟨by omega, by omega, by show ((id[k].toNat % 16 + 1 : Nat) : Int) ≤ 16; omega⟩ ?_
  refine d_rq rfl rfl rfl (by simp [Lib.size_eq, hex_len]; omega) ?_
  refine d_e rfl rfl ?_
  refine ef_qt ((pev_ok rfl).2 _) ⟨rc_0, ?_⟩
  refine d_fin ?_
  refine gW ?_
  refine g_rq rfl rfl (in64 (by simp only [arv]; omega)) ?_
  refine gW ?_
  refine g_l (k + 1) ⟨rfl, ?_, rfl, trivial⟩ ⟨by omega, hS⟩ (by omega)
  have hst : hex (id.take (k + 1)) = hex (id.take k) ++ hx id[k] := by
   rw [List.take_succ_eq_append_getElem hlt, hex_app]
   simp [hex]
  have x1 : (⟨dig.toArray⟩ : ByteArray).extract (id[k].toNat / 16) (id[k].toNat / 16 + 1) = ⟨[dig.getD (id[k].toNat / 16) 0].toArray⟩ := by
   have := sv_ext dig (id[k].toNat / 16) (id[k].toNat / 16 + 1)
   rw [dig_ext (by omega)] at this
   exact Value.string.inj this
  have x2 : (⟨dig.toArray⟩ : ByteArray).extract (id[k].toNat % 16) (id[k].toNat % 16 + 1) = ⟨[dig.getD (id[k].toNat % 16) 0].toArray⟩ := by
   have := sv_ext dig (id[k].toNat % 16) (id[k].toNat % 16 + 1)
   rw [dig_ext (by omega)] at this
   exact Value.string.inj this
  show some (Value.string (((⟨(hex (id.take k)).toArray⟩ : ByteArray) ++ (⟨dig.toArray⟩ : ByteArray).extract (Int.toNat ((id[k].toNat / 16 : Nat) : Int)) (Int.toNat ((id[k].toNat / 16 + 1 : Nat) : Int))) ++ (⟨dig.toArray⟩ : ByteArray).extract (Int.toNat ((id[k].toNat % 16 : Nat) : Int)) (Int.toNat ((id[k].toNat % 16 + 1 : Nat) : Int)))) = some (sv (hex (id.take (k + 1))))
  rw [Int.toNat_natCast, Int.toNat_natCast, Int.toNat_natCast, Int.toNat_natCast, x1, x2, hst]
  have a1 := Value.string.inj (sv_app2 (hex (id.take k)) [dig.getD (id[k].toNat / 16) 0])
  rw [a1, sv_app2, List.append_assoc]
  rfl
 ·have e : id.take k = id := List.take_of_length_le (by omega)
  rw [e]
  refine gW ?_
  exact g_ret (q_1 rfl (h _ (hS.sel [] rfl rfl)))
end
theorem cb_at {a b : Bs} {k : Nat} (hp : a.take k = b.take k) (ha : k < a.length) (hb : k < b.length) : Lib.compareBytes a b = if a[k] < b[k] then -1 else if b[k] < a[k] then 1 else Lib.compareBytes (a.drop (k + 1)) (b.drop (k + 1)) := by
 conv => lhs; rw [← List.take_append_drop k a, ← List.take_append_drop k b, hp, cb_app, List.drop_eq_getElem_cons ha, List.drop_eq_getElem_cons hb]
 rw [Lib.compareBytes]
section
variable {w w0 : World} {S0 : Nat → Prop} {L B : List Res} {K : Value → World → Prop} {s : Bs} {E0 E1 : Nat}
theorem r_Compare {a b : Bs} (ha : a.length = 32) (hb : b.length = 32) (h : ∀ w', St w (fun _ => False) w' [] → K (.int .i64 (Lib.compareBytes a b)) w') : CK Tryz.prog 46 [.agg ⟨bys a⟩, .agg ⟨bys b⟩] w K := by
 have hS := St.nil w (fun _ => False)
 refine call_k Tryz.func46 k46 Tryz.ntmps46 (Nat.le_of_ble_eq_true rfl) ?_
 refine gW ?_
 refine g_ef rfl (ef_bx hS rfl fun b1 w1 hS => ?_)
 refine g_ef rfl (ef_bx hS rfl fun b2 w1 hS => ?_)
 replace hS : St w (fun _ => False) w1 [cel b1 (bys a) 46, cel b2 (bys b) 46] := hS
 refine gW ?_
 refine g_lp (ι := Nat) (fun k => [(2, dp b1), (3, dp b2), (5, .int .i64 k)]) (fun k w' => k ≤ 32 ∧ a.take k = b.take k ∧ St w (fun _ => False) w' [cel b1 (bys a) 46, cel b2 (bys b) 46]) (fun k => 32 - k) 0 ⟨rfl, rfl, rfl, trivial⟩ ⟨Nat.zero_le _, rfl, hS⟩ ?_
 clear hS
 rintro k w1 ⟨hk, hP, hS⟩
 refine gW ?_
 (refine g_cd rfl (fun hc => ?_) (fun hc => ?_) <;> simp only [cmv, arv, Bool.not_eq_true', Bool.not_eq_false', decide_eq_true_eq, decide_eq_false_iff_not] at hc)
 ·have hka : k < a.length := by omega
  have hkb : k < b.length := by omega
  have hcb := cb_at hP hka hkb
  refine gW ?_
  refine g_dr mixed ?_
  replace hS := hS.drew
  refine gD ?_
  refine d_rq rfl rfl rfl ⟨by omega, by omega⟩ ?_
  refine d_l1 rfl rfl rfl (hS.b 0 rfl) (by rw [Int.toNat_natCast]; exact bys_get hka) ?_
  refine gD ?_
  refine d_rq rfl rfl rfl ⟨by omega, by omega⟩ ?_
  refine d_l1 rfl rfl rfl (hS.b 1 rfl) (by rw [Int.toNat_natCast]; exact bys_get hkb) ?_
  refine gD ?_
  refine d_fin ?_
  (refine g_cd rfl (fun h1 => ?_) (fun h1 => ?_) <;> simp only [cmv, arv, Bool.not_eq_true', Bool.not_eq_false', decide_eq_true_eq, decide_eq_false_iff_not] at h1)
  ·refine gW ?_
   rw [if_pos (UInt8.lt_iff_toNat_lt.2 (by omega))] at hcb
   refine g_ret (q_1 rfl ?_)
   rw [hcb] at h
   exact h _ (hS.sel [] rfl rfl)
  ·rw [if_neg (fun h => h1 (by have := UInt8.lt_iff_toNat_lt.1 h; omega))] at hcb
   refine gW ?_
   refine g_dr mixed ?_
   replace hS := hS.drew
   refine gD ?_
   refine d_rq rfl rfl rfl ⟨by omega, by omega⟩ ?_
   refine d_l1 rfl rfl rfl (hS.b 0 rfl) (by rw [Int.toNat_natCast]; exact bys_get hka) ?_
   refine gD ?_
   refine d_rq rfl rfl rfl ⟨by omega, by omega⟩ ?_
   refine d_l1 rfl rfl rfl (hS.b 1 rfl) (by rw [Int.toNat_natCast]; exact bys_get hkb) ?_
   refine gD ?_
   refine d_fin ?_
   (refine g_cd rfl (fun h2 => ?_) (fun h2 => ?_) <;> simp only [cmv, arv, Bool.not_eq_true', Bool.not_eq_false', decide_eq_true_eq, decide_eq_false_iff_not] at h2)
   ·refine gW ?_
    rw [if_pos (UInt8.lt_iff_toNat_lt.2 (by omega))] at hcb
    refine g_ret (q_1 rfl ?_)
    rw [hcb] at h
    exact h _ (hS.sel [] rfl rfl)
   ·refine gW ?_
    refine g_rq rfl rfl (in64 (by simp only [arv]; omega)) ?_
    refine gW ?_
    have e : a[k] = b[k] := UInt8.toNat_inj.1 (by omega)
    refine g_l (k + 1) ⟨rfl, rfl, rfl, trivial⟩ ⟨by omega, ?_, hS⟩ (by omega)
    rw [List.take_succ_eq_append_getElem hka, List.take_succ_eq_append_getElem hkb, hP, e]
 ·rw [List.take_of_length_le (by omega), List.take_of_length_le (by omega)] at hP
  subst hP
  rw [cb_self] at h
  refine gW ?_
  exact g_ret (q_1 rfl (h _ (hS.sel [] rfl rfl)))
theorem r_Has {x : Id} {v : Value} {n : Nat} {d : List Id} (hd : d.length = n) (hn : n < 2000000) (hr : Rd v E0 32 n (fl ic d) w) (h : ∀ w', St w (fun _ => False) w' [] → K (.bool (decide (x ∈ d))) w') : CK Tryz.prog 45 [v, .agg ⟨bys x.1⟩] w K := by
 have hS := St.nil w (fun _ => False)
 have hrr : ∀ {L : List Res} (w' : World), St w (fun _ => False) w' L → Rd v E0 32 n (fl ic d) w' := fun w' hS => hr.same fun b hb => hS.fr.kept b (hr.lt b hb) (fun h => h)
 obtain ⟨a, c, rfl⟩ := hr.form
 have lx := ic_len x
 refine call_k Tryz.func45 k45 Tryz.ntmps45 (Nat.le_of_ble_eq_true rfl) ?_
 refine gW ?_
 refine g_ef rfl (ef_bx hS rfl fun b1 w1 hS => ?_)
 replace hS : St w (fun _ => False) w1 [cel b1 (ic x) 46] := hS
 refine gW ?_
 refine g_lp (ι := Nat) (fun k => [(0, .slice a n c), (3, dp b1), (5, .int .i64 k)]) (fun k w' => k ≤ n ∧ (∀ j (hj : j < d.length), j < k → d[j] ≠ x) ∧ St w (fun _ => False) w' [cel b1 (ic x) 46]) (fun k => n - k) 0 ⟨rfl, rfl, rfl, trivial⟩ ⟨Nat.zero_le _, fun j _ h => absurd h (Nat.not_lt_zero j), hS⟩ ?_
 clear hS
 rintro k w1 ⟨hk, hP, hS⟩
 refine gW ?_
 (refine g_cd rfl (fun hc => ?_) (fun hc => ?_) <;> simp only [cmv, arv, Bool.not_eq_true', Bool.not_eq_false', decide_eq_true_eq, decide_eq_false_iff_not] at hc)
 ·have hlt : k < d.length := by omega
  obtain ⟨b, off, cap, l, e1, hcap, hl, hx, hb⟩ := Rd.block (hrr _ hS.drew) (by omega)
  cases e1
  have hbd : off + k * 32 + 32 ≤ l.length := by have : (k + 1) * 32 ≤ c * 32 := Nat.mul_le_mul_right 32 (by omega); omega
  refine gW ?_
  refine g_dr mixed ?_
  replace hS := hS.drew
  refine gD ?_
  refine d_rq rfl rfl rfl ⟨by omega, by omega⟩ ?_
  refine d_qt rfl rfl rfl (qt_ldmr rfl hb (by rw [Int.toNat_natCast]; exact hbd)) ?_
  rw [Int.toNat_natCast, rd_at ic_len hx hd hlt]
  refine d_lm rfl rfl rfl (hS.b 0 rfl) (Nat.le_of_eq lx.symm) ?_
  rw [List.drop_zero, List.take_of_length_le (Nat.le_of_eq lx)]
  refine d_qt rfl rfl rfl (qt_aq (a := d[k].1) (b := x.1) rfl rfl d[k].2 x.2) ?_
  refine d_fin ?_
  refine g_cd rfl (fun hq => ?_) (fun hq => ?_)
  ·have e : d[k] = x := Subtype.ext (of_decide_eq_true hq)
   have e2 : decide (x ∈ d) = true := decide_eq_true (by rw [← e]; exact List.getElem_mem _)
   rw [e2] at h
   refine gW ?_
   exact g_ret (q_1 rfl (h _ (hS.sel [] rfl rfl)))
  ·have e : d[k] ≠ x := fun e => of_decide_eq_false hq (by rw [e])
   refine gW ?_
   refine g_rq rfl rfl (in64 (by simp only [arv]; omega)) ?_
   refine gW ?_
   refine g_l (k + 1) ⟨rfl, rfl, rfl, trivial⟩ ⟨by omega, fun j hj hjk => ?_, hS⟩ (by omega)
   by_cases e2 : j = k
   ·subst e2; exact e
   ·exact hP j hj (by omega)
 ·have e2 : decide (x ∈ d) = false := decide_eq_false fun hm => by
   obtain ⟨j, hj, e⟩ := List.getElem_of_mem hm
   exact hP j hj (by omega) e
  rw [e2] at h
  refine gW ?_
  exact g_ret (q_1 rfl (h _ (hS.sel [] rfl rfl)))
end
theorem set_ins {o : List Id} {x : Id} {j : Nat} (ho : o.Pairwise (lts fun x : Id => x.1)) (hx : x ∉ o) (h1 : ∀ i (hi : i < o.length), i < j → Lib.compareBytes o[i].1 x.1 < 0) (h2 : ∀ hj : j < o.length, ¬ Lib.compareBytes o[j].1 x.1 < 0) :
  (insAt o j x).Pairwise (lts fun x : Id => x.1) := by
 refine insAt_pw ho (fun a ha => ?_) (fun b hb => ?_)
 ·obtain ⟨i, hi, e⟩ := List.mem_take_iff_getElem.1 ha
  have h3 := h1 i (by omega) (by omega)
  rw [e] at h3
  refine ⟨?_, fun e => hx (by rw [← e]; exact List.mem_of_mem_take ha)⟩
  show ble a.1 x.1 = true
  unfold ble
  rw [decide_eq_true_eq]
  omega
 ·obtain ⟨hj, hb2⟩ := drop_pw ho hb
  have h3 := h2 hj
  have hle : ble x.1 o[j].1 = true := by
   unfold ble
   rw [decide_eq_true_eq]
   have := cb_neg o[j].1 x.1
   omega
  refine ⟨?_, fun e => hx (by rw [e]; exact List.mem_of_mem_drop hb)⟩
  rcases hb2 with rfl | hb2
  ·exact hle
  ·exact ble_trans hle hb2.1
section
variable {w w0 : World} {S0 : Nat → Prop} {L B : List Res} {K : Value → World → Prop} {s : Bs} {E0 E1 : Nat}
set_option maxHeartbeats 4000000 in
theorem r_Set {v : Value} {n : Nat} {d : List Id} (hd : d.length = n) (hn : n < 2000000) (hr : Rd v E0 32 n (fl ic d) w) (h : ∀ v' w', St w (fun _ => False) w' [row v' 46 32 (iset d).length (fl ic (iset d))] → K v' w') : CK Tryz.prog 22 [v] w K := by
 have hS := St.nil w (fun _ => False)
 have hrr : ∀ {L : List Res} (w' : World), St w (fun _ => False) w' L → Rd v E0 32 n (fl ic d) w' := fun w' hS => hr.same fun b hb => hS.fr.kept b (hr.lt b hb) (fun h => h)
 obtain ⟨a, c, rfl⟩ := hr.form
 refine call_k Tryz.func22 k22 Tryz.ntmps22 (Nat.le_of_ble_eq_true rfl) ?_
 refine gW ?_
 refine g_lp (ι := Nat × Value × List Id) (fun x => [(0, .slice a n c), (3, x.2.1), (4, .int .i64 x.1)]) (fun x w' => x.1 ≤ n ∧ x.2.2.length ≤ x.1 ∧ x.2.2.Pairwise (lts fun x : Id => x.1) ∧ (∀ y, y ∈ x.2.2 ↔ y ∈ d.take x.1) ∧ St w (fun _ => False) w' [row x.2.1 46 32 x.2.2.length (fl ic x.2.2)]) (fun x => n - x.1) (0, .slice none 0 0, [])
  ⟨rfl, rfl, rfl, trivial⟩ ⟨Nat.zero_le _, Nat.zero_le _, List.Pairwise.nil, fun y => Iff.rfl, hS.nilrow 46 32⟩ ?_
 clear hS
 rintro ⟨k, vo, o⟩ w1 ⟨hk, hol, ho, hm, hS⟩
 dsimp only at hk hol ho hm hS ⊢
 refine gW ?_
 (refine g_cd rfl (fun hc => ?_) (fun hc => ?_) <;> simp only [cmv, arv, Bool.not_eq_true', Bool.not_eq_false', decide_eq_true_eq, decide_eq_false_iff_not] at hc)
 ·have hlt : k < d.length := by omega
  obtain ⟨b, off, cap, l, e1, hcap, hl, hx, hb⟩ := Rd.block (hrr _ hS) (by omega)
  cases e1
  have hbd : off + k * 32 + 32 ≤ l.length := by have : (k + 1) * 32 ≤ c * 32 := Nat.mul_le_mul_right 32 (by omega); omega
  have hX0 := rd_at ic_len hx hd hlt
  obtain ⟨ao, co, rfl⟩ := hS.rlen 0 rfl
  refine gW ?_
  refine g_rq rfl rfl ⟨by omega, by omega⟩ ?_
  refine g_lmr rfl rfl hb (by rw [Int.toNat_natCast]; exact hbd) ?_
  rw [Int.toNat_natCast, hX0]
  have hmt : ∀ y, y ∈ d.take (k + 1) ↔ y = d[k] ∨ y ∈ d.take k := fun y => by
   rw [List.take_succ_eq_append_getElem hlt, List.mem_append, List.mem_singleton]
   exact Or.comm
  generalize hX : d[k] = X at hmt hX0
  refine g_cl rfl rfl (r_Has (x := X) rfl (by omega) (Ow.rd (hS.ok 0 _ rfl)) fun w1 h' => ?_)
  replace hS := hS.call0.2 _ _ h'
  rw [List.append_nil] at hS
  refine gW ?_
  cases hq : decide (X ∈ o)
  rotate_left
  ·have hin := of_decide_eq_true hq
   refine gW ?_
   refine g_rq rfl rfl (in64 (by simp only [arv]; omega)) ?_
   refine gW ?_
   refine g_l (k + 1, .slice ao o.length co, o) ⟨rfl, rfl, rfl, trivial⟩ ⟨by simp only; omega, by simp only; omega, ho, fun y => ?_, hS⟩ (by simp only; omega)
   dsimp only
   rw [hmt, ← hm]
   exact ⟨.inr, fun h => h.elim (fun e => e ▸ hin) id⟩
  ·have hin := of_decide_eq_false hq
   refine gW ?_
   refine g_atx (ι := Nat) 2 (fun j => [(0, .slice (some ⟨b, off, none⟩) n c), (3, .slice ao o.length co), (4, .int .i64 k), (6, .int .i64 j)]) (fun j w' => j ≤ o.length ∧ (∀ i (hi : i < o.length), i < j → Lib.compareBytes o[i].1 X.1 < 0) ∧ (∀ hj : j < o.length, ¬ Lib.compareBytes o[j].1 X.1 < 0) ∧ St w (fun _ => False) w' [row (.slice ao o.length co) 46 32 o.length (fl ic o)]) rfl ?_ ?_
   ·refine g_lp (ι := Nat) (fun j => [(0, .slice (some ⟨b, off, none⟩) n c), (3, .slice ao o.length co), (4, .int .i64 k), (6, .int .i64 j)]) (fun j w' => j ≤ o.length ∧ (∀ i (hi : i < o.length), i < j → Lib.compareBytes o[i].1 X.1 < 0) ∧ St w (fun _ => False) w' [row (.slice ao o.length co) 46 32 o.length (fl ic o)]) (fun j => o.length - j) 0 ⟨rfl, rfl, rfl, rfl, trivial⟩ ⟨Nat.zero_le _, fun i _ h => absurd h (Nat.not_lt_zero i), hS⟩ ?_
    clear hS
    rintro j w1 ⟨hj, h1, hS⟩
    refine gW ?_
    refine g_dr mixed ?_
    replace hS := hS.drew
    refine gD ?_
    generalize hq1 : cmv BinOp.lss (j : Int) (o.length : Int) = q1
    cases q1
    ·(simp only [cmv, arv, Bool.not_eq_true', Bool.not_eq_false', decide_eq_true_eq, decide_eq_false_iff_not] at hq1)
     refine gD ?_
     refine d_en rfl rfl rc_0 ?_
     refine gD ?_
     refine d_fin ?_
     refine gW ?_
     exact g_jx j ⟨rfl, rfl, rfl, rfl, trivial⟩ ⟨by omega, h1, fun hjo => absurd hjo (by omega), hS⟩
    ·(simp only [cmv, arv, Bool.not_eq_true', Bool.not_eq_false', decide_eq_true_eq, decide_eq_false_iff_not] at hq1)
     have hjo : j < o.length := by omega
     obtain ⟨b2, off2, cap2, l2, e2, hcap2, hl2, hx2, hb2⟩ := Rd.block (Ow.rd (hS.ok 0 _ rfl)) (by omega)
     cases e2
     have hbd2 : off2 + j * 32 + 32 ≤ l2.length := by have : (j + 1) * 32 ≤ co * 32 := Nat.mul_le_mul_right 32 (by omega); omega
     obtain ⟨b3, off3, cap3, l3, e3, hcap3, hl3, hx3, hb3⟩ := Rd.block (hrr _ hS) (by omega)
     cases e3
     refine gD ?_
     refine d_rq rfl rfl rfl ⟨by omega, by omega⟩ ?_
     refine d_qt rfl rfl rfl (qt_ldmr rfl hb2 (by rw [Int.toNat_natCast]; exact hbd2)) ?_
     rw [Int.toNat_natCast, rd_at ic_len hx2 rfl hjo]
     refine gD ?_
     refine d_rq rfl rfl rfl ⟨by omega, by omega⟩ ?_
     refine d_qt rfl rfl rfl (qt_ldmr rfl hb3 (by rw [Int.toNat_natCast]; have : (k + 1) * 32 ≤ c * 32 := Nat.mul_le_mul_right 32 (by omega); omega)) ?_
     rw [Int.toNat_natCast, rd_at ic_len hx3 hd hlt, hX]
     refine d_cl rfl rfl rfl (r_Compare o[j].2 X.2 fun w1 h' => ?_)
     replace hS := hS.call0.2 _ _ h'
     rw [List.append_nil] at hS
     refine ⟨rc_0, ?_⟩
     refine gD ?_
     refine d_fin ?_
     (refine g_cd rfl (fun hlc => ?_) (fun hlc => ?_) <;> simp only [cmv, arv, Bool.not_eq_true', Bool.not_eq_false', decide_eq_true_eq, decide_eq_false_iff_not] at hlc)
     ·refine gW ?_
      refine g_rq rfl rfl (in64 (by simp only [arv]; omega)) ?_
      refine gW ?_
      refine g_l (j + 1) ⟨rfl, rfl, rfl, rfl, trivial⟩ ⟨by omega, fun i hi hij => ?_, hS⟩ (by omega)
      by_cases e : i = j
      ·subst e; exact hlc
      ·exact h1 i hi (by omega)
     ·refine gW ?_
      exact g_jx j ⟨rfl, rfl, rfl, rfl, trivial⟩ ⟨by omega, h1, fun _ => hlc, hS⟩
   ·clear hS
    rintro j T w1 hT ⟨hj, h1, h2, hS⟩
    refine g_wkc hT ?_
    have hO := set_ins ho hin h1 h2
    have hOm := insAt_mem o j X
    have hOl := insAt_len o (j := j) X
    refine gW ?_
    refine g_atx (ι := Value) 1 (fun v => [(0, .slice (some ⟨b, off, none⟩) n c), (3, .slice ao o.length co), (4, .int .i64 k), (6, .int .i64 j), (7, v)]) (fun v w' => St w (fun _ => False) w' [row (.slice ao o.length co) 46 32 o.length (fl ic o), row v 46 32 (j + 1) (fl ic (o.take j ++ [X]))]) rfl ?_ ?_
    ·refine g_dr mixed ?_
     replace hS := hS.drew
     obtain ⟨b3, off3, cap3, l3, e3, hcap3, hl3, hx3, hb3⟩ := Rd.block (hrr _ hS) (by omega)
     cases e3
     have hbd3 : off + k * 32 + 32 ≤ l3.length := by have : (k + 1) * 32 ≤ c * 32 := Nat.mul_le_mul_right 32 (by omega); omega
     have hX3 : ((l3.drop (off + k * 32)).take 32) = ic X := by rw [rd_at ic_len hx3 hd hlt, hX]
     have hle := (hS.ok 0 _ rfl : Ow _ _ _ _ _ _).le
     have htk : (fl ic o).take (j * 32) = fl ic (o.take j) := fl_take ic_len j o
     have hrd : ∀ {L : List Res} {w' : World}, St w (fun _ => False) w' (row (.slice ao o.length co) 46 32 o.length (fl ic o) :: L) → Rd (.slice ao j co) 46 32 j (fl ic (o.take j)) w' := fun hS => by
      have := Rd.hd (Ow.rd (hS.ok 0 _ rfl)) hj
      rw [htk] at this
      exact this
     have hXR : ∀ {L : List Res} {w' : World}, St w (fun _ => False) w' L → ∀ {P : Program} {T : TT} {x : Operand}, ev T x = some (.pointer (some ⟨b, off + (k : Int).toNat * 32, none⟩)) → Qt P (.ld x (some 32)) T w' (.agg ⟨ic X⟩) := fun {L} {w'} hS {P} {T} {x} hev => by
      obtain ⟨b4, off4, cap4, l4, e4, hcap4, hl4, hx4, hb4⟩ := Rd.block (hrr _ hS) (by omega)
      cases e4
      have := qt_ldmr (P := P) (n := 32) hev hb4 (by rw [Int.toNat_natCast]; have : (k + 1) * 32 ≤ c * 32 := Nat.mul_le_mul_right 32 (by omega); omega)
      rw [Int.toNat_natCast, rd_at ic_len hx4 hd hlt, hX] at this
      exact this
     replace hS := hS.nilrow 46 32
     have hone : (ic X).all (·.oneCell') = true := List.all_eq_true.2 (ic_one X)
     have hap : fl ic (o.take j) ++ ic X = fl ic (o.take j ++ [X]) := by rw [fl_app]; simp [fl]
     refine gD ?_
     refine d_qp rfl rfl rfl (fun w => qt_slh rfl hle.2 rfl hj hle.1) ?_
     refine gD ?_
     refine d_rq rfl rfl rfl ⟨by omega, by omega⟩ ?_
     refine d_qt rfl rfl rfl (hXR hS rfl) ?_
     refine d_a2 ?_ (d_a1 ?_)
     ·refine d_e rfl rfl ?_
      refine ef_ap (bytes := 32) (n := 0) (m := j) (ys := fl ic (o.take j)) hS 1 rfl rfl rfl (.inl ⟨_, hrd hS⟩) (fl_one ic_one _) (by omega) (by omega) fun v1 w2 hS => ?_
      rw [Nat.zero_add, List.nil_append] at hS
      refine ⟨rc_qt rfl rfl rfl rfl (hXR hS rfl) rc_0, ?_⟩
      refine d_e rfl rfl ?_
      refine ef_bl (rs := ic X) hS (evcs_1 rfl (ic_len _)) fun g w2 hS => ⟨rc_0, ?_⟩
      refine d_e rfl rfl ?_
      refine ef_ap (bytes := 32) (n := j) (m := 1) (ys := ic X) hS 1 rfl rfl rfl (.inl ⟨46, .inr ⟨g, 0, 1, _, rfl, Nat.le_refl _, Nat.le_of_eq (by rw [ic_len]), by rw [List.drop_zero, List.take_of_length_le (Nat.le_of_eq (ic_len _))], (hS.b 2 rfl).r⟩⟩) hone (by omega) (by omega) fun v2 w2 hS => ⟨rc_0, ?_⟩
      rw [hap] at hS
      refine d_e rfl rfl ?_
      refine ef_qt ((pev_ok rfl).2 _) ⟨rc_0, ?_⟩
      refine d_fin ?_
      exact g_jx v2 ⟨rfl, rfl, rfl, rfl, rfl, trivial⟩ (hS.sel [0, 1] rfl rfl)
     ·refine d_e rfl rfl ?_
      refine ef_bl (rs := ic X) hS (evcs_1 rfl (ic_len _)) fun g w2 hS => ⟨rc_0, ?_⟩
      refine d_e rfl rfl ?_
      refine ef_ap (bytes := 32) (n := 0) (m := j) (ys := fl ic (o.take j)) hS 1 rfl rfl rfl (.inl ⟨_, hrd hS⟩) (fl_one ic_one _) (by omega) (by omega) fun v1 w2 hS => ⟨rc_0, ?_⟩
      rw [Nat.zero_add, List.nil_append] at hS
      refine d_e rfl rfl ?_
      refine ef_ap (bytes := 32) (n := j) (m := 1) (ys := ic X) hS 1 rfl rfl rfl (.inl ⟨46, .inr ⟨g, 0, 1, _, rfl, Nat.le_refl _, Nat.le_of_eq (by rw [ic_len]), by rw [List.drop_zero, List.take_of_length_le (Nat.le_of_eq (ic_len _))], (hS.b 2 rfl).r⟩⟩) hone (by omega) (by omega) fun v2 w2 hS => ⟨rc_0, ?_⟩
      rw [hap] at hS
      refine d_e rfl rfl ?_
      refine ef_qt ((pev_ok rfl).2 _) ⟨rc_0, ?_⟩
      refine d_fin ?_
      exact g_jx v2 ⟨rfl, rfl, rfl, rfl, rfl, trivial⟩ (hS.sel [0, 1] rfl rfl)
    ·clear hS
     rintro v T w1 hT hS
     refine g_wkc hT ?_
     have hle := (hS.ok 0 _ rfl : Ow _ _ _ _ _ _).le
     obtain ⟨a', hrd, hq⟩ := sl_drop (Ow.rd (hS.ok 0 _ rfl)) hle.1 hj
     rw [fl_drop ic_len] at hrd
     refine gW ?_
     refine g_qt rfl (hq _ rfl rfl) ?_
     refine g_ef rfl (ef_ap (bytes := 32) (n := j + 1) (m := o.length - j) (ys := fl ic (o.drop j)) hS 1 rfl rfl rfl (.inl ⟨_, hrd⟩) (fl_one ic_one _) (by omega) (by omega) fun v2 w2 hS => ?_)
     have e3 : fl ic (o.take j ++ [X]) ++ fl ic (o.drop j) = fl ic (insAt o j X) := by
      rw [← fl_app]
      congr 1
      unfold insAt
      simp
     rw [e3, show j + 1 + (o.length - j) = (insAt o j X).length by rw [hOl]; omega] at hS
     refine gW ?_
     refine g_rq rfl rfl (in64 (by simp only [arv]; omega)) ?_
     refine gW ?_
     refine g_l (k + 1, v2, insAt o j X) ⟨rfl, rfl, rfl, trivial⟩ ⟨by simp only; omega, by simp only; rw [hOl]; omega, hO, fun y => ?_, hS.sel [1] rfl rfl⟩ (by simp only; omega)
     dsimp only
     rw [hmt, ← hm, hOm]
 ·have ek : k = n := by omega
  subst ek
  have e : iset d = o := iset_of ho fun y => by rw [hm, List.take_of_length_le (by omega)]
  rw [e] at h
  refine gW ?_
  exact g_ret (q_1 rfl (h _ _ hS))
end
theorem rd_at0 {l : List Value} {off n c : Nat} {d : List Li} (h : (l.drop off).take (n * 33) = fl lc d) (hn : d.length = n) {i : Nat} (hi : i < d.length) : l[off + i * 33]? = some (sv d[i].1) := by
 have h1 := rd_at lc_len h hn hi
 have h2 := congrArg (fun l : List Value => l[0]?) h1
 simp only [List.getElem?_take, List.getElem?_drop] at h2
 rw [if_pos (by decide)] at h2
 exact h2
theorem leq_ble (a b : Bs) : scv .leq (⟨a.toArray⟩ : ByteArray).data.toList (⟨b.toArray⟩ : ByteArray).data.toList = ble a b := by
 show (Op.bytesLess a b || decide (a = b)) = _
 rw [bless_eq]
 unfold ble
 rw [Bool.eq_iff_iff, Bool.or_eq_true, decide_eq_true_eq, decide_eq_true_eq, decide_eq_true_eq]
 constructor
 ·rintro (h | rfl)
  ·omega
  ·rw [cb_self]
   omega
 ·intro h
  by_cases e : Lib.compareBytes a b = 0
  ·exact .inr (cb_zero e)
  ·left
   omega
section
variable {w w0 : World} {S0 : Nat → Prop} {L B : List Res} {K : Value → World → Prop} {s : Bs} {E0 E1 : Nat}
set_option maxHeartbeats 4000000 in
theorem r_in {o : List Li} {x : Li} {v : Value} {n : Nat} (hd : o.length = n) (hn : n < 2000000) (hr : Ow v 56 33 n (fl lc o) w)
  (h : ∀ j v' w', (∀ i (hi : i < o.length), i < j → ble o[i].1 x.1 = true) → (∀ hj : j < o.length, ¬ ble o[j].1 x.1 = true) → St w (fun _ => False) w' [row v' 56 33 (insAt o j x).length (fl lc (insAt o j x))] → K v' w') : CK Tryz.prog 23 [v, .agg ⟨lc x⟩] w K := by
 have hS := St.nil w (fun _ => False)
 have hrr : ∀ {L : List Res} (w' : World), St w (fun _ => False) w' L → Rd v 56 33 n (fl lc o) w' := fun w' hS => hr.rd.same fun b hb => hS.fr.kept b (hr.rd.lt b hb) (fun h => h)
 obtain ⟨a, c, rfl⟩ := hr.rd.form
 have hle := hr.le
 have lx := lc_len x
 refine call_k Tryz.func23 k23 Tryz.ntmps23 (Nat.le_of_ble_eq_true rfl) ?_
 refine gW ?_
 refine g_ef rfl (ef_bx hS rfl fun b1 w1 hS => ?_)
 replace hS : St w (fun _ => False) w1 [cel b1 (lc x) 56] := hS
 refine gW ?_
 refine g_atx (ι := Nat) 2 (fun j => [(0, .slice a n c), (3, dp b1), (5, .int .i64 j)]) (fun j w' => j ≤ o.length ∧ (∀ i (hi : i < o.length), i < j → ble o[i].1 x.1 = true) ∧ (∀ hj : j < o.length, ¬ ble o[j].1 x.1 = true) ∧ St w (fun _ => False) w' [cel b1 (lc x) 56]) rfl ?_ ?_
 ·refine g_lp (ι := Nat) (fun j => [(0, .slice a n c), (3, dp b1), (5, .int .i64 j)]) (fun j w' => j ≤ o.length ∧ (∀ i (hi : i < o.length), i < j → ble o[i].1 x.1 = true) ∧ St w (fun _ => False) w' [cel b1 (lc x) 56]) (fun j => o.length - j) 0 ⟨rfl, rfl, rfl, trivial⟩ ⟨Nat.zero_le _, fun i _ h => absurd h (Nat.not_lt_zero i), hS⟩ ?_
  clear hS
  rintro j w1 ⟨hj, h1, hS⟩
  refine gW ?_
  refine g_dr mixed ?_
  replace hS := hS.drew
  refine gD ?_
  (generalize q1 : cmv _ _ _ = q; cases q <;> simp only [cmv, arv, Bool.not_eq_true', Bool.not_eq_false', decide_eq_true_eq, decide_eq_false_iff_not] at q1 <;> first | (exfalso; omega) | skip)
  ·refine gD ?_
   refine d_fin ?_
   refine gW ?_
   exact g_jx j ⟨rfl, rfl, rfl, trivial⟩ ⟨by omega, h1, fun hjo => absurd hjo (by omega), hS⟩
  ·have hjo : j < o.length := by omega
   obtain ⟨b2, off2, cap2, l2, e2, hcap2, hl2, hx2, hb2⟩ := Rd.block (hrr _ hS) (by omega)
   cases e2
   refine gD ?_
   refine d_rq rfl rfl rfl ⟨by omega, by omega⟩ ?_
   refine gD ?_
   refine d_l1r rfl rfl rfl hb2 (by rw [Int.toNat_natCast]; exact rd_at0 (c := c) hx2 hd hjo) ?_
   refine gD ?_
   refine d_l1 rfl rfl rfl (hS.b 0 rfl) (v := sv x.1) rfl ?_
   refine gD ?_
   refine d_fin ?_
   rw [leq_ble]
   cases hlc : ble o[j].1 x.1
   ·refine gW ?_
    exact g_jx j ⟨rfl, rfl, rfl, trivial⟩ ⟨by omega, h1, fun _ => by rw [hlc]; decide, hS⟩
   ·refine gW ?_
    refine g_rq rfl rfl (in64 (by simp only [arv]; omega)) ?_
    refine gW ?_
    refine g_l (j + 1) ⟨rfl, rfl, rfl, trivial⟩ ⟨by omega, fun i hi hij => ?_, hS⟩ (by omega)
    by_cases e : i = j
    ·subst e; exact hlc
    ·exact h1 i hi (by omega)
 ·clear hS
  rintro j T w1 hT ⟨hj, h1, h2, hS⟩
  refine g_wkc hT ?_
  have hOl := insAt_len o (j := j) x
  have hjn : j ≤ n := by omega
  refine gW ?_
  refine g_atx (ι := Value) 1 (fun v => [(0, .slice a n c), (5, .int .i64 j), (6, v)]) (fun v w' => St w (fun _ => False) w' [row v 56 33 (j + 1) (fl lc (o.take j ++ [x]))]) rfl ?_ ?_
  ·refine g_dr mixed ?_
   replace hS := hS.drew
   have htk : (fl lc o).take (j * 33) = fl lc (o.take j) := fl_take lc_len j o
   have hrd : ∀ {L : List Res} {w' : World}, St w (fun _ => False) w' L → Rd (.slice a j c) 56 33 j (fl lc (o.take j)) w' := fun hS => by
    have := Rd.hd (hrr _ hS) hjn
    rw [htk] at this
    exact this
   have hXR : ∀ {L : List Res} {w' : World}, St w (fun _ => False) w' (cel b1 (lc x) 56 :: L) → ∀ {P : Program} {T : TT} {y : Operand}, ev T y = some (dp b1) → Qt P (.ld y (some 33)) T w' (.agg ⟨lc x⟩) := fun {L} {w'} hS {P} {T} {y} hev => by
    have := qt_ldm (P := P) (n := 33) hev (hS.b 0 rfl) (Nat.le_of_eq lx.symm)
    rw [List.drop_zero, List.take_of_length_le (Nat.le_of_eq lx)] at this
    exact this
   replace hS := hS.nilrow 56 33
   have hone : (lc x).all (·.oneCell') = true := List.all_eq_true.2 (lc_one x)
   have hap : fl lc (o.take j) ++ lc x = fl lc (o.take j ++ [x]) := by rw [fl_app]; simp [fl]
   refine gD ?_
   refine d_qp rfl rfl rfl (fun w => qt_slh rfl hle.2 rfl hjn hle.1) ?_
   refine gD ?_
   refine d_qt rfl rfl rfl (hXR hS rfl) ?_
   refine d_a2 ?_ (d_a1 ?_)
   ·refine d_e rfl rfl ?_
    refine ef_ap (bytes := 48) (n := 0) (m := j) (ys := fl lc (o.take j)) hS 1 rfl rfl rfl (.inl ⟨_, hrd hS⟩) (fl_one lc_one _) (by omega) (by omega) fun v1 w2 hS => ?_
    rw [Nat.zero_add, List.nil_append] at hS
    refine ⟨rc_qt rfl rfl rfl rfl (hXR hS rfl) rc_0, ?_⟩
    refine d_e rfl rfl ?_
    refine ef_bl (rs := lc x) hS (evcs_1 rfl (lc_len _)) fun g w2 hS => ⟨rc_0, ?_⟩
    refine d_e rfl rfl ?_
    refine ef_ap (bytes := 48) (n := j) (m := 1) (ys := lc x) hS 1 rfl rfl rfl (.inl ⟨56, .inr ⟨g, 0, 1, _, rfl, Nat.le_refl _, Nat.le_of_eq (by rw [lc_len]), by rw [List.drop_zero, List.take_of_length_le (Nat.le_of_eq (lc_len _))], (hS.b 2 rfl).r⟩⟩) hone (by omega) (by omega) fun v2 w2 hS => ⟨rc_0, ?_⟩
    rw [hap] at hS
    refine d_e rfl rfl ?_
    refine ef_qt ((pev_ok rfl).2 _) ⟨rc_0, ?_⟩
    refine d_fin ?_
    exact g_jx v2 ⟨rfl, rfl, rfl, trivial⟩ (hS.sel [1] rfl rfl)
   ·refine d_e rfl rfl ?_
    refine ef_bl (rs := lc x) hS (evcs_1 rfl (lc_len _)) fun g w2 hS => ⟨rc_0, ?_⟩
    refine d_e rfl rfl ?_
    refine ef_ap (bytes := 48) (n := 0) (m := j) (ys := fl lc (o.take j)) hS 1 rfl rfl rfl (.inl ⟨_, hrd hS⟩) (fl_one lc_one _) (by omega) (by omega) fun v1 w2 hS => ⟨rc_0, ?_⟩
    rw [Nat.zero_add, List.nil_append] at hS
    refine d_e rfl rfl ?_
    refine ef_ap (bytes := 48) (n := j) (m := 1) (ys := lc x) hS 1 rfl rfl rfl (.inl ⟨56, .inr ⟨g, 0, 1, _, rfl, Nat.le_refl _, Nat.le_of_eq (by rw [lc_len]), by rw [List.drop_zero, List.take_of_length_le (Nat.le_of_eq (lc_len _))], (hS.b 2 rfl).r⟩⟩) hone (by omega) (by omega) fun v2 w2 hS => ⟨rc_0, ?_⟩
    rw [hap] at hS
    refine d_e rfl rfl ?_
    refine ef_qt ((pev_ok rfl).2 _) ⟨rc_0, ?_⟩
    refine d_fin ?_
    exact g_jx v2 ⟨rfl, rfl, rfl, trivial⟩ (hS.sel [1] rfl rfl)
  ·clear hS
   rintro v T w1 hT hS
   refine g_wkc hT ?_
   obtain ⟨a', hrd, hq⟩ := sl_drop (hrr _ hS) hle.1 hjn
   rw [fl_drop lc_len] at hrd
   refine gW ?_
   refine g_qt rfl (hq _ rfl rfl) ?_
   refine g_ef rfl (ef_ap (bytes := 48) (n := j + 1) (m := n - j) (ys := fl lc (o.drop j)) hS 0 rfl rfl rfl (.inl ⟨_, hrd⟩) (fl_one lc_one _) (by omega) (by omega) fun v2 w2 hS => ?_)
   have e3 : fl lc (o.take j ++ [x]) ++ fl lc (o.drop j) = fl lc (insAt o j x) := by
    rw [← fl_app]
    congr 1
    unfold insAt
    simp
   rw [e3, show j + 1 + (n - j) = (insAt o j x).length by rw [hOl]; omega] at hS
   refine gW ?_
   exact g_ret (q_1 rfl (h j _ _ h1 h2 hS))
end
theorem cb_lt_trans {a b c : Bs} (h : Lib.compareBytes a b < 0) (k : Lib.compareBytes b c < 0) : Lib.compareBytes a c < 0 := by
 have h1 := cb_trans (Int.le_of_lt h) (Int.le_of_lt k)
 rcases cb_three a c with h2 | h2 | h2
 ·omega
 ·have := cb_zero h2
  subst this
  have := cb_neg a b
  omega
 ·omega
theorem cb_nil (a : Bs) : Lib.compareBytes [] a < 0 ↔ 1 ≤ a.length := by
 cases a <;> simp [Lib.compareBytes]
theorem cb_nil' (a : Bs) : ¬ Lib.compareBytes a [] < 0 := by
 cases a <;> simp [Lib.compareBytes]
def tokB (l : List En) : Prop := (∀ e ∈ l, enB e = true) ∧ ordB l
theorem tok_next {l : List En} {k : Nat} (hk : k < l.length) : tokB (l.take (k + 1)) ↔ tokB (l.take k) ∧ enB l[k] = true ∧ (0 < k → Lib.compareBytes (l[k - 1]'(by omega)).1 l[k].1 < 0) := by
 rw [List.take_succ_eq_append_getElem hk]
 unfold tokB ordB
 rw [List.pairwise_append]
 constructor
 ·rintro ⟨h1, h2, _, h3⟩
  refine ⟨⟨fun e he => h1 e (List.mem_append_left _ he), h2⟩, h1 _ (List.mem_append_right _ List.mem_cons_self), fun h0 => h3 _ ?_ _ List.mem_cons_self⟩
  rw [List.mem_take_iff_getElem]
  exact ⟨k - 1, by omega, rfl⟩
 ·rintro ⟨⟨h1, h2⟩, h3, h4⟩
  refine ⟨fun e he => ?_, h2, List.pairwise_singleton _ _, fun a ha b hb => ?_⟩
  ·rcases List.mem_append.1 he with he | he
   ·exact h1 e he
   ·rw [List.mem_singleton.1 he]; exact h3
  ·rw [List.mem_singleton.1 hb]
   rw [List.mem_take_iff_getElem] at ha
   obtain ⟨i, hi, rfl⟩ := ha
   have h5 := h4 (by omega)
   by_cases e : i = k - 1
   ·subst e; exact h5
   ·have h6 := List.pairwise_iff_getElem.1 h2 i (k - 1) (by rw [List.length_take]; omega) (by rw [List.length_take]; omega) (by omega)
    rw [List.getElem_take, List.getElem_take] at h6
    exact cb_lt_trans h6 h5
theorem tok_take {l : List En} (h : tokB l) (k : Nat) : tokB (l.take k) := ⟨fun e he => h.1 e (List.mem_of_mem_take he), h.2.sublist (List.take_sublist _ _)⟩
theorem sl_nm {s : Bs} : nmB s = (decide (1 ≤ s.length) && decide (s.length ≤ 64) && !s.any bdc) := by
 unfold nmB
 congr 1
 rw [List.not_any_eq_all_not]
 congr 1
 funext c
 unfold bdc
 by_cases h1 : c = 47 <;> by_cases h2 : c = 0 <;> simp [h1, h2]
noncomputable def mayB (o : Obj) : Bool := if o.kind = 1 then decide (o.data.length ≤ 1024) else if o.kind = 2 then @decide (o.ents.length ≤ 32 ∧ tokB o.ents) (Classical.propDecidable _) else if o.kind = 3 then decide (o.pars.length ≤ 4 ∧ o.pars.Nodup ∧ o.msg.length ≤ 200) else if o.kind = 4 then decide ((1 ≤ o.tk ∧ o.tk ≤ 4) ∧ o.msg.length ≤ 200) else false
def bareO (o : Obj) : Obj := if o.kind = 1 then { obZ with kind := 1, data := o.data } else if o.kind = 2 then { obZ with kind := 2, ents := o.ents } else if o.kind = 3 then { obZ with kind := 3, tree := o.tree, pars := o.pars, msg := o.msg } else { obZ with kind := o.kind, tk := o.tk, tid := o.tid, msg := o.msg }
theorem ok_bare (o : Obj) : okO o ↔ mayB o = true ∧ bareO o = o := by
 obtain ⟨kind, data, ents, tree, pars, tk, tid, msg⟩ := o
 unfold okO mayB bareO obZ
 dsimp only
 by_cases h1 : kind = 1
 ·subst h1
  simp only [if_true, decide_eq_true_eq, Obj.mk.injEq, true_and, and_true]
  constructor
  ·rintro (h | ⟨h, _⟩ | ⟨h, _⟩ | ⟨h, _⟩)
   ·obtain ⟨a, b, c, d, e, f, g⟩ := h
    exact ⟨a, b.symm, c.symm, d.symm, e.symm, f.symm, g.symm⟩
   all_goals exact absurd h (by decide)
  ·rintro ⟨a, b, c, d, e, f, g⟩
   exact .inl ⟨a, b.symm, c.symm, d.symm, e.symm, f.symm, g.symm⟩
 by_cases h2 : kind = 2
 ·subst h2
  simp only [if_neg (show ¬ (2 : Nat) = 1 by decide), if_true, decide_eq_true_eq, Obj.mk.injEq, true_and, and_true]
  constructor
  ·rintro (⟨h, _⟩ | h | ⟨h, _⟩ | ⟨h, _⟩)
   ·exact absurd h (by decide)
   ·obtain ⟨a, b, c, d, e, f, g⟩ := h
    exact ⟨a, b.symm, c.symm, d.symm, e.symm, f.symm, g.symm⟩
   all_goals exact absurd h (by decide)
  ·rintro ⟨a, b, c, d, e, f, g⟩
   exact .inr (.inl ⟨⟨a.1, a.2⟩, b.symm, c.symm, d.symm, e.symm, f.symm, g.symm⟩)
 by_cases h3 : kind = 3
 ·subst h3
  simp only [if_neg (show ¬ (3 : Nat) = 1 by decide), if_neg (show ¬ (3 : Nat) = 2 by decide), if_true, decide_eq_true_eq, Obj.mk.injEq, true_and, and_true]
  constructor
  ·rintro (⟨h, _⟩ | ⟨h, _⟩ | h | ⟨h, _⟩)
   ·exact absurd h (by decide)
   ·exact absurd h (by decide)
   ·obtain ⟨a, b, c, d, e⟩ := h
    exact ⟨a, b.symm, c.symm, d.symm, e.symm⟩
   ·exact absurd h (by decide)
  ·rintro ⟨a, b, c, d, e⟩
   exact .inr (.inr (.inl ⟨a, b.symm, c.symm, d.symm, e.symm⟩))
 by_cases h4 : kind = 4
 ·subst h4
  simp only [if_neg (show ¬ (4 : Nat) = 1 by decide), if_neg (show ¬ (4 : Nat) = 2 by decide), if_neg (show ¬ (4 : Nat) = 3 by decide), if_true, decide_eq_true_eq, Obj.mk.injEq, true_and, and_true]
  constructor
  ·rintro (⟨h, _⟩ | ⟨h, _⟩ | ⟨h, _⟩ | h)
   ·exact absurd h (by decide)
   ·exact absurd h (by decide)
   ·exact absurd h (by decide)
   ·obtain ⟨a, b, c, d, e⟩ := h
    exact ⟨⟨⟨a.1, a.2.1⟩, a.2.2⟩, b.symm, c.symm, d.symm, e.symm⟩
  ·rintro ⟨a, b, c, d, e⟩
   exact .inr (.inr (.inr ⟨⟨a.1.1, a.1.2, a.2⟩, b.symm, c.symm, d.symm, e.symm⟩))
 ·rw [if_neg h1, if_neg h2, if_neg h3, if_neg h4]
  constructor
  ·rintro (⟨h, _⟩ | ⟨h, _⟩ | ⟨h, _⟩ | ⟨h, _⟩)
   ·exact absurd h h1
   ·exact absurd h h2
   ·exact absurd h h3
   ·exact absurd h h4
  ·rintro ⟨h, _⟩
   cases h
section
variable {w w0 : World} {S0 : Nat → Prop} {L B : List Res} {K : Value → World → Prop} {s : Bs} {E0 E1 : Nat}
theorem b_known {k : Int} (h : K (.bool (decide (1 ≤ k ∧ k ≤ 4))) w) : CK Tryz.prog 251 [.int .i64 k] w K := by
 refine call_k Tryz.func251 k251 Tryz.ntmps251 (Nat.le_of_ble_eq_true rfl) ?_
 refine gW ?_
 (generalize h1 : cmv _ _ _ = q; cases q <;> simp only [cmv, arv, Bool.not_eq_true', Bool.not_eq_false', decide_eq_true_eq, decide_eq_false_iff_not] at h1 <;> first | (exfalso; omega) | skip)
 ·rw [decide_eq_false (fun h => h1 h.1)] at h
  refine gW ?_
  exact g_ret (q_1 rfl h)
 ·refine gW ?_
  have e : cmv .leq k 4 = decide (1 ≤ k ∧ k ≤ 4) := by
   simp only [cmv]
   exact decide_eq_decide.2 ⟨fun h => ⟨h1, h⟩, fun h => h.2⟩
  rw [e]
  exact g_ret (q_1 rfl h)
theorem b_said (h : K (.bool (decide (s.length ≤ 200))) w) : CK Tryz.prog 246 [sv s] w K := by
 refine call_k Tryz.func246 k246 Tryz.ntmps246 (Nat.le_of_ble_eq_true rfl) ?_
 refine gW ?_
 rw [show (⟨s.toArray⟩ : ByteArray).size = s.length by show s.toArray.size = _; simp]
 have e : cmv .leq (s.length : Int) 200 = decide (s.length ≤ 200) := by
  simp only [cmv]
  exact decide_eq_decide.2 ⟨fun h => by omega, fun h => by omega⟩
 rw [e]
 exact g_ret (q_1 rfl h)
theorem b_mayB {o : Obj} {vd ve vp : Value} (hk : o.kind = 1) (hR : OR o vd ve vp w) (h : ∀ w', St w (fun _ => False) w' [] → K (.bool (mayB o)) w') : CK Tryz.prog 228 [.agg ⟨oc o vd ve vp⟩] w K := by
 have hS := St.nil w (fun _ => False)
 have lo := oc_len o vd ve vp
 obtain ⟨⟨E1, hd⟩, _, _⟩ := hR
 obtain ⟨a, c, rfl⟩ := hd.form
 refine call_k Tryz.func228 k228 Tryz.ntmps228 (Nat.le_of_ble_eq_true rfl) ?_
 refine gW ?_
 refine g_ef rfl (ef_bx hS rfl fun b1 w1 hS => ?_)
 refine gW ?_
 refine g_l1 rfl rfl (hS.b 0 rfl) (v := .slice a o.data.length c) rfl ?_
 refine gW ?_
 have e : cmv .leq (o.data.length : Int) 1024 = mayB o := by
  unfold mayB
  rw [if_pos hk]
  simp only [cmv]
  exact decide_eq_decide.2 ⟨fun h => by omega, fun h => by omega⟩
 rw [e]
 exact g_ret (q_1 rfl (h _ (hS.sel [] rfl rfl)))
theorem b_mayG {o : Obj} {vd ve vp : Value} (hk : o.kind = 4) (h : ∀ w', St w (fun _ => False) w' [] → K (.bool (mayB o)) w') : CK Tryz.prog 249 [.agg ⟨oc o vd ve vp⟩] w K := by
 have hS := St.nil w (fun _ => False)
 have lo := oc_len o vd ve vp
 obtain ⟨q1, q2, q3⟩ := oc_at o vd ve vp
 refine call_k Tryz.func249 k249 Tryz.ntmps249 (Nat.le_of_ble_eq_true rfl) ?_
 refine gW ?_
 refine g_ef rfl (ef_bx hS rfl fun b1 w1 hS => ?_)
 refine gW ?_
 refine g_l1 rfl rfl (hS.b 0 rfl) (v := .int .i64 (o.tk : Int)) q2 ?_
 refine g_cl rfl rfl (b_known ?_)
 cases hq : decide (1 ≤ (o.tk : Int) ∧ (o.tk : Int) ≤ 4)
 ·have e : mayB o = false := by
   unfold mayB
   rw [if_neg (by omega), if_neg (by omega), if_neg (by omega), if_pos hk]
   rw [decide_eq_false_iff_not] at hq ⊢
   exact fun h => hq ⟨by omega, by omega⟩
  rw [e] at h
  refine gW ?_
  exact g_ret (q_1 rfl (h _ (hS.sel [] rfl rfl)))
 ·refine gW ?_
  refine g_l1 rfl rfl (hS.b 0 rfl) (v := sv o.msg) q3 ?_
  refine g_cl rfl rfl (b_said ?_)
  have e : decide (o.msg.length ≤ 200) = mayB o := by
   unfold mayB
   rw [if_neg (by omega), if_neg (by omega), if_neg (by omega), if_pos hk]
   rw [decide_eq_true_eq] at hq
   exact decide_eq_decide.2 ⟨fun h => ⟨by omega, h⟩, fun h => h.2⟩
  rw [e]
  refine gW ?_
  exact g_ret (q_1 rfl (h _ (hS.sel [] rfl rfl)))
end
theorem nodup_perm {α : Type} [DecidableEq α] : ∀ {A L : List α}, A.Nodup → (∀ x ∈ A, x ∈ L) → L.length ≤ A.length → A.Perm L
 | [], L, _, _, hl => by
  rw [List.eq_nil_of_length_eq_zero (show L.length = 0 by simpa using hl)]
 | a :: A, L, hA, h, hl => by
  have ha := h a (by simp)
  rw [List.nodup_cons] at hA
  refine List.Perm.trans ?_ (List.perm_cons_erase ha).symm
  refine List.Perm.cons a (nodup_perm hA.2 (fun x hx => ?_) ?_)
  ·exact (List.mem_erase_of_ne (fun e : x = a => hA.1 (by rw [← e]; exact hx))).2 (h x (by simp [hx]))
  ·rw [List.length_erase_of_mem ha]
   simp at hl
   omega
theorem iset_nodup (l : List Id) : (iset l).length = l.length ↔ l.Nodup := by
 have hs : (iset l).Nodup := (kset_sorted (fun x : Id => x.1) id_inj l).imp fun h => h.2
 have hm : ∀ x, x ∈ iset l ↔ x ∈ l := mem_kset (fun x : Id => x.1) l
 constructor
 ·intro h
  have h2 := nodup_perm hs (fun x hx => (hm x).1 hx) (by omega)
  exact h2.nodup_iff.1 hs
 ·intro h
  exact ((List.perm_ext_iff_of_nodup hs h).2 hm).length_eq
section
variable {w w0 : World} {S0 : Nat → Prop} {L B : List Res} {K : Value → World → Prop} {s : Bs} {E0 E1 : Nat}
theorem b_mayC {o : Obj} {vd ve vp : Value} (hk : o.kind = 3) (hR : OR o vd ve vp w) (h : ∀ w', St w (fun _ => False) w' [] → K (.bool (mayB o)) w') : CK Tryz.prog 244 [.agg ⟨oc o vd ve vp⟩] w K := by
 have hS := St.nil w (fun _ => False)
 have lo := oc_len o vd ve vp
 obtain ⟨q1, q2, q3⟩ := oc_at o vd ve vp
 obtain ⟨_, _, ⟨E3, hp⟩⟩ := hR
 have hrr : ∀ {L : List Res} (w' : World), St w (fun _ => False) w' L → Rd vp E3 32 o.pars.length (fl ic o.pars) w' := fun w' hS => hp.same fun b hb => hS.fr.kept b (hp.lt b hb) (fun h => h)
 have em : mayB o = decide (o.pars.length ≤ 4 ∧ o.pars.Nodup ∧ o.msg.length ≤ 200) := by
  unfold mayB
  rw [if_neg (by omega), if_neg (by omega), if_pos hk]
 obtain ⟨a, c, rfl⟩ := hp.form
 refine call_k Tryz.func244 k244 Tryz.ntmps244 (Nat.le_of_ble_eq_true rfl) ?_
 refine gW ?_
 refine g_ef rfl (ef_bx hS rfl fun b1 w1 hS => ?_)
 replace hS : St w (fun _ => False) w1 [cel b1 (oc o vd ve (.slice a o.pars.length c)) 254] := hS
 refine gW ?_
 refine g_dr mixed ?_
 replace hS := hS.drew
 refine gD ?_
 refine d_l1 rfl rfl rfl (hS.b 0 rfl) q1 ?_
 refine gD ?_
 (generalize h4 : cmv _ _ _ = q; cases q <;> simp only [cmv, arv, Bool.not_eq_true', Bool.not_eq_false', decide_eq_true_eq, decide_eq_false_iff_not] at h4 <;> first | (exfalso; omega) | skip)
 ·rw [em, decide_eq_false (fun h => h4 (by have := h.1; omega))] at h
  refine gD ?_
  refine d_en rfl rfl (rc_no rfl rfl rfl rc_0) ?_
  refine gD ?_
  refine d_en rfl rfl rc_0 ?_
  refine gD ?_
  refine d_fin ?_
  refine gW ?_
  exact g_ret (q_1 rfl (h _ (hS.sel [] rfl rfl)))
 have h4 : o.pars.length ≤ 4 := by omega
 refine gD ?_
 refine d_l1 rfl rfl rfl (hS.b 0 rfl) q1 ?_
 refine gD ?_
 refine d_l1 rfl rfl rfl (hS.b 0 rfl) q1 ?_
 refine gD ?_
 refine d_cl rfl rfl rfl (b_Set rfl (by omega) (hrr _ hS) fun v1 w2 h' => ?_)
 replace hS := hS.call0.2 _ _ h'
 clear h'
 refine ⟨rc_1 rfl rfl rfl rfl (hS.b 0 rfl) q1 rc_0, ?_⟩
 obtain ⟨a2, c2, rfl⟩ := hS.rlen 1 rfl
 refine gD ?_
 have hnd := iset_nodup o.pars
 (generalize h5 : cmv _ _ _ = q; cases q <;> simp only [cmv, arv, Bool.not_eq_true', Bool.not_eq_false', decide_eq_true_eq, decide_eq_false_iff_not] at h5 <;> first | (exfalso; omega) | skip)
 ·rw [em, decide_eq_false (fun h => h5 (by have := hnd.2 h.2.1; omega))] at h
  refine gD ?_
  refine d_en rfl rfl rc_0 ?_
  refine gD ?_
  refine d_fin ?_
  refine gW ?_
  exact g_ret (q_1 rfl (h _ (hS.sel [] rfl rfl)))
 have h6 := hnd.1 (by omega)
 refine gD ?_
 refine d_l1 rfl rfl rfl (hS.b 0 rfl) q3 ?_
 refine d_cl rfl rfl rfl (b_said ⟨rc_0, ?_⟩)
 refine gD ?_
 refine d_fin ?_
 have e : decide (o.msg.length ≤ 200) = mayB o := by
  rw [em]
  exact decide_eq_decide.2 ⟨fun h => ⟨h4, h6, h⟩, fun h => h.2.2⟩
 rw [e]
 refine gW ?_
 exact g_ret (q_1 rfl (h _ (hS.sel [] rfl rfl)))
theorem fl_at0 {l : List Value} {off n : Nat} {d : List En} (h : (l.drop off).take (n * 34) = fl enC d) (hn : d.length = n) {i : Nat} (hi : i < d.length) : (l.drop (off + i * 34)).take 34 = enC d[i] := rd_at enC_len h hn hi
def lastN (l : List En) (k : Nat) : Bs := if k = 0 then [] else ((l[k - 1]?).map (·.1)).getD []
set_option maxHeartbeats 1000000 in
theorem b_mayT {o : Obj} {vd ve vp : Value} (hk : o.kind = 2) (hR : OR o vd ve vp w) (hB : OB o) (h : ∀ w', St w (fun _ => False) w' [] → K (.bool (mayB o)) w') : CK Tryz.prog 232 [.agg ⟨oc o vd ve vp⟩] w K := by
 have hS := St.nil w (fun _ => False)
 have lo := oc_len o vd ve vp
 obtain ⟨_, ⟨E2, he⟩, _⟩ := hR
 have hrr : ∀ {L : List Res} (w' : World), St w (fun _ => False) w' L → Rd ve E2 34 o.ents.length (fl enC o.ents) w' := fun w' hS => he.same fun b hb => hS.fr.kept b (he.lt b hb) (fun h => h)
 have em : mayB o = @decide (o.ents.length ≤ 32 ∧ tokB o.ents) (Classical.propDecidable _) := by
  unfold mayB
  rw [if_neg (by omega), if_pos hk]
 have no : ¬ tokB o.ents → mayB o = false := fun h => by rw [em]; exact @decide_eq_false _ (Classical.propDecidable _) fun h1 => h h1.2
 have hn := hB.2.1
 have hN := hB.2.2.2.2
 obtain ⟨a, c, rfl⟩ := he.form
 refine call_k Tryz.func232 k232 Tryz.ntmps232 (Nat.le_of_ble_eq_true rfl) ?_
 refine gW ?_
 refine g_ef rfl (ef_bx hS rfl fun b1 w1 hS => ?_)
 replace hS : St w (fun _ => False) w1 [cel b1 (oc o vd (.slice a o.ents.length c) vp) 253] := hS
 refine gW ?_
 refine g_l1 (off := 2) rfl rfl (hS.b 0 rfl) (v := .slice a o.ents.length c) rfl ?_
 refine gW ?_
 refine g_lp (ι := Nat) (fun k => [(1, dp b1), (3, sv (lastN o.ents k)), (8, .slice a o.ents.length c), (9, .int .i64 o.ents.length), (10, .int .i64 k)]) (fun k w' => k ≤ o.ents.length ∧ tokB (o.ents.take k) ∧ St w (fun _ => False) w' [cel b1 (oc o vd (.slice a o.ents.length c) vp) 253]) (fun k => o.ents.length - k) 0
  ⟨rfl, rfl, rfl, rfl, rfl, trivial⟩ ⟨Nat.zero_le _, ⟨fun e he => absurd he List.not_mem_nil, List.Pairwise.nil⟩, hS⟩ ?_
 clear hS
 rintro k w1 ⟨hkl, hI, hS⟩
 refine gW ?_
 (refine g_cd rfl (fun hlt => ?_) (fun hlt => ?_) <;> simp only [cmv, arv, Bool.not_eq_true', Bool.not_eq_false', decide_eq_true_eq, decide_eq_false_iff_not] at hlt)
 ·have hlt : k < o.ents.length := by omega
  obtain ⟨b, off, cap, l, e1, hcap, hl, hx, hb⟩ := Rd.block (hrr _ hS) (by omega)
  cases e1
  have hbd : off + k * 34 + 34 ≤ l.length := by have : (k + 1) * 34 ≤ c * 34 := Nat.mul_le_mul_right 34 (by omega); omega
  have hnm : o.ents[k].1.length < 1000000 := hN _ (List.getElem_mem hlt)
  have hnx := tok_next hlt
  have hbad : ¬ tokB (o.ents.take (k + 1)) → mayB o = false := fun h => no fun h1 => h (tok_take h1 _)
  have hlast : (0 < k → Lib.compareBytes (o.ents[k - 1]'(by omega)).1 o.ents[k].1 < 0) ∧ 1 ≤ o.ents[k].1.length ↔ Lib.compareBytes (lastN o.ents k) o.ents[k].1 < 0 := by
   unfold lastN
   by_cases k0 : k = 0
   ·rw [if_pos k0, cb_nil]
    exact ⟨fun h => h.2, fun h => ⟨fun h0 => by omega, h⟩⟩
   ·rw [if_neg k0, List.getElem?_eq_getElem (show k - 1 < o.ents.length by omega)]
    show _ ↔ Lib.compareBytes (o.ents[k - 1]'(by omega)).1 o.ents[k].1 < 0
    refine ⟨fun h => h.1 (by omega), fun h => ⟨fun _ => h, ?_⟩⟩
    cases he : o.ents[k].1 with
    | nil => rw [he] at h; exact absurd h (cb_nil' _)
    | cons x y => simp
  generalize hX : o.ents[k] = X at *
  refine gW ?_
  refine g_rq rfl rfl ⟨by omega, by omega⟩ ?_
  refine g_lmr rfl rfl hb hbd ?_
  rw [Int.toNat_natCast, fl_at0 hx rfl hlt, hX]
  refine g_ef rfl (ef_al hS fun b5 w1 hS => ?_)
  have lz : (zx [(1, .string ⟨#[]⟩), (1, .int .i64 0), (32, .int .u8 0)]).length = 34 := by decide
  refine gW ?_
  refine g_ef0 rfl (ef_st hS 1 rfl rfl rfl (enC_len _) (by rw [lz]; decide) (List.all_eq_true.2 (enC_one _)) fun w1 hS => ?_)
  replace hS := hS.ceq (l' := enC X) 1 rfl (spl_full _ _ (by show (enC X).length = _; rw [enC_len, lz]))
  replace hS : St w (fun _ => False) w1 [cel b1 (oc o vd (.slice (some ⟨b, off, none⟩) o.ents.length c) vp) 253, cel b5 (enC X) 175] := hS
  refine gW ?_
  refine g_l1 rfl rfl (hS.b 1 rfl) (v := sv X.1) rfl ?_
  refine gW ?_
  have hsc : scv .leq (⟨X.1.toArray⟩ : ByteArray).data.toList (⟨(lastN o.ents k).toArray⟩ : ByteArray).data.toList = !decide (Lib.compareBytes (lastN o.ents k) X.1 < 0) := by
   rw [leq_ble]
   unfold ble
   rw [cb_neg (lastN o.ents k) X.1, ← decide_not]
   exact decide_eq_decide.2 ⟨fun h => by omega, fun h => by omega⟩
  have hz : (⟨X.1.toArray⟩ : ByteArray).size = X.1.length := by show X.1.toArray.size = _; simp
  have hfail : ∀ w', ¬ tokB (o.ents.take (k + 1)) → St w (fun _ => False) w' [] → K (.bool false) w' := fun w' hb hS => by
   have := h w' hS
   rwa [hbad hb] at this
  rw [hsc]
  by_cases h1 : Lib.compareBytes (lastN o.ents k) X.1 < 0
  rotate_left
  ·rw [decide_eq_false h1]
   refine gW ?_
   exact g_ret (q_1 rfl (hfail _ (fun hb => h1 (hlast.1 ⟨(hnx.1 hb).2.2, by have := (hnx.1 hb).2.1; unfold enB nmB at this; simp only [Bool.and_eq_true, decide_eq_true_eq] at this; exact this.1.1.1⟩)) (hS.sel [] rfl rfl)))
  obtain ⟨hadj, hne⟩ := hlast.2 h1
  rw [decide_eq_true h1]
  refine gW ?_
  refine g_l1 rfl rfl (hS.b 1 rfl) (v := sv X.1) rfl ?_
  refine gW ?_
  rw [hz]
  (generalize h2 : cmv _ _ _ = q; cases q <;> simp only [cmv, arv, Bool.not_eq_true', Bool.not_eq_false', decide_eq_true_eq, decide_eq_false_iff_not] at h2 <;> first | (exfalso; omega) | skip)
  rotate_left
  ·refine gW ?_
   exact g_ret (q_1 rfl (hfail _ (fun hb => by have := (hnx.1 hb).2.1; unfold enB nmB at this; simp only [Bool.and_eq_true, decide_eq_true_eq] at this; omega) (hS.sel [] rfl rfl)))
  refine gW ?_
  refine g_l1 rfl rfl (hS.b 1 rfl) (v := sv X.1) rfl ?_
  refine g_cl rfl rfl (b_ConA (s := X.1) (by omega) fun w2 h' => ?_)
  replace hS := hS.call0.2 _ _ h'
  rw [List.append_nil] at hS
  clear h'
  have henB : enB X = (decide (1 ≤ X.1.length) && decide (X.1.length ≤ 64) && !X.1.any bdc && decide (X.2.1 = 1 ∨ X.2.1 = 2)) := by unfold enB; rw [sl_nm]
  cases h3 : X.1.any bdc
  rotate_left
  ·rw [h3] at henB
   refine gW ?_
   exact g_ret (q_1 rfl (hfail _ (fun hb => by have := (hnx.1 hb).2.1; rw [henB] at this; simp at this) (hS.sel [] rfl rfl)))
  rw [h3, decide_eq_true hne, decide_eq_true (show X.1.length ≤ 64 by omega)] at henB
  refine gW ?_
  refine g_l1 (off := 1) rfl rfl (hS.b 1 rfl) (v := .int .i64 (X.2.1 : Int)) rfl ?_
  refine gW ?_
  have good : (X.2.1 = 1 ∨ X.2.1 = 2) → tokB (o.ents.take (k + 1)) := fun h => hnx.2 ⟨hI, by rw [henB, decide_eq_true h]; rfl, hadj⟩
  have next : ∀ w', (X.2.1 = 1 ∨ X.2.1 = 2) → St w (fun _ => False) w' [cel b1 (oc o vd (.slice (some ⟨b, off, none⟩) o.ents.length c) vp) 253, cel b5 (enC X) 175] → sv X.1 = sv (lastN o.ents (k + 1)) := fun w' _ _ => by
   unfold lastN
   rw [if_neg (by omega), Nat.add_sub_cancel, List.getElem?_eq_getElem hlt, hX]
   rfl
  (generalize h4 : cmv _ _ _ = q; cases q <;> simp only [cmv, arv, Bool.not_eq_true', Bool.not_eq_false', decide_eq_true_eq, decide_eq_false_iff_not] at h4 <;> first | (exfalso; omega) | skip)
  ·have hk2 : X.2.1 = 1 := by omega
   refine gW ?_
   refine g_l1 rfl rfl (hS.b 1 rfl) (v := sv X.1) rfl ?_
   refine gW ?_
   refine g_rq rfl rfl (in64 (by simp only [arv]; omega)) ?_
   refine gW ?_
   rw [next _ (.inl hk2) hS]
   exact g_l (k + 1) ⟨rfl, rfl, rfl, rfl, rfl, trivial⟩ ⟨hlt, good (.inl hk2), hS.sel [0] rfl rfl⟩ (by omega)
  ·refine gW ?_
   refine g_l1 (off := 1) rfl rfl (hS.b 1 rfl) (v := .int .i64 (X.2.1 : Int)) rfl ?_
   refine gW ?_
   (generalize h5 : cmv _ _ _ = q; cases q <;> simp only [cmv, arv, Bool.not_eq_true', Bool.not_eq_false', decide_eq_true_eq, decide_eq_false_iff_not] at h5 <;> first | (exfalso; omega) | skip)
   ·have hk2 : X.2.1 = 2 := by omega
    refine gW ?_
    refine g_l1 rfl rfl (hS.b 1 rfl) (v := sv X.1) rfl ?_
    refine gW ?_
    refine g_rq rfl rfl (in64 (by simp only [arv]; omega)) ?_
    refine gW ?_
    rw [next _ (.inr hk2) hS]
    exact g_l (k + 1) ⟨rfl, rfl, rfl, rfl, rfl, trivial⟩ ⟨hlt, good (.inr hk2), hS.sel [0] rfl rfl⟩ (by omega)
   ·refine gW ?_
    exact g_ret (q_1 rfl (hfail _ (fun hb => by have := (hnx.1 hb).2.1; rw [henB] at this; simp at this; omega) (hS.sel [] rfl rfl)))
 ·have ek : k = o.ents.length := by omega
  subst ek
  rw [List.take_length] at hI
  refine gW ?_
  refine g_l1 (off := 2) rfl rfl (hS.b 0 rfl) (v := .slice a o.ents.length c) rfl ?_
  refine gW ?_
  have e : cmv .leq (o.ents.length : Int) 32 = mayB o := by
   rw [em]
   by_cases hl : o.ents.length ≤ 32
   ·rw [show cmv .leq (o.ents.length : Int) 32 = true from decide_eq_true (by omega)]
    exact (@decide_eq_true _ (Classical.propDecidable _) ⟨hl, hI⟩).symm
   ·rw [show cmv .leq (o.ents.length : Int) 32 = false from decide_eq_false (by omega)]
    exact (@decide_eq_false _ (Classical.propDecidable _) (fun h => hl h.1)).symm
  rw [e]
  exact g_ret (q_1 rfl (h _ (hS.sel [] rfl rfl)))
end
theorem gotS_P {α : Type} {P : α → Prop} {z : α} {f : Bs → Option (α × Bs)} (hz : P z) (hf : ∀ b x r, f b = some (x, r) → P x) (s : Rst) : P (gotS z f s).1 := by
 obtain ⟨b, wr⟩ := s
 cases wr with
 | true => exact hz
 | false =>
  cases h : f b with
  | none => rw [gotS_n h]; exact hz
  | some p => obtain ⟨x, r⟩ := p; rw [gotS_s h]; exact hf b x r h
theorem byt_most {most : Nat} : ∀ b x r, bytS most b = some (x, r) → x.length ≤ most := fun b x r h => by
 unfold bytS at h
 split at h
 ·rename_i e
  cases h
  unfold bytE at e
  split at e
  ·rename_i h1; exact absurd e h1
  ·rename_i h1
   have h1 : numEM b most = 0 := Decidable.of_not_not h1
   have := numEM_le h1
   unfold bytB
   rw [List.length_take]
   omega
 ·cases h
theorem num_most {most : Nat} : ∀ b x r, numS most b = some (x, r) → x ≤ most := fun b x r h => by
 unfold numS at h
 split at h
 ·rename_i e
  cases h
  exact numEM_le e
 ·cases h
theorem sevS_len {α : Type} (f : Rst → α × Rst) : ∀ n s, (sevS f n s).1.length ≤ n
 | 0, s => Nat.le_refl _
 | n + 1, s => by
  unfold sevS
  split
  ·exact Nat.zero_le _
  ·rw [List.length_cons]
   exact Nat.succ_le_succ (sevS_len f n _)
theorem sevS_P {α : Type} {P : α → Prop} {f : Rst → α × Rst} (hf : ∀ s, P (f s).1) : ∀ n s, ∀ x ∈ (sevS f n s).1, P x
 | 0, s, x, hx => absurd hx List.not_mem_nil
 | n + 1, s, x, hx => by
  unfold sevS at hx
  split at hx
  ·exact absurd hx List.not_mem_nil
  ·rcases List.mem_cons.1 hx with rfl | hx
   ·exact hf s
   ·exact sevS_P hf n _ x hx
theorem prS_OB (b : Bs) : OB (prS b).1 := by
 have h1 : ∀ s, (gotS [] (bytS 1024) s).1.length ≤ 1024 := fun s => gotS_P (P := fun x : Bs => x.length ≤ 1024) (Nat.zero_le _) byt_most s
 have h2 : ∀ s, (txtS s).1.length ≤ 4000 := fun s => gotS_P (P := fun x : Bs => x.length ≤ 4000) (Nat.zero_le _) byt_most s
 have h3 : ∀ s, (gotS 0 (numS 32) s).1 ≤ 32 := fun s => gotS_P (P := fun x => x ≤ 32) (Nat.zero_le _) num_most s
 have h4 : ∀ s, (gotS 0 (numS 4) s).1 ≤ 4 := fun s => gotS_P (P := fun x => x ≤ 4) (Nat.zero_le _) num_most s
 unfold prS prSk
 generalize oneS (b, false) = g
 obtain ⟨k, s⟩ := g
 dsimp only
 have z : (0 : Nat) < 2000000 := by decide
 have y : ∀ e ∈ ([] : List En), e.1.length < 1000000 := fun e he => absurd he List.not_mem_nil
 split
 ·exact ⟨Nat.lt_of_le_of_lt (h1 s) (by decide), z, z, z, y⟩
 ·split
  ·exact ⟨z, Nat.lt_of_le_of_lt (Nat.le_trans (sevS_len _ _ _) (h3 s)) (by decide), z, z, sevS_P (P := fun e : En => e.1.length < 1000000) (fun s => Nat.lt_of_le_of_lt (h2 s) (by decide)) _ _⟩
  ·split
   ·exact ⟨z, z, Nat.lt_of_le_of_lt (Nat.le_trans (sevS_len _ _ _) (h4 _)) (by decide), Nat.lt_of_le_of_lt (h2 _) (by decide), y⟩
   ·split
    ·exact ⟨z, z, z, Nat.lt_of_le_of_lt (h2 _) (by decide), y⟩
    ·exact ⟨z, z, z, z, y⟩
abbrev nl : Value := .slice none 0 0
theorem fillG {T : TT} {ps : List (Nat × Nat × Operand)} {l A D C : List Value} {n m : Nat} {x : Operand} {v : Value} {u out : List Value} (hx : ev T x = some v) (hc : v.cells.toList = u) (hl : l = A ++ (D ++ C)) (hn : n = A.length) (hm : m = D.length) (hu : u.length = D.length) (h : fillP T ps (A ++ (u ++ C)) = some out) : fillP T ((n, m, x) :: ps) l = some out := by
 subst hl hn hm
 unfold fillP
 rw [hx]
 show (match Nat.beq v.cells.toList.length D.length, Nat.ble (A.length + v.cells.toList.length) (A ++ (D ++ C)).length with | true, true => fillP T ps (spl (A ++ (D ++ C)) A.length v.cells.toList) | _, _ => none) = _
 rw [hc, show Nat.beq u.length D.length = true by rw [hu]; exact Nat.beq_refl _, show Nat.ble (A.length + u.length) (A ++ (D ++ C)).length = true by rw [Nat.ble_eq]; simp; omega]
 show fillP T ps (spl (A ++ (D ++ C)) A.length u) = _
 have e : spl (A ++ (D ++ C)) A.length u = A ++ (u ++ C) := by
  unfold spl
  rw [List.take_left, ← List.drop_drop, List.drop_left, hu, List.drop_left, List.append_assoc]
 rw [e]
 exact h
def z32 : List Value := List.replicate 32 (.int .u8 0)
section
variable {w w0 : World} {S0 : Nat → Prop} {L B : List Res} {K : Value → World → Prop} {s : Bs} {E0 E1 : Nat}
set_option maxRecDepth 100000 in
theorem b_bareB {o : Obj} {vd ve vp : Value} (hR : OR o vd ve vp w) (h : ∀ w', St w (fun _ => False) w' [] → K (.agg ⟨oc { obZ with kind := o.kind, data := o.data } vd nl nl⟩) w') : CK Tryz.prog 226 [.agg ⟨oc o vd ve vp⟩] w K := by
 have hS := St.nil w (fun _ => False)
 obtain ⟨⟨E1, hd⟩, _, _⟩ := hR
 obtain ⟨a, c, rfl⟩ := hd.form
 refine call_k Tryz.func226 k226 Tryz.ntmps226 (Nat.le_of_ble_eq_true rfl) ?_
 refine gW ?_
 refine g_ef rfl (ef_bx hS rfl fun b1 w1 hS => ?_)
 refine gW ?_
 refine g_ef rfl (ef_al hS fun b2 w1 hS => ?_)
 refine gW ?_
 refine g_l1 rfl rfl (hS.b 0 rfl) (v := .int .i64 (o.kind : Int)) rfl ?_
 refine gW ?_
 refine g_l1 (off := 1) rfl rfl (hS.b 0 rfl) (v := .slice a o.data.length c) rfl ?_
 refine g_qt rfl (qt_bd (out := oc { obZ with kind := o.kind, data := o.data } (.slice a o.data.length c) nl nl) rfl w1) ?_
 refine g_ef0 rfl (ef_st hS 1 rfl rfl rfl rfl (Nat.le_of_ble_eq_true rfl) rfl fun w1 hS => ?_)
 refine gW ?_
 refine g_ret (q_c1 (n := 70) rfl (by kernel_rfl) (hS.b 1 rfl) (Nat.le_of_ble_eq_true rfl) ?_)
 exact h _ (hS.sel [] rfl rfl)
set_option maxRecDepth 100000 in
theorem b_bareT {o : Obj} {vd ve vp : Value} (hR : OR o vd ve vp w) (h : ∀ w', St w (fun _ => False) w' [] → K (.agg ⟨oc { obZ with kind := o.kind, ents := o.ents } nl ve nl⟩) w') : CK Tryz.prog 230 [.agg ⟨oc o vd ve vp⟩] w K := by
 have hS := St.nil w (fun _ => False)
 obtain ⟨_, ⟨E1, hd⟩, _⟩ := hR
 obtain ⟨a, c, rfl⟩ := hd.form
 refine call_k Tryz.func230 k230 Tryz.ntmps230 (Nat.le_of_ble_eq_true rfl) ?_
 refine gW ?_
 refine g_ef rfl (ef_bx hS rfl fun b1 w1 hS => ?_)
 refine gW ?_
 refine g_ef rfl (ef_al hS fun b2 w1 hS => ?_)
 refine gW ?_
 refine g_l1 rfl rfl (hS.b 0 rfl) (v := .int .i64 (o.kind : Int)) rfl ?_
 refine gW ?_
 refine g_l1 (off := 2) rfl rfl (hS.b 0 rfl) (v := .slice a o.ents.length c) rfl ?_
 refine g_qt rfl (qt_bd (out := oc { obZ with kind := o.kind, ents := o.ents } nl (.slice a o.ents.length c) nl) rfl w1) ?_
 refine g_ef0 rfl (ef_st hS 1 rfl rfl rfl rfl (Nat.le_of_ble_eq_true rfl) rfl fun w1 hS => ?_)
 refine gW ?_
 refine g_ret (q_c1 (n := 70) rfl (by kernel_rfl) (hS.b 1 rfl) (Nat.le_of_ble_eq_true rfl) ?_)
 exact h _ (hS.sel [] rfl rfl)
theorem oc_one {o : Obj} {vd ve vp : Value} (hd : vd.oneCell' = true) (he : ve.oneCell' = true) (hp : vp.oneCell' = true) : (oc o vd ve vp).all (·.oneCell') = true := by
 have h1 := List.all_eq_true.2 (ic_one o.tree)
 have h2 := List.all_eq_true.2 (ic_one o.tid)
 unfold oc
 simp only [List.all_cons, List.all_append, h1, h2, hd, he, hp, List.all_nil, Bool.and_true, Bool.true_and]
 rfl
theorem bareC_fill {T : TT} {a b c d : Operand} {o : Obj} {ad : Option Addr} {n cp : Nat} (ha : ev T a = some (.int .i64 (o.kind : Int))) (hb : ev T b = some (.agg ⟨ic o.tree⟩)) (hc : ev T c = some (.slice ad n cp)) (hd : ev T d = some (sv o.msg)) :
  fillP T [(0, 1, a), (3, 32, b), (35, 1, c), (69, 1, d)] (zx [(1, .int .i64 0), (2, .slice none 0 0), (32, .int .u8 0), (1, .slice none 0 0), (1, .int .i64 0), (32, .int .u8 0), (1, .string ⟨#[]⟩)]) = some (oc { obZ with kind := o.kind, tree := o.tree, pars := o.pars, msg := o.msg } nl nl (.slice ad n cp)) := by
 have l1 := ic_len o.tree
 refine fillG (A := []) (D := [.int .i64 0]) (C := nl :: nl :: (z32 ++ nl :: .int .i64 0 :: (z32 ++ [sv []]))) (u := [.int .i64 (o.kind : Int)]) ha rfl rfl rfl rfl rfl ?_
 refine fillG (A := [.int .i64 (o.kind : Int), nl, nl]) (D := z32) (C := nl :: .int .i64 0 :: (z32 ++ [sv []])) (u := ic o.tree) hb rfl rfl rfl rfl l1 ?_
 refine fillG (A := [.int .i64 (o.kind : Int), nl, nl] ++ ic o.tree) (D := [nl]) (C := .int .i64 0 :: (z32 ++ [sv []])) (u := [.slice ad n cp]) hc rfl (by simp) (by simp [l1]) rfl rfl ?_
 refine fillG (A := [.int .i64 (o.kind : Int), nl, nl] ++ ic o.tree ++ .slice ad n cp :: .int .i64 0 :: z32) (D := [sv []]) (C := []) (u := [sv o.msg]) hd rfl (by simp) (by simp [l1, z32]) rfl rfl ?_
 show some _ = some _
 congr 1
 have hz : ic idZ = z32 := rfl
 unfold oc obZ
 dsimp only
 rw [hz]
 simp
theorem bareG_fill {T : TT} {a b d : Operand} {o : Obj} (ha : ev T a = some (.int .i64 (o.kind : Int))) (hb : ev T b = some (.agg ⟨tgC o.tk o.tid⟩)) (hd : ev T d = some (sv o.msg)) :
  fillP T [(0, 1, a), (36, 33, b), (69, 1, d)] (zx [(1, .int .i64 0), (2, .slice none 0 0), (32, .int .u8 0), (1, .slice none 0 0), (1, .int .i64 0), (32, .int .u8 0), (1, .string ⟨#[]⟩)]) = some (oc { obZ with kind := o.kind, tk := o.tk, tid := o.tid, msg := o.msg } nl nl nl) := by
 have l1 : (tgC o.tk o.tid).length = 33 := by unfold tgC; rw [List.length_cons, ic_len]
 refine fillG (A := []) (D := [.int .i64 0]) (C := nl :: nl :: (z32 ++ nl :: .int .i64 0 :: (z32 ++ [sv []]))) (u := [.int .i64 (o.kind : Int)]) ha rfl rfl rfl rfl rfl ?_
 refine fillG (A := .int .i64 (o.kind : Int) :: nl :: nl :: (z32 ++ [nl])) (D := .int .i64 0 :: z32) (C := [sv []]) (u := tgC o.tk o.tid) hb rfl (by simp) (by simp [z32]) (by simp [z32]) (by simp [l1, z32]) ?_
 refine fillG (A := (.int .i64 (o.kind : Int) :: nl :: nl :: (z32 ++ [nl])) ++ tgC o.tk o.tid) (D := [sv []]) (C := []) (u := [sv o.msg]) hd rfl (by simp) (by simp [l1, z32]) rfl rfl ?_
 rfl
set_option maxRecDepth 100000 in
theorem b_bareC {o : Obj} {vd ve vp : Value} (hR : OR o vd ve vp w) (h : ∀ w', St w (fun _ => False) w' [] → K (.agg ⟨oc { obZ with kind := o.kind, tree := o.tree, pars := o.pars, msg := o.msg } nl nl vp⟩) w') : CK Tryz.prog 242 [.agg ⟨oc o vd ve vp⟩] w K := by
 have hS := St.nil w (fun _ => False)
 have lo := oc_len o vd ve vp
 obtain ⟨p1, p2, p3, p4, p5⟩ := oc_part o vd ve vp
 obtain ⟨q1, q2, q3⟩ := oc_at o vd ve vp
 obtain ⟨_, _, ⟨E1, hd⟩⟩ := hR
 obtain ⟨a, c, rfl⟩ := hd.form
 have lq := oc_len { obZ with kind := o.kind, tree := o.tree, pars := o.pars, msg := o.msg } nl nl (.slice a o.pars.length c)
 refine call_k Tryz.func242 k242 Tryz.ntmps242 (Nat.le_of_ble_eq_true rfl) ?_
 refine gW ?_
 refine g_ef rfl (ef_bx hS rfl fun b1 w1 hS => ?_)
 refine gW ?_
 refine g_ef rfl (ef_al hS fun b2 w1 hS => ?_)
 refine gW ?_
 refine g_l1 rfl rfl (hS.b 0 rfl) (v := .int .i64 (o.kind : Int)) rfl ?_
 refine gW ?_
 refine g_lm rfl rfl (hS.b 0 rfl) (by show _ ≤ (oc _ _ _ _).length; rw [lo]; decide) ?_
 rw [show ((Value.agg ⟨oc o vd ve (.slice a o.pars.length c)⟩).cells.toList.drop (0 + 0 + 3)).take 32 = ic o.tree from p2]
 refine gW ?_
 refine g_l1 rfl rfl (hS.b 0 rfl) (v := .slice a o.pars.length c) q1 ?_
 refine gW ?_
 refine g_l1 rfl rfl (hS.b 0 rfl) (v := sv o.msg) q3 ?_
 refine g_qt rfl (qt_bd (out := oc { obZ with kind := o.kind, tree := o.tree, pars := o.pars, msg := o.msg } nl nl (.slice a o.pars.length c)) (bareC_fill rfl rfl rfl rfl) w1) ?_
 refine g_ef0 rfl (ef_st hS 1 rfl rfl rfl lq (Nat.le_of_ble_eq_true rfl) (oc_one rfl rfl rfl) fun w1 hS => ?_)
 replace hS := hS.ceq (l' := oc { obZ with kind := o.kind, tree := o.tree, pars := o.pars, msg := o.msg } nl nl (.slice a o.pars.length c)) 1 rfl (spl_full _ _ lq)
 refine gW ?_
 refine g_ret (q_c1 (n := 70) rfl (by kernel_rfl) (hS.b 1 rfl) (Nat.le_of_eq (by rw [lq])) ?_)
 rw [List.drop_zero, List.take_of_length_le (Nat.le_of_eq lq)]
 exact h _ (hS.sel [] rfl rfl)
set_option maxRecDepth 100000 in
theorem b_bareG {o : Obj} {vd ve vp : Value} (h : ∀ w', St w (fun _ => False) w' [] → K (.agg ⟨oc { obZ with kind := o.kind, tk := o.tk, tid := o.tid, msg := o.msg } nl nl nl⟩) w') : CK Tryz.prog 247 [.agg ⟨oc o vd ve vp⟩] w K := by
 have hS := St.nil w (fun _ => False)
 have lo := oc_len o vd ve vp
 obtain ⟨p1, p2, p3, p4, p5⟩ := oc_part o vd ve vp
 obtain ⟨q1, q2, q3⟩ := oc_at o vd ve vp
 have lq := oc_len { obZ with kind := o.kind, tk := o.tk, tid := o.tid, msg := o.msg } nl nl nl
 refine call_k Tryz.func247 k247 Tryz.ntmps247 (Nat.le_of_ble_eq_true rfl) ?_
 refine gW ?_
 refine g_ef rfl (ef_bx hS rfl fun b1 w1 hS => ?_)
 refine gW ?_
 refine g_ef rfl (ef_al hS fun b2 w1 hS => ?_)
 refine gW ?_
 refine g_l1 rfl rfl (hS.b 0 rfl) (v := .int .i64 (o.kind : Int)) rfl ?_
 refine gW ?_
 refine g_lm rfl rfl (hS.b 0 rfl) (by show _ ≤ (oc _ _ _ _).length; rw [lo]; decide) ?_
 rw [show ((Value.agg ⟨oc o vd ve vp⟩).cells.toList.drop (0 + 0 + 36)).take 33 = tgC o.tk o.tid from p4]
 refine gW ?_
 refine g_l1 rfl rfl (hS.b 0 rfl) (v := sv o.msg) q3 ?_
 refine g_qt rfl (qt_bd (out := oc { obZ with kind := o.kind, tk := o.tk, tid := o.tid, msg := o.msg } nl nl nl) (bareG_fill rfl rfl rfl) w1) ?_
 refine g_ef0 rfl (ef_st hS 1 rfl rfl rfl lq (Nat.le_of_ble_eq_true rfl) (oc_one rfl rfl rfl) fun w1 hS => ?_)
 replace hS := hS.ceq (l' := oc { obZ with kind := o.kind, tk := o.tk, tid := o.tid, msg := o.msg } nl nl nl) 1 rfl (spl_full _ _ lq)
 refine gW ?_
 refine g_ret (q_c1 (n := 70) rfl (by kernel_rfl) (hS.b 1 rfl) (Nat.le_of_eq (by rw [lq])) ?_)
 rw [List.drop_zero, List.take_of_length_le (Nat.le_of_eq lq)]
 exact h _ (hS.sel [] rfl rfl)
def kty (k : Nat) : Nat := if k = 1 then 252 else if k = 2 then 253 else if k = 3 then 254 else 255
set_option maxRecDepth 100000 in
theorem b_of {o : Obj} {vd ve vp : Value} (h1 : (o.kind = 1 ∨ o.kind = 2 ∨ o.kind = 3 ∨ o.kind = 4) → ∀ w', St w (fun _ => False) w' [] → K (.tuple ⟨[.iface (kty o.kind) (.agg ⟨oc o vd ve vp⟩), .bool true]⟩) w')
  (h2 : ¬ (o.kind = 1 ∨ o.kind = 2 ∨ o.kind = 3 ∨ o.kind = 4) → ∀ w', St w (fun _ => False) w' [] → K (.tuple ⟨[.nilIface, .bool false]⟩) w') : CK Tryz.prog 150 [.agg ⟨oc o vd ve vp⟩] w K := by
 have hS := St.nil w (fun _ => False)
 have lo := oc_len o vd ve vp
 have fill : ∀ {T : TT} {x : Operand}, ev T x = some (.agg ⟨oc o vd ve vp⟩) → fillP T [(0, 70, x)] (zx [(1, .int .i64 0), (2, .slice none 0 0), (32, .int .u8 0), (1, .slice none 0 0), (1, .int .i64 0), (32, .int .u8 0), (1, .string ⟨#[]⟩)]) = some (oc o vd ve vp) := fun {T} {x} hx =>
  fillG (A := []) (D := oc obZ nl nl nl) (C := []) (u := oc o vd ve vp) hx rfl rfl rfl rfl lo (by show some _ = some _; congr 1; simp)
 refine call_k Tryz.func150 k150 Tryz.ntmps150 (Nat.le_of_ble_eq_true rfl) ?_
 refine gW ?_
 refine g_ef rfl (ef_bx hS rfl fun b1 w1 hS => ?_)
 refine gW ?_
 refine g_l1 rfl rfl (hS.b 0 rfl) (v := .int .i64 (o.kind : Int)) rfl ?_
 refine gW ?_
 have hld : ((Value.agg ⟨oc o vd ve vp⟩).cells.toList.drop 0).take 70 = oc o vd ve vp := by
  show ((oc o vd ve vp).drop 0).take 70 = _
  rw [List.drop_zero, List.take_of_length_le (Nat.le_of_eq lo)]
 have hll : 0 + 70 ≤ (Value.agg ⟨oc o vd ve vp⟩).cells.toList.length := by show _ ≤ (oc o vd ve vp).length; rw [lo]; decide
 (generalize k1 : cmv _ _ _ = q; cases q <;> simp only [cmv, arv, Bool.not_eq_true', Bool.not_eq_false', decide_eq_true_eq, decide_eq_false_iff_not] at k1 <;> first | (exfalso; omega) | skip)
 ·refine gW ?_
  (generalize k2 : cmv _ _ _ = q; cases q <;> simp only [cmv, arv, Bool.not_eq_true', Bool.not_eq_false', decide_eq_true_eq, decide_eq_false_iff_not] at k2 <;> first | (exfalso; omega) | skip)
  ·refine gW ?_
   (generalize k3 : cmv _ _ _ = q; cases q <;> simp only [cmv, arv, Bool.not_eq_true', Bool.not_eq_false', decide_eq_true_eq, decide_eq_false_iff_not] at k3 <;> first | (exfalso; omega) | skip)
   ·refine gW ?_
    (generalize k4 : cmv _ _ _ = q; cases q <;> simp only [cmv, arv, Bool.not_eq_true', Bool.not_eq_false', decide_eq_true_eq, decide_eq_false_iff_not] at k4 <;> first | (exfalso; omega) | skip)
    ·refine gW ?_
     exact g_ret (q_2 rfl rfl (h2 (by omega) _ (hS.sel [] rfl rfl)))
    ·refine gW ?_
     refine g_lm rfl rfl (hS.b 0 rfl) hll ?_
     rw [hld]
     refine g_qt rfl (qt_bd (out := oc o vd ve vp) (fill rfl) w1) ?_
     refine gW ?_
     have e : kty o.kind = 255 := by unfold kty; rw [if_neg (by omega), if_neg (by omega), if_neg (by omega)]
     rw [e] at h1
     exact g_ret (q_2 rfl rfl (h1 (by omega) _ (hS.sel [] rfl rfl)))
   ·refine gW ?_
    refine g_lm rfl rfl (hS.b 0 rfl) hll ?_
    rw [hld]
    refine g_qt rfl (qt_bd (out := oc o vd ve vp) (fill rfl) w1) ?_
    refine gW ?_
    have e : kty o.kind = 254 := by unfold kty; rw [if_neg (by omega), if_neg (by omega), if_pos (by omega)]
    rw [e] at h1
    exact g_ret (q_2 rfl rfl (h1 (by omega) _ (hS.sel [] rfl rfl)))
  ·refine gW ?_
   refine g_lm rfl rfl (hS.b 0 rfl) hll ?_
   rw [hld]
   refine g_qt rfl (qt_bd (out := oc o vd ve vp) (fill rfl) w1) ?_
   refine gW ?_
   have e : kty o.kind = 253 := by unfold kty; rw [if_neg (by omega), if_pos (by omega)]
   rw [e] at h1
   exact g_ret (q_2 rfl rfl (h1 (by omega) _ (hS.sel [] rfl rfl)))
 ·refine gW ?_
  refine g_lm rfl rfl (hS.b 0 rfl) hll ?_
  rw [hld]
  refine g_qt rfl (qt_bd (out := oc o vd ve vp) (fill rfl) w1) ?_
  refine gW ?_
  have e : kty o.kind = 252 := by unfold kty; rw [if_pos (by omega)]
  rw [e] at h1
  exact g_ret (q_2 rfl rfl (h1 (by omega) _ (hS.sel [] rfl rfl)))
def fmay (k : Nat) : Nat := if k = 1 then 228 else if k = 2 then 232 else if k = 3 then 244 else 249
def fbare (k : Nat) : Nat := if k = 1 then 226 else if k = 2 then 230 else if k = 3 then 242 else 247
theorem iv_may {k : Nat} (hk : k = 1 ∨ k = 2 ∨ k = 3 ∨ k = 4) (v : List Value) : (callMethod (.iface (kty k) (.agg ⟨v⟩)) "marshes/object.may" ⟨[]⟩).run Tryz.prog w = .ok (.enter (fmay k) ⟨[.agg ⟨v⟩]⟩) w := by
 rcases hk with rfl | rfl | rfl | rfl <;> kernel_rfl
theorem iv_bare {k : Nat} (hk : k = 1 ∨ k = 2 ∨ k = 3 ∨ k = 4) (v : List Value) : (callMethod (.iface (kty k) (.agg ⟨v⟩)) "marshes/object.bare" ⟨[]⟩).run Tryz.prog w = .ok (.enter (fbare k) ⟨[.agg ⟨v⟩]⟩) w := by
 rcases hk with rfl | rfl | rfl | rfl <;> kernel_rfl
theorem c_may {o : Obj} {vd ve vp : Value} (hk : o.kind = 1 ∨ o.kind = 2 ∨ o.kind = 3 ∨ o.kind = 4) (hR : OR o vd ve vp w) (hB : OB o) (h : ∀ w', St w (fun _ => False) w' [] → K (.bool (mayB o)) w') : CK Tryz.prog (fmay o.kind) [.agg ⟨oc o vd ve vp⟩] w K := by
 unfold fmay
 by_cases k1 : o.kind = 1
 ·rw [if_pos k1]; exact b_mayB k1 hR h
 by_cases k2 : o.kind = 2
 ·rw [if_neg k1, if_pos k2]; exact b_mayT k2 hR hB h
 by_cases k3 : o.kind = 3
 ·rw [if_neg k1, if_neg k2, if_pos k3]; exact b_mayC k3 hR h
 ·rw [if_neg k1, if_neg k2, if_neg k3]; exact b_mayG (by omega) h
theorem rd_nl (E sz : Nat) (w : World) : Rd nl E sz 0 [] w := .inl ⟨⟨none, rfl⟩, rfl, rfl⟩
theorem or_part {o : Obj} {vd ve vp : Value} (hR : OR o vd ve vp w) (k : Nat) (x : Id) (t : Nat) (y : Id) (m : Bs) : OR { obZ with kind := k, data := o.data } vd nl nl w ∧ OR { obZ with kind := k, ents := o.ents } nl ve nl w ∧ OR { obZ with kind := k, tree := x, pars := o.pars, msg := m } nl nl vp w ∧ OR { obZ with kind := k, tk := t, tid := y, msg := m } nl nl nl w :=
 ⟨⟨hR.1, ⟨0, rd_nl _ _ w⟩, ⟨0, rd_nl _ _ w⟩⟩, ⟨⟨0, rd_nl _ _ w⟩, hR.2.1, ⟨0, rd_nl _ _ w⟩⟩, ⟨⟨0, rd_nl _ _ w⟩, ⟨0, rd_nl _ _ w⟩, hR.2.2⟩, ⟨⟨0, rd_nl _ _ w⟩, ⟨0, rd_nl _ _ w⟩, ⟨0, rd_nl _ _ w⟩⟩⟩
theorem c_bare {o : Obj} {vd ve vp : Value} (hk : o.kind = 1 ∨ o.kind = 2 ∨ o.kind = 3 ∨ o.kind = 4) (hR : OR o vd ve vp w) (h : ∀ ud ue up w', OR (bareO o) ud ue up w → St w (fun _ => False) w' [] → K (.agg ⟨oc (bareO o) ud ue up⟩) w') : CK Tryz.prog (fbare o.kind) [.agg ⟨oc o vd ve vp⟩] w K := by
 obtain ⟨r1, r2, r3, r4⟩ := or_part hR o.kind o.tree o.tk o.tid o.msg
 unfold fbare
 by_cases k1 : o.kind = 1
 ·have e : bareO o = { obZ with kind := o.kind, data := o.data } := by unfold bareO; rw [if_pos k1, k1]
  rw [e] at h
  rw [if_pos k1]; exact b_bareB hR fun w' hS => h _ _ _ _ r1 hS
 by_cases k2 : o.kind = 2
 ·have e : bareO o = { obZ with kind := o.kind, ents := o.ents } := by unfold bareO; rw [if_neg k1, if_pos k2, k2]
  rw [e] at h
  rw [if_neg k1, if_pos k2]; exact b_bareT hR fun w' hS => h _ _ _ _ r2 hS
 by_cases k3 : o.kind = 3
 ·have e : bareO o = { obZ with kind := o.kind, tree := o.tree, pars := o.pars, msg := o.msg } := by unfold bareO; rw [if_neg k1, if_neg k2, if_pos k3, k3]
  rw [e] at h
  rw [if_neg k1, if_neg k2, if_pos k3]; exact b_bareC hR fun w' hS => h _ _ _ _ r3 hS
 ·have e : bareO o = { obZ with kind := o.kind, tk := o.tk, tid := o.tid, msg := o.msg } := by unfold bareO; rw [if_neg k1, if_neg k2, if_neg k3]
  rw [e] at h
  rw [if_neg k1, if_neg k2, if_neg k3]; exact b_bareG fun w' hS => h _ _ _ _ r4 hS
theorem ob_bare {o : Obj} (h : OB o) : OB (bareO o) := by
 obtain ⟨h1, h2, h3, h4, h5⟩ := h
 have z : (0 : Nat) < 2000000 := by decide
 have y : ∀ e ∈ ([] : List En), e.1.length < 1000000 := fun e he => absurd he List.not_mem_nil
 unfold bareO
 split
 ·exact ⟨h1, z, z, z, y⟩
 ·split
  ·exact ⟨z, h2, z, z, h5⟩
  ·split
   ·exact ⟨z, z, h3, h4, y⟩
   ·exact ⟨z, z, z, h4, y⟩
set_option maxHeartbeats 1000000 in
theorem b_CheckO {o : Obj} {vd ve vp : Value} (hR : OR o vd ve vp w) (hB : OB o) (h : ∀ w', St w (fun _ => False) w' [] → K (.int .i64 (if okO o then 0 else 70)) w') : CK Tryz.prog 100 [.agg ⟨oc o vd ve vp⟩] w K := by
 have hS := St.nil w (fun _ => False)
 have lo := oc_len o vd ve vp
 have no : ¬ okO o → ∀ w', St w (fun _ => False) w' [] → K (.int .i64 70) w' := fun hn w' hS => by have := h w' hS; rwa [if_neg hn] at this
 have hld : ((Value.agg ⟨oc o vd ve vp⟩).cells.toList.drop 0).take 70 = oc o vd ve vp := by
  show ((oc o vd ve vp).drop 0).take 70 = _
  rw [List.drop_zero, List.take_of_length_le (Nat.le_of_eq lo)]
 have hll : 0 + 70 ≤ (Value.agg ⟨oc o vd ve vp⟩).cells.toList.length := by show _ ≤ (oc o vd ve vp).length; rw [lo]; decide
 refine call_k Tryz.func100 k100 Tryz.ntmps100 (Nat.le_of_ble_eq_true rfl) ?_
 refine gW ?_
 refine g_ef rfl (ef_bx hS rfl fun b1 w1 hS => ?_)
 refine gW ?_
 refine g_lm rfl rfl (hS.b 0 rfl) hll ?_
 rw [hld]
 refine g_cl rfl rfl (b_of (fun hk w2 h' => ?_) (fun hk w2 h' => ?_))
 ·replace hS := hS.call0.2 _ _ h'
  rw [List.append_nil] at hS
  clear h'
  have hok := ok_bare o
  refine gW ?_
  refine g_dr mixed ?_
  replace hS := hS.drew
  refine gD ?_
  refine d_e rfl rfl ?_
  refine ef_iv rfl rfl (iv_may hk _) (c_may hk (hR.to hS) hB fun w3 h' => ⟨rc_0, ?_⟩)
  replace hS := hS.call0.2 _ _ h'
  rw [List.append_nil] at hS
  clear h'
  cases hm : mayB o
  ·rw [hm] at hok
   refine gD ?_
   refine d_en rfl rfl (rc_no rfl rfl rfl rc_0) ?_
   refine d_en rfl rfl rc_0 ?_
   refine gD ?_
   refine d_fin ?_
   refine gW ?_
   exact g_ret (q_1 rfl (no (fun h => by have := (hok.1 h).1; cases this) _ (hS.sel [] rfl rfl)))
  ·rw [hm] at hok
   refine gD ?_
   refine d_lm rfl rfl rfl (hS.b 0 rfl) hll ?_
   rw [hld]
   refine d_e rfl rfl ?_
   refine ef_iv rfl rfl (iv_bare hk _) (c_bare hk (hR.to hS) fun ud ue up w4 hR2 h' => ?_)
   have hR2 := hR2.to h'
   replace hS := hS.call0.2 _ _ h'
   rw [List.append_nil] at hS
   clear h'
   refine ⟨rc_m rfl rfl rfl rfl (hS.b 0 rfl) hll hld rc_0, ?_⟩
   refine d_cl rfl rfl rfl (b_SameO hR2 (hR.to hS) (ob_bare hB) hB fun w5 h' => ⟨rc_0, ?_⟩)
   replace hS := hS.call0.2 _ _ h'
   rw [List.append_nil] at hS
   clear h'
   refine gD ?_
   refine d_fin ?_
   by_cases hs : bareO o = o
   ·rw [decide_eq_true hs]
    have := h _ (hS.sel [] rfl rfl)
    rw [if_pos (hok.2 ⟨rfl, hs⟩)] at this
    refine gW ?_
    exact g_ret (q_1 rfl this)
   ·rw [decide_eq_false hs]
    refine gW ?_
    exact g_ret (q_1 rfl (no (fun h => hs (hok.1 h).2) _ (hS.sel [] rfl rfl)))
 ·replace hS := hS.call0.2 _ _ h'
  rw [List.append_nil] at hS
  clear h'
  have hn : ¬ okO o := fun h => hk (by rcases h with h | h | h | h <;> have := h.1 <;> omega)
  refine gW ?_
  refine g_dr mixed ?_
  replace hS := hS.drew
  refine gD ?_
  refine d_en rfl rfl rc_0 ?_
  refine gD ?_
  refine d_en rfl rfl (rc_no rfl rfl rfl rc_0) ?_
  refine d_en rfl rfl rc_0 ?_
  refine gD ?_
  refine d_fin ?_
  refine gW ?_
  exact g_ret (q_1 rfl (no hn _ (hS.sel [] rfl rfl)))
end
def rowO (o : Obj) (vd ve vp : Value) : List Res := [row vd 5 1 o.data.length (bys o.data), row ve 175 34 o.ents.length (fl enC o.ents), row vp 46 32 o.pars.length (fl ic o.pars)]
theorem spl_at {l A D C u : List Value} {n : Nat} (hl : l = A ++ (D ++ C)) (hn : n = A.length) (hu : u.length = D.length) : spl l n u = A ++ (u ++ C) := by
 subst hl hn
 unfold spl
 rw [List.take_left, ← List.drop_drop, List.drop_left, hu, List.drop_left, List.append_assoc]
theorem oc_s3 (o : Obj) (vd ve vp : Value) (x : Id) : spl (oc o vd ve vp) 3 (ic x) = oc { o with tree := x } vd ve vp := by
 refine (spl_at (l := oc o vd ve vp) (n := 3) (u := ic x) (A := [.int .i64 (o.kind : Int), vd, ve]) (D := ic o.tree) (C := vp :: .int .i64 (o.tk : Int) :: (ic o.tid ++ [sv o.msg])) rfl rfl ((ic_len _).trans (ic_len _).symm)).trans ?_
 rfl
theorem oc_s35 (o : Obj) (vd ve vp v : Value) : spl (oc o vd ve vp) 35 [v] = oc o vd ve v := by
 have := ic_len o.tree
 refine (spl_at (l := oc o vd ve vp) (n := 35) (u := [v]) (A := .int .i64 (o.kind : Int) :: vd :: ve :: ic o.tree) (D := [vp]) (C := .int .i64 (o.tk : Int) :: (ic o.tid ++ [sv o.msg])) rfl (by simp [this]) rfl).trans ?_
 rfl
theorem oc_s36 (o : Obj) (vd ve vp : Value) (k : Nat) : spl (oc o vd ve vp) 36 [.int .i64 (k : Int)] = oc { o with tk := k } vd ve vp := by
 have := ic_len o.tree
 refine (spl_at (l := oc o vd ve vp) (n := 36) (u := [.int .i64 (k : Int)]) (A := .int .i64 (o.kind : Int) :: vd :: ve :: (ic o.tree ++ [vp])) (D := [.int .i64 (o.tk : Int)]) (C := ic o.tid ++ [sv o.msg]) (by unfold oc; simp) (by simp [this]) rfl).trans ?_
 unfold oc; simp
theorem oc_s37 (o : Obj) (vd ve vp : Value) (x : Id) : spl (oc o vd ve vp) 37 (ic x) = oc { o with tid := x } vd ve vp := by
 have := ic_len o.tree
 refine (spl_at (l := oc o vd ve vp) (n := 37) (u := ic x) (A := .int .i64 (o.kind : Int) :: vd :: ve :: (ic o.tree ++ [vp, .int .i64 (o.tk : Int)])) (D := ic o.tid) (C := [sv o.msg]) (by unfold oc; simp) (by simp [this]) ((ic_len _).trans (ic_len _).symm)).trans ?_
 unfold oc; simp
theorem oc_s69 (o : Obj) (vd ve vp : Value) (m : Bs) : spl (oc o vd ve vp) 69 [sv m] = oc { o with msg := m } vd ve vp := by
 have h1 := ic_len o.tree
 have h2 := ic_len o.tid
 refine (spl_at (l := oc o vd ve vp) (n := 69) (u := [sv m]) (A := .int .i64 (o.kind : Int) :: vd :: ve :: (ic o.tree ++ vp :: .int .i64 (o.tk : Int) :: ic o.tid)) (D := [sv o.msg]) (C := []) (by unfold oc; simp) (by simp [h1, h2]) rfl).trans ?_
 unfold oc; simp
section
variable {w w0 : World} {S0 : Nat → Prop} {L B : List Res} {K : Value → World → Prop} {s : Bs} {E0 E1 : Nat}
set_option maxRecDepth 100000 in
set_option maxHeartbeats 8000000 in
theorem b_ParseO {all : Bs} {v : Value} {n : Nat} (hl : all.length = n) (hn : n < 1000000000) (hr : Rd v E0 1 n (bys all) w) (h : ∀ vd ve vp w', St w (fun _ => False) w' (rowO (obP all) vd ve vp) → K (.tuple ⟨[.agg ⟨oc (obP all) vd ve vp⟩, .int .i64 (if okP all then 0 else 70)]⟩) w') : CK Tryz.prog 53 [v] w K := by
 have hS := St.nil w (fun _ => False)
 refine call_k Tryz.func53 k53 Tryz.ntmps53 (Nat.le_of_ble_eq_true rfl) ?_
 refine gW ?_
 refine g_ef rfl (ef_al hS fun b2 w1 hS => ?_)
 replace hS : St w (fun _ => False) w1 [cel b2 (oc obZ nl nl nl) 79] := hS
 refine gW ?_
 refine g_cl rfl rfl (b_From hl (by omega) (hr.same fun b hb => hS.fr.kept b (hr.lt b hb) fun h => h) fun s0 v0 w2 hv0 h' => ?_)
 replace hS := hS.call0.2 _ _ h'
 clear h'
 refine gW ?_
 refine g_ef rfl (ef_bx hS rfl fun r w1 hS => ?_)
 refine gW ?_
 refine g_ef rfl (ef_al hS fun b4 w1 hS => ?_)
 refine gW ?_
 refine g_ef0 rfl (ef_st hS 4 rfl rfl rfl rfl (Nat.le_of_ble_eq_true rfl) rfl fun w1 hS => ?_)
 replace hS : St w (fun _ => False) w1 (RdrR r s0 v0 all v0 false ++ [cel b4 [dp r] 165, cel b2 (oc obZ nl nl nl) 79]) := hS.sel [3, 1, 2, 4, 0] rfl rfl
 refine gW ?_
 refine g_l1 rfl rfl (hS.b 3 rfl) (v := dp r) rfl ?_
 have hF := hS.frame
 refine g_cl rfl rfl (b_one (st := (all, false)) hv0 (by show all.length < _; omega) hF.1 fun v1 w1 hv1 h' => ?_)
 replace hS := hF.2 _ _ h'
 clear h' hF
 have hol := one_rl (all, false)
 have hPd : prS all = prSk (oneS (all, false)).1 (oneS (all, false)).2 := rfl
 generalize oneS (all, false) = ks1 at hPd hol hv1 hS ⊢
 obtain ⟨k, st⟩ := ks1
 dsimp only at hPd hol hv1 hS ⊢
 have hb : st.1.length < 1000000000 := by omega
 refine g_qt rfl (qt_bd (out := oc { obZ with kind := k } nl nl nl) rfl w1) ?_
 refine g_ef rfl (ef_al hS fun b5 w1 hS => ?_)
 refine gW ?_
 refine g_ef0 rfl (ef_st hS 5 rfl rfl rfl rfl (Nat.le_of_ble_eq_true rfl) rfl fun w1 hS => ?_)
 refine gW ?_
 refine g_ef rfl (ef_al hS fun b6 w1 hS => ?_)
 refine gW ?_
 refine g_ef0 rfl (ef_st hS 6 rfl rfl rfl rfl (Nat.le_of_ble_eq_true rfl) rfl fun w1 hS => ?_)
 replace hS : St w (fun _ => False) w1 ((RdrR r s0 v0 all v1 st.2 ++ PrsM r b4 b6) ++ [cel b2 (oc obZ nl nl nl) 79, cel b5 (oc { obZ with kind := k } nl nl nl) 79]) := hS.sel [0, 1, 2, 3, 6, 4, 5] rfl rfl
 refine g_r0 ?_
 refine g_sq ?_
 refine g_atx (ι := Value × Value × Value × Value) 1 (fun _ => [(2, dp b2), (4, dp b4), (5, dp b5)]) (fun x w' => SubV v0 all x.1 (prS all).2.1 ∧ St w (fun _ => False) w' (RdrR r s0 v0 all x.1 (prS all).2.2 ++ [cel b4 [dp r] 165, cel b2 (oc obZ nl nl nl) 79, cel b5 (oc (prS all).1 x.2.1 x.2.2.1 x.2.2.2) 79] ++ rowO (prS all).1 x.2.1 x.2.2.1 x.2.2.2)) rfl ?_ ?_
 ·rw [hPd]
  have hPk : ∀ k' st', prSk k' st' = if k' = 1 then prS1 st' else if k' = 2 then prS2 st' else if k' = 3 then prS3 st' else if k' = 4 then prS4 st' else ({ obZ with kind := k' }, st') := fun _ _ => rfl
  refine gW ?_
  refine g_l1 rfl rfl (hS.b 6 rfl) (v := .int .i64 (k : Int)) rfl ?_
  refine gW ?_
  (generalize k1 : cmv _ _ _ = q; cases q <;> simp only [cmv, arv, Bool.not_eq_true', Bool.not_eq_false', decide_eq_true_eq, decide_eq_false_iff_not] at k1 <;> first | (exfalso; omega) | skip)
  ·refine gW ?_
   (generalize k2 : cmv _ _ _ = q; cases q <;> simp only [cmv, arv, Bool.not_eq_true', Bool.not_eq_false', decide_eq_true_eq, decide_eq_false_iff_not] at k2 <;> first | (exfalso; omega) | skip)
   ·refine gW ?_
    (generalize k3 : cmv _ _ _ = q; cases q <;> simp only [cmv, arv, Bool.not_eq_true', Bool.not_eq_false', decide_eq_true_eq, decide_eq_false_iff_not] at k3 <;> first | (exfalso; omega) | skip)
    ·refine gW ?_
     (generalize k4 : cmv _ _ _ = q; cases q <;> simp only [cmv, arv, Bool.not_eq_true', Bool.not_eq_false', decide_eq_true_eq, decide_eq_false_iff_not] at k4 <;> first | (exfalso; omega) | skip)
     ·rw [hPk, if_neg (by omega), if_neg (by omega), if_neg (by omega), if_neg (by omega)]
      refine gW ?_
      refine g_jx (v1, nl, nl, nl) ⟨rfl, rfl, rfl, trivial⟩ ⟨hv1, ?_⟩
      exact (((hS.nilrow 5 1).nilrow 175 34).nilrow 46 32).sel [0, 1, 2, 3, 5, 6, 7, 8, 9] rfl rfl
     ·have ek : k = 4 := by omega
      subst ek
      have e : prSk 4 st = prS4 st := rfl
      rw [e]
      have hl1 := one_rl st
      have hl2 := idT_rl (oneS st).2
      refine gW ?_
      refine g_l1 rfl rfl (hS.b 3 rfl) (v := dp r) rfl ?_
      rw [List.append_assoc] at hS
      have hF := hS.frame
      refine g_cl rfl rfl (b_one hv1 hb hF.1 fun v2 w1 hv2 h' => ?_)
      replace hS := hF.2 _ _ h'
      clear h' hF
      refine gW ?_
      refine g_ef0 rfl (ef_st hS 6 rfl rfl rfl rfl (Nat.le_of_ble_eq_true rfl) rfl fun w1 hS => ?_)
      replace hS := hS.ceq (l' := oc { obZ with kind := 4, tk := (oneS st).1 } nl nl nl) 6 rfl (oc_s36 _ _ _ _ _)
      refine gW ?_
      refine g_l1 rfl rfl (hS.b 3 rfl) (v := dp r) rfl ?_
      replace hS : St w (fun _ => False) w1 (RdrR r s0 v0 all v2 (oneS st).2.2 ++ [cel b4 [dp r] 165, cel b6 [.func (.func 92) ⟨[]⟩ ⟨[dp b4]⟩] 172, cel b2 (oc obZ nl nl nl) 79, cel b5 (oc { obZ with kind := 4, tk := (oneS st).1 } nl nl nl) 79]) := hS
      have hF := hS.frame
      refine g_cl rfl rfl (b_id hv2 (by omega) hF.1 fun v3 w1 hv3 h' => ?_)
      replace hS := hF.2 _ _ h'
      clear h' hF
      refine gW ?_
      refine g_ef0 rfl (ef_st hS 6 rfl rfl rfl (ic_len (idT (oneS st).2).1) (by show _ ≤ (oc _ _ _ _).length; rw [oc_len]; decide) (List.all_eq_true.2 (ic_one (idT (oneS st).2).1)) fun w1 hS => ?_)
      replace hS := hS.ceq (l' := oc { obZ with kind := 4, tk := (oneS st).1, tid := (idT (oneS st).2).1 } nl nl nl) 6 rfl (oc_s37 _ _ _ _ (idT (oneS st).2).1)
      refine gW ?_
      refine g_l1 rfl rfl (hS.b 4 rfl) rfl ?_
      replace hS : St w (fun _ => False) w1 ((RdrR r s0 v0 all v3 (idT (oneS st).2).2.2 ++ [cel b4 [dp r] 165]) ++ [cel b6 [.func (.func 92) ⟨[]⟩ ⟨[dp b4]⟩] 172, cel b2 (oc obZ nl nl nl) 79, cel b5 (oc { obZ with kind := 4, tk := (oneS st).1, tid := (idT (oneS st).2).1 } nl nl nl) 79]) := hS
      have hF := hS.frame
      refine g_ef rfl (ef_cv (first := []) (cap := [dp b4]) rfl rfl (callFunc_of Tryz.func92 rfl rfl) (b_text (st := (idT (oneS st).2).2) hv3 (by omega) hF.1 fun v4 w1 hv4 h' => ?_))
      replace hS := hF.2 _ _ h'
      clear h' hF
      refine gW ?_
      refine g_ef0 rfl (ef_st hS 6 rfl rfl rfl rfl (by show _ ≤ (oc _ _ _ _).length; rw [oc_len]; decide) rfl fun w1 hS => ?_)
      replace hS := hS.ceq (l' := oc (prS4 st).1 nl nl nl) 6 rfl (oc_s69 _ _ _ _ _)
      refine gW ?_
      refine g_jx (v4, nl, nl, nl) ⟨rfl, rfl, rfl, trivial⟩ ⟨hv4, ?_⟩
      exact (((hS.nilrow 5 1).nilrow 175 34).nilrow 46 32).sel [0, 1, 2, 3, 5, 6, 7, 8, 9] rfl rfl
    ·have ek : k = 3 := by omega
     subst ek
     have e : prSk 3 st = prS3 st := rfl
     rw [e]
     have hl1 := idT_rl st
     refine gW ?_
     refine g_l1 rfl rfl (hS.b 3 rfl) (v := dp r) rfl ?_
     rw [List.append_assoc] at hS
     have hF := hS.frame
     refine g_cl rfl rfl (b_id hv1 hb hF.1 fun v2 w1 hv2 h' => ?_)
     replace hS := hF.2 _ _ h'
     clear h' hF
     refine gW ?_
     refine g_ef0 rfl (ef_st hS 6 rfl rfl rfl (ic_len (idT st).1) (by show _ ≤ (oc _ _ _ _).length; rw [oc_len]; decide) (List.all_eq_true.2 (ic_one (idT st).1)) fun w1 hS => ?_)
     replace hS := hS.ceq (l' := oc { obZ with kind := 3, tree := (idT st).1 } nl nl nl) 6 rfl (oc_s3 _ _ _ _ (idT st).1)
     refine gW ?_
     refine g_l1 rfl rfl (hS.b 3 rfl) (v := dp r) rfl ?_
     refine gW ?_
     refine g_l1 rfl rfl (hS.b 3 rfl) (v := dp r) rfl ?_
     refine gW ?_
     replace hS : St w (fun _ => False) w1 (RdrR r s0 v0 all v2 (idT st).2.2 ++ [cel b4 [dp r] 165, cel b6 [.func (.func 92) ⟨[]⟩ ⟨[dp b4]⟩] 172, cel b2 (oc obZ nl nl nl) 79, cel b5 (oc { obZ with kind := 3, tree := (idT st).1 } nl nl nl) 79]) := hS
     have hF := hS.frame
     replace hv2 : SubV v0 all v2 (idT st).2.1 := hv2
     have hP3 : prS3 st = prS3b (idT st).1 (idT st).2 := rfl
     generalize idT st = tt at hP3 hl1 hv2 hS hF ⊢
     obtain ⟨t0, st2⟩ := tt
     dsimp only at hP3 hl1 hv2 hS hF ⊢
     have hl2 := sev_rl (f := idT) idT_rl (gotS 0 (numS 4) st2).1 (gotS 0 (numS 4) st2).2
     have hl3 := gotS_len (z := 0) (num_len 4) st2
     have hb3 : st2.1.length < 1000000000 := by omega
     refine g_cl rfl rfl (b_sevI (enc := ic) (f := idT) (st := st2) (most := 4) (first := [dp r]) (cap := []) (M := []) ic_len ic_one idT_rl (by decide) (callFunc_of Tryz.func97 rfl rfl) (fun st v {w w0 S0 K} hv hb hS h => b_id hv hb hS h) hv2 hb3 hF.1 fun v3 u w1 hv3 h' => ?_)
     replace hS := hF.2 _ _ h'
     clear h' hF
     obtain ⟨a2, c2, rfl⟩ := hS.rlen 3 rfl
     refine gW ?_
     refine g_ef0 rfl (ef_st hS 7 rfl rfl rfl rfl (by show _ ≤ (oc _ _ _ _).length; rw [oc_len]; decide) rfl fun w1 hS => ?_)
     replace hS := hS.ceq (l' := oc { obZ with kind := 3, tree := t0 } nl nl (.slice a2 (prS3b t0 st2).1.pars.length c2)) 7 rfl (oc_s35 _ _ _ _ _)
     refine gW ?_
     refine g_l1 rfl rfl (hS.b 5 rfl) rfl ?_
     rw [hP3]
     have hb4 : (sevS idT (gotS 0 (numS 4) st2).1 (gotS 0 (numS 4) st2).2).2.1.length < 1000000000 := by omega
     replace hS : St w (fun _ => False) w1 ((RdrR r s0 v0 all v3 (sevS idT (gotS 0 (numS 4) st2).1 (gotS 0 (numS 4) st2).2).2.2 ++ [cel b4 [dp r] 165]) ++ [cel b6 [.func (.func 92) ⟨[]⟩ ⟨[dp b4]⟩] 172, cel b2 (oc obZ nl nl nl) 79, cel b5 (oc { obZ with kind := 3, tree := t0 } nl nl (.slice a2 (prS3b t0 st2).1.pars.length c2)) 79, row (.slice a2 (prS3b t0 st2).1.pars.length c2) 46 32 (prS3b t0 st2).1.pars.length (fl ic (prS3b t0 st2).1.pars)]) := hS.sel [0, 1, 2, 4, 5, 6, 7, 3] rfl rfl
     have hF := hS.frame
     refine g_ef rfl (ef_cv (first := []) (cap := [dp b4]) rfl rfl (callFunc_of Tryz.func92 rfl rfl) (b_text (st := (sevS idT (gotS 0 (numS 4) st2).1 (gotS 0 (numS 4) st2).2).2) hv3 hb4 hF.1 fun v4 w1 hv4 h' => ?_))
     replace hS := hF.2 _ _ h'
     clear h' hF
     refine gW ?_
     refine g_ef0 rfl (ef_st hS 6 rfl rfl rfl rfl (by show _ ≤ (oc _ _ _ _).length; rw [oc_len]; decide) rfl fun w1 hS => ?_)
     replace hS := hS.ceq (l' := oc (prS3b t0 st2).1 nl nl (.slice a2 (prS3b t0 st2).1.pars.length c2)) 6 rfl (oc_s69 { obZ with kind := 3, tree := t0, pars := (prS3b t0 st2).1.pars } _ _ _ _)
     refine gW ?_
     refine g_jx (v4, nl, nl, .slice a2 (prS3b t0 st2).1.pars.length c2) ⟨rfl, rfl, rfl, trivial⟩ ⟨hv4, ?_⟩
     exact ((hS.nilrow 5 1).nilrow 175 34).sel [0, 1, 2, 3, 5, 6, 8, 9, 7] rfl rfl
   ·have ek : k = 2 := by omega
    subst ek
    refine gW ?_
    refine g_l1 rfl rfl (hS.b 3 rfl) (v := dp r) rfl ?_
    refine gW ?_
    have hF := hS.frame
    refine g_cl rfl rfl (b_sevE (enc := enC) (f := entS) (most := 32) (first := []) (cap := [dp b6, dp b4]) (M := PrsM r b4 b6) enC_len enC_one ent_rl (by decide) (callFunc_of Tryz.func96 rfl rfl) (fun st v {w w0 S0 K} hv hb hS h => b_entry hv hb hS h) hv1 hb hF.1 fun v' u w1 hv' h' => ?_)
    replace hS := hF.2 _ _ h'
    clear h' hF
    obtain ⟨a2, c2, rfl⟩ := hS.rlen 5 rfl
    refine gW ?_
    refine g_ef0 rfl (ef_st hS 7 rfl rfl rfl rfl (Nat.le_of_ble_eq_true rfl) rfl fun w1 hS => ?_)
    refine gW ?_
    have e : prSk 2 st = prS2 st := rfl
    rw [e]
    refine g_jx (v', nl, .slice a2 (prS2 st).1.ents.length c2, nl) ⟨rfl, rfl, rfl, trivial⟩ ⟨hv', ?_⟩
    exact ((hS.nilrow 5 1).nilrow 46 32).sel [0, 1, 2, 3, 6, 7, 8, 5, 9] rfl rfl
  ·have ek : k = 1 := by omega
   subst ek
   refine gW ?_
   refine g_dr mixed ?_
   replace hS := hS.drew
   refine d_l1 rfl rfl rfl (hS.b 3 rfl) (v := dp r) rfl ?_
   refine d_l1 rfl rfl rfl (hS.b 3 rfl) (v := dp r) rfl ?_
   refine gD ?_
   refine d_l1 rfl rfl rfl (hS.b 0 rfl) (v := dp s0) rfl ?_
   refine gD ?_
   rw [List.append_assoc] at hS
   have hF := hS.frame
   refine d_cl rfl rfl rfl (b_getB (m := 1024) (callFunc_of Tryz.func94 rfl rfl) hv1 (fun hS h1 h2 => c_bytS (most := 1024) hv1 hb (by decide) hS h1 h2) hF.1 fun v' u w1 hv' h' => ⟨rc_0, ?_⟩)
   replace hS := hF.2 _ _ h'
   clear h' hF
   obtain ⟨a2, c2, rfl⟩ := hS.rlen 3 rfl
   refine gD ?_
   refine d_e0 rfl rfl ?_
   refine ef_st hS 7 rfl rfl rfl rfl (Nat.le_of_ble_eq_true rfl) rfl fun w1 hS => ⟨rc_0, ?_⟩
   refine d_fin ?_
   have e : prSk 1 st = prS1 st := rfl
   rw [e]
   refine gW ?_
   refine g_jx (v', .slice a2 (prS1 st).1.data.length c2, nl, nl) ⟨rfl, rfl, rfl, trivial⟩ ⟨hv', ?_⟩
   exact ((hS.nilrow 175 34).nilrow 46 32).sel [0, 1, 2, 4, 6, 7, 3, 8, 9] rfl rfl
 ·clear hS
  rintro ⟨v, vd, ve, vp⟩ T w1 hT ⟨hv, hS⟩
  dsimp only at hv hS
  refine g_wkc hT ?_
  have hOB := prS_OB all
  have hOR : ∀ {w' : World}, St w (fun _ => False) w' (RdrR r s0 v0 all v (prS all).2.2 ++ [cel b4 [dp r] 165, cel b2 (oc obZ nl nl nl) 79, cel b5 (oc (prS all).1 vd ve vp) 79] ++ rowO (prS all).1 vd ve vp) → OR (prS all).1 vd ve vp w' := fun hS => ⟨⟨_, Ow.rd (hS.ok 6 _ rfl)⟩, ⟨_, Ow.rd (hS.ok 7 _ rfl)⟩, ⟨_, Ow.rd (hS.ok 8 _ rfl)⟩⟩
  have bad : ∀ {w' : World} {L : List Res}, ¬ okP all → St w (fun _ => False) w' L → K (.tuple ⟨[.agg ⟨oc obZ nl nl nl⟩, .int .i64 70]⟩) w' := fun hno hS => by
   have := h nl nl nl _ ((((hS.sub (A := []) (List.nil_sublist _)).nilrow 5 1).nilrow 175 34).nilrow 46 32 |> fun hS => by
    unfold obP; rw [if_neg hno]; exact hS)
   unfold obP at this
   rw [if_neg hno, if_neg hno] at this
   exact this
  have lq := oc_len (prS all).1 vd ve vp
  generalize hQ : prS all = Q at *
  obtain ⟨o, rest, wr⟩ := Q
  dsimp only at hv hS hOB hOR lq
  refine gW ?_
  refine g_l1 rfl rfl (hS.b 3 rfl) (v := dp r) rfl ?_
  refine gW ?_
  refine g_l1 (off := 1) rfl rfl (hS.b 0 rfl) (v := .bool wr) rfl ?_
  have hokP : okP all ↔ wr = false ∧ rest = [] ∧ okO o := by
   unfold okP
   rw [hQ]
   constructor
   ·rintro ⟨h1, h2⟩; cases h1; exact ⟨rfl, rfl, h2⟩
   ·rintro ⟨rfl, rfl, h2⟩; exact ⟨rfl, h2⟩
  have hob : okP all → obP all = o := fun h => by unfold obP; rw [if_pos h, hQ]
  cases wr with
  | true =>
   refine gW ?_
   refine g_ef0 rfl (ef_st hS 4 rfl rfl rfl rfl (Nat.le_of_ble_eq_true rfl) rfl fun w1 hS => ?_)
   replace hS := hS.ceq (l' := oc obZ nl nl nl) 4 rfl (spl_full _ _ rfl)
   refine gW ?_
   refine g_ret (q_c2 (n := 70) rfl (by kernel_rfl) (hS.b 4 rfl) (Nat.le_of_ble_eq_true rfl) rfl ?_)
   exact bad (fun h => by have := (hokP.1 h).1; cases this) hS
  | false =>
   refine gW ?_
   refine g_l1 rfl rfl (hS.b 3 rfl) (v := dp r) rfl ?_
   refine gW ?_
   refine g_l1 rfl rfl (hS.b 0 rfl) (v := dp s0) rfl ?_
   refine g_cl rfl rfl (b_Left hv (hS.sel [1, 2] rfl rfl) ?_)
   refine gW ?_
   (generalize hlen : cmv _ _ _ = q; cases q <;> simp only [cmv, arv, Bool.not_eq_true', Bool.not_eq_false', decide_eq_true_eq, decide_eq_false_iff_not] at hlen <;> first | (exfalso; omega) | skip)
   ·have hrest : rest = [] := List.eq_nil_of_length_eq_zero (by omega)
    refine gW ?_
    refine g_lm rfl rfl (hS.b 5 rfl) (Nat.le_of_eq (by rw [lq])) ?_
    rw [List.drop_zero, List.take_of_length_le (Nat.le_of_eq lq)]
    refine g_cl rfl rfl (b_CheckO (hOR hS) hOB fun w2 h' => ?_)
    replace hS := hS.call0.2 _ _ h'
    rw [List.append_nil] at hS
    clear h'
    by_cases hok : okO o
    ·rw [if_pos hok]
     have hP := hokP.2 ⟨rfl, hrest, hok⟩
     refine gW ?_
     refine g_lm rfl rfl (hS.b 5 rfl) (Nat.le_of_eq (by rw [lq])) ?_
     rw [List.drop_zero, List.take_of_length_le (Nat.le_of_eq lq)]
     refine g_ef0 rfl (ef_st hS 4 rfl rfl rfl lq (Nat.le_of_ble_eq_true rfl) (by obtain ⟨x1, y1, e1⟩ := hS.rlen 6 rfl; obtain ⟨x2, y2, e2⟩ := hS.rlen 7 rfl; obtain ⟨x3, y3, e3⟩ := hS.rlen 8 rfl; subst e1 e2 e3; exact oc_one rfl rfl rfl) fun w1 hS => ?_)
     replace hS := hS.ceq (l' := oc o vd ve vp) 4 rfl (spl_full _ _ lq)
     refine gW ?_
     refine g_ret (q_c2 (n := 70) rfl (by kernel_rfl) (hS.b 4 rfl) (Nat.le_of_eq (by rw [lq])) rfl ?_)
     rw [List.drop_zero, List.take_of_length_le (Nat.le_of_eq lq)]
     have := h vd ve vp w1 (by rw [hob hP]; exact hS.sel [6, 7, 8] rfl rfl)
     rw [hob hP, if_pos hP] at this
     exact this
    ·rw [if_neg hok]
     refine gW ?_
     refine g_ef0 rfl (ef_st hS 4 rfl rfl rfl rfl (Nat.le_of_ble_eq_true rfl) rfl fun w1 hS => ?_)
     replace hS := hS.ceq (l' := oc obZ nl nl nl) 4 rfl (spl_full _ _ rfl)
     refine gW ?_
     refine g_ret (q_c2 (n := 70) rfl (by kernel_rfl) (hS.b 4 rfl) (Nat.le_of_ble_eq_true rfl) rfl ?_)
     exact bad (fun h => hok (hokP.1 h).2.2) hS
   ·refine gW ?_
    refine g_ef0 rfl (ef_st hS 4 rfl rfl rfl rfl (Nat.le_of_ble_eq_true rfl) rfl fun w1 hS => ?_)
    replace hS := hS.ceq (l' := oc obZ nl nl nl) 4 rfl (spl_full _ _ rfl)
    refine gW ?_
    refine g_ret (q_c2 (n := 70) rfl (by kernel_rfl) (hS.b 4 rfl) (Nat.le_of_ble_eq_true rfl) rfl ?_)
    exact bad (fun h => by have := (hokP.1 h).2.1; subst this; simp at hlen) hS
set_option maxRecDepth 100000 in
theorem b_KindO {all : Bs} {v : Value} {n : Nat} (hl : all.length = n) (hn : n < 1000000000) (hr : Rd v E0 1 n (bys all) w) (h : ∀ w', St w (fun _ => False) w' [] → K (.int .i64 ((obP all).kind : Int)) w') : CK Tryz.prog 28 [v] w K := by
 refine call_k Tryz.func28 k28 Tryz.ntmps28 (Nat.le_of_ble_eq_true rfl) ?_
 refine gW ?_
 refine g_cl rfl rfl (b_ParseO hl hn hr fun vd ve vp w1 hS => ?_)
 have lq := oc_len (obP all) vd ve vp
 have h1 : (oc (obP all) vd ve vp).all (·.oneCell') = true := by
  obtain ⟨x1, y1, e1⟩ := hS.rlen 0 rfl; obtain ⟨x2, y2, e2⟩ := hS.rlen 1 rfl; obtain ⟨x3, y3, e3⟩ := hS.rlen 2 rfl; subst e1 e2 e3; exact oc_one rfl rfl rfl
 refine gW ?_
 refine g_ef rfl (ef_al hS fun b3 w1 hS => ?_)
 refine gW ?_
 refine g_ef0 rfl (ef_st hS 3 rfl rfl rfl lq (Nat.le_of_ble_eq_true rfl) h1 fun w1 hS => ?_)
 replace hS := hS.ceq (l' := oc (obP all) vd ve vp) 3 rfl (spl_full _ _ lq)
 refine gW ?_
 refine g_l1 rfl rfl (hS.b 3 rfl) (v := .int .i64 ((obP all).kind : Int)) rfl ?_
 refine gW ?_
 exact g_ret (q_1 rfl (h _ (hS.sel [] rfl rfl)))
end
end Go.Proofs.YtocofjmknnckhaaGreatDoor
