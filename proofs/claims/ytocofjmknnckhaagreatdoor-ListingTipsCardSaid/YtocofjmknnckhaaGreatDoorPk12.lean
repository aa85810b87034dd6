/- Qf3 Qh2 Qh4 Qh5 Qh6 Qh3 Qh7 -/
import Derived.Test.YtocofjmknnckhaaGreatDoorPk11
set_option linter.unusedSimpArgs false
set_option linter.unusedVariables false
namespace Go.Proofs.YtocofjmknnckhaaGreatDoor
open Go.En
abbrev On := (Id × Bs) × Value
def onC (z : On) : List Value := ic z.1.1 ++ [z.2]
theorem onC_len (z : On) : (onC z).length = 33 := by unfold onC; rw [List.length_append, ic_len]; rfl
theorem onC_id (z : On) : (onC z).take 32 = ic z.1.1 := by unfold onC; rw [List.take_left' (ic_len _)]
theorem onC_v (z : On) : (onC z)[32]? = some z.2 := by unfold onC; rw [List.getElem?_append_right (by rw [ic_len]; exact Nat.le_refl _), ic_len]; rfl
def onR (z : On) : Res := row z.2 5 1 z.1.2.length (bys z.1.2)
def XR (bS : Nat) (vl : Value) (q : Int) (Z : List On) : List Res := [cel bS [.int .i64 q, vl] 68, row vl 88 33 Z.length (fl onC Z), ows onR Z]
def ZS (Z : List On) : Sto := Z.map (·.1)
theorem fill_on {T : TT} {a b : Operand} {x : Id} {v : Value} (hv : v.oneCell' = true) (hc : v.cells.toList = [v]) (ha : ev T a = some (.agg ⟨ic x⟩)) (hb : ev T b = some v) : fillP T [(0, 32, a), (32, 1, b)] (zx [(32, .int .u8 0), (1, .slice none 0 0)]) = some (ic x ++ [v]) := by
 refine fillG (A := []) (D := z32) (C := [nl]) (u := ic x) ha rfl rfl rfl rfl (ic_len x) ?_
 refine fillG (A := ic x) (D := [nl]) (C := []) (u := [v]) hb hc rfl (ic_len x).symm rfl rfl ?_
 rfl
section
variable {w w0 : World} {S0 : Nat → Prop} {L B : List Res} {K : Value → World → Prop} {s : Bs} {E0 E1 : Nat} {bS : Nat} {q : Int} {vl : Value} {Z : List On} {x : Id}
theorem xr_rd (hS : St w0 S0 w (XR bS vl q Z ++ L)) : Rd vl 88 33 Z.length (fl onC Z) w := Ow.rd (hS.ok 1 _ rfl)
theorem xr_raw (hS : St w0 S0 w (XR bS vl q Z ++ L)) {z : On} (hz : z ∈ Z) : Rd z.2 5 1 z.1.2.length (bys z.1.2) w := Ow.rd (ows_mem (hS.ok 2 (ows onR Z) rfl) hz)
set_option maxHeartbeats 2000000 in
theorem r_GetS (hn : Z.length < 1000000) (hS : St w0 S0 w (XR bS vl q Z)) (h1 : getS (ZS Z) x = none → ∀ w', St w0 S0 w' (XR bS vl q Z) → K (.tuple ⟨[nl, .bool false]⟩) w')
  (h2 : ∀ z ∈ Z, z.1.1 = x → getS (ZS Z) x = some z.1.2 → ∀ w', St w0 S0 w' (XR bS vl q Z) → K (.tuple ⟨[z.2, .bool true]⟩) w') : CK Tryz.prog 32 [dp bS, .agg ⟨ic x⟩] w K := by
 have lx := ic_len x
 obtain ⟨a, c, rfl⟩ := (xr_rd (L := []) hS).form
 refine call_k Tryz.func32 k32 Tryz.ntmps32 (Nat.le_of_ble_eq_true rfl) ?_
 refine gW ?_
 refine g_ef rfl (ef_bx hS rfl fun b3 w1 hS => ?_)
 replace hS : St w0 S0 w1 (XR bS (.slice a Z.length c) q Z ++ [cel b3 (ic x) 46]) := hS
 refine gW ?_
 refine g_lp (ι := Nat) (fun k => [(0, dp bS), (3, dp b3), (6, .int .i64 k)]) (fun k w' => k ≤ Z.length ∧ getS (ZS (Z.take k)) x = none ∧ St w0 S0 w' (XR bS (.slice a Z.length c) q Z ++ [cel b3 (ic x) 46])) (fun k => Z.length - k) 0 ⟨rfl, rfl, rfl, trivial⟩ ⟨Nat.zero_le _, rfl, hS⟩ ?_
 clear hS
 rintro k w1 ⟨hk, hI, hS⟩
 refine gW ?_
 refine g_l1 (off := 1) rfl rfl (hS.b 0 rfl) (v := .slice a Z.length c) rfl ?_
 refine gW ?_
 (generalize hlt : cmv _ _ _ = q; cases q <;> simp only [cmv, arv, Bool.not_eq_true', Bool.not_eq_false', decide_eq_true_eq, decide_eq_false_iff_not] at hlt <;> first | (exfalso; omega) | skip)
 ·have ek : k = Z.length := by omega
  rw [ek, List.take_length] at hI
  refine gW ?_
  exact g_ret (q_2 rfl rfl (h1 hI _ (hS.sel [0, 1, 2] rfl rfl)))
 ·have hlt : k < Z.length := by omega
  have hstep : ∀ {w' : World} {L : List Res}, St w0 S0 w' (XR bS (.slice a Z.length c) q Z ++ L) → ∃ b off l, a = some ⟨b, off, none⟩ ∧ Z.length ≤ c ∧ off + c * 33 ≤ l.length ∧ (l.drop off).take (Z.length * 33) = fl onC Z ∧ Blr w' b l 88 := fun hS => by
   obtain ⟨b, off, cap, l, e1, hcap, hl, hx, hb⟩ := Rd.block (xr_rd hS) (by omega)
   cases e1
   exact ⟨b, off, l, rfl, hcap, hl, hx, hb⟩
  obtain ⟨b, off, l, rfl, hcap, hl, hx, hb⟩ := hstep hS.drew
  have hbd : off + k * 33 + 0 + 32 ≤ l.length := by have : (k + 1) * 33 ≤ c * 33 := Nat.mul_le_mul_right 33 (by omega); omega
  have hid : (l.drop (off + k * 33 + 0)).take 32 = ic Z[k].1.1 := by
   have := rd_at onC_len hx rfl hlt
   rw [Nat.add_zero, ← onC_id, ← this, List.take_take]
   rfl
  have happ : ∀ k (hk : k < Z.length), ZS (Z.take (k + 1)) = ZS (Z.take k) ++ [(Z[k].1.1, Z[k].1.2)] := fun k hk => by
   unfold ZS
   rw [List.take_succ_eq_append_getElem hk, List.map_append]
   rfl
  refine gW ?_
  refine g_dr mixed ?_
  replace hS := hS.drew
  refine gD ?_
  refine d_l1 (off := 1) rfl rfl rfl (hS.b 0 rfl) (v := .slice (some ⟨b, off, none⟩) Z.length c) rfl ?_
  refine gD ?_
  refine d_rq rfl rfl rfl ⟨by omega, by omega⟩ ?_
  refine gD ?_
  refine d_qt rfl rfl rfl (qt_ldmr rfl hb (by rw [Int.toNat_natCast]; exact hbd)) ?_
  rw [Int.toNat_natCast, hid]
  refine d_lm rfl rfl rfl (hS.b 3 rfl) (Nat.le_of_eq lx.symm) ?_
  rw [List.drop_zero, List.take_of_length_le (Nat.le_of_eq lx)]
  refine d_qt rfl rfl rfl (qt_aq (a := Z[k].1.1.1) (b := x.1) rfl rfl Z[k].1.1.2 x.2) ?_
  refine d_fin ?_
  rw [show aqv .eql Z[k].1.1.1 x.1 = decide (Z[k].1.1 = x) from decide_eq_decide.2 ⟨fun h => Subtype.ext h, fun h => by rw [h]⟩]
  by_cases he : Z[k].1.1 = x
  ·rw [decide_eq_true he]
   have hz := List.getElem_mem hlt
   have hget : getS (ZS Z) x = some Z[k].1.2 := by
    have e1 : ZS Z = ZS (Z.take (k + 1)) ++ ZS (Z.drop (k + 1)) := by
     unfold ZS
     rw [← List.map_append, List.take_append_drop]
    have key : ∀ (l m : Sto) (y : Bs), getS l x = some y → getS (l ++ m) x = some y := by
     intro l m y
     induction l with
     | nil => intro h; cases h
     | cons p l ih =>
      obtain ⟨i, b⟩ := p
      intro h
      rw [List.cons_append, getS]
      rw [getS] at h
      split
      ·rename_i e; rw [if_pos e] at h; exact h
      ·rename_i e; rw [if_neg e] at h; exact ih h
    rw [e1]
    refine key _ _ _ ?_
    rw [happ k hlt, getS_app, hI]
    exact if_pos he
   refine gW ?_
   refine g_l1 (off := 1) rfl rfl (hS.b 0 rfl) (v := .slice (some ⟨b, off, none⟩) Z.length c) rfl ?_
   refine gW ?_
   refine g_rq rfl rfl ⟨by omega, by omega⟩ ?_
   refine gW ?_
   refine g_l1r rfl rfl hb (by rw [Int.toNat_natCast, rd_cel onC_len hx rfl hlt (show 32 < 33 by decide)]; exact onC_v _) ?_
   refine gW ?_
   exact g_ret (q_2 rfl rfl (h2 _ hz he hget _ (hS.sel [0, 1, 2] rfl rfl)))
  ·rw [decide_eq_false he]
   refine gW ?_
   refine g_rq rfl rfl (in64 (by simp only [arv]; omega)) ?_
   refine gW ?_
   refine g_l (k + 1) ⟨rfl, rfl, rfl, trivial⟩ ⟨hlt, ?_, hS⟩ (by omega)
   rw [happ k hlt, getS_app, hI]
   exact if_neg he
theorem r_SizeS (hn : Z.length < 1000000) (hz : sizeS (ZS Z) < 100000000000) (hS : St w0 S0 w (XR bS vl q Z)) (h : ∀ w', St w0 S0 w' (XR bS vl q Z) → K (.int .i64 (sizeS (ZS Z) : Int)) w') : CK Tryz.prog 33 [dp bS] w K := by
 obtain ⟨a, c, rfl⟩ := (xr_rd (L := []) hS).form
 refine call_k Tryz.func33 k33 Tryz.ntmps33 (Nat.le_of_ble_eq_true rfl) ?_
 refine gW ?_
 refine g_lp (ι := Nat) (fun k => [(0, dp bS), (3, .int .i64 (sizeS (ZS (Z.take k)) : Int)), (4, .int .i64 k)]) (fun k w' => k ≤ Z.length ∧ St w0 S0 w' (XR bS (.slice a Z.length c) q Z)) (fun k => Z.length - k) 0 ⟨rfl, rfl, rfl, trivial⟩ ⟨Nat.zero_le _, hS⟩ ?_
 clear hS
 rintro k w1 ⟨hk, hS⟩
 refine gW ?_
 refine g_l1 (off := 1) rfl rfl (hS.b 0 rfl) (v := .slice a Z.length c) rfl ?_
 refine gW ?_
 (generalize hlt : cmv _ _ _ = q; cases q <;> simp only [cmv, arv, Bool.not_eq_true', Bool.not_eq_false', decide_eq_true_eq, decide_eq_false_iff_not] at hlt <;> first | (exfalso; omega) | skip)
 ·have ek : k = Z.length := by omega
  subst ek
  rw [List.take_length]
  refine gW ?_
  exact g_ret (q_1 rfl (h _ hS))
 ·have hlt : k < Z.length := by omega
  have happ : sizeS (ZS (Z.take (k + 1))) = sizeS (ZS (Z.take k)) + Z[k].1.2.length := by
   unfold sizeS ZS
   rw [List.take_succ_eq_append_getElem hlt, List.map_append, List.map_append, List.sum_append]
   simp
  have hle : sizeS (ZS (Z.take (k + 1))) ≤ sizeS (ZS Z) := by
   unfold sizeS ZS
   conv => rhs; rw [← List.take_append_drop (k + 1) Z, List.map_append, List.map_append, List.sum_append]
   omega
  obtain ⟨b, off, cap, l, e1, hcap, hl, hx, hb⟩ := Rd.block (xr_rd (L := []) hS) (by omega)
  cases e1
  obtain ⟨a2, c2, e2⟩ := (xr_raw (L := []) hS (List.getElem_mem hlt)).form
  refine gW ?_
  refine g_l1 (off := 1) rfl rfl (hS.b 0 rfl) (v := .slice (some ⟨b, off, none⟩) Z.length c) rfl ?_
  refine gW ?_
  refine g_rq rfl rfl ⟨by omega, by omega⟩ ?_
  refine gW ?_
  refine g_l1r (v := .slice a2 Z[k].1.2.length c2) rfl rfl hb (by rw [Int.toNat_natCast, rd_cel onC_len hx rfl hlt (show 32 < 33 by decide), onC_v, e2]) ?_
  refine gW ?_
  refine g_rq rfl rfl (in64 (by simp only [arv]; omega)) ?_
  refine gW ?_
  refine g_rq rfl rfl (in64 (by simp only [arv]; omega)) ?_
  refine gW ?_
  rw [show arv .add (sizeS (ZS (Z.take k)) : Int) (Z[k].1.2.length : Int) = (sizeS (ZS (Z.take (k + 1))) : Int) by simp only [arv]; omega]
  exact g_l (k + 1) ⟨rfl, rfl, rfl, trivial⟩ ⟨hlt, hS⟩ (by omega)
theorem r_NewS {q : Nat} (hq : q ≤ 1073741824) (h : ∀ bS w', St w (fun _ => False) w' (XR bS nl q []) → K (.tuple ⟨[dp bS, .int .i64 0]⟩) w') : CK Tryz.prog 13 [.int .i64 (q : Int)] w K := by
 have hS := St.nil w (fun _ => False)
 refine call_k Tryz.func13 k13 Tryz.ntmps13 (Nat.le_of_ble_eq_true rfl) ?_
 refine gW ?_
 rw [show cmv BinOp.gtr (q : Int) 1073741824 = false by simp only [cmv]; exact decide_eq_false (by omega)]
 refine gW ?_
 refine g_ef rfl (ef_bx hS rfl fun bS w1 hS => ?_)
 refine gW ?_
 exact g_ret (q_2 rfl rfl (h _ _ ((hS.nilrow 88 33).emp.sel [0, 1, 2] rfl rfl)))
set_option maxRecDepth 100000 in
theorem r_ObjectS (hG : SG (ZS Z)) (hS : St w0 S0 w (XR bS vl q Z)) (h1 : getS (ZS Z) x = none → ∀ w', St w0 S0 w' (XR bS vl q Z) → K (.tuple ⟨[.agg ⟨oc obZ nl nl nl⟩, .bool false]⟩) w')
  (h2 : ∀ b, getS (ZS Z) x = some b → ∀ vd ve vp w', St w0 S0 w' (XR bS vl q Z ++ rowO (obP b) vd ve vp) → K (.tuple ⟨[.agg ⟨oc (obP b) vd ve vp⟩, .bool true]⟩) w') : CK Tryz.prog 172 [dp bS, .agg ⟨ic x⟩] w K := by
 have lx := ic_len x
 have hn : Z.length < 1000000 := by have := hG.n; unfold ZS at this; rwa [List.length_map] at this
 refine call_k Tryz.func172 k172 Tryz.ntmps172 (Nat.le_of_ble_eq_true rfl) ?_
 refine gW ?_
 refine g_ef rfl (ef_bx hS rfl fun b3 w1 hS => ?_)
 refine gW ?_
 refine g_ef rfl (ef_al hS fun b4 w1 hS => ?_)
 replace hS : St w0 S0 w1 (XR bS vl q Z ++ [cel b3 (ic x) 46, cel b4 (oc obZ nl nl nl) 79]) := hS
 refine gW ?_
 refine g_lm rfl rfl (hS.b 3 rfl) (Nat.le_of_eq lx.symm) ?_
 rw [List.drop_zero, List.take_of_length_le (Nat.le_of_eq lx)]
 have hF := hS.frame
 refine g_cl rfl rfl (r_GetS hn hF.1 (fun hg w2 h' => ?_) (fun z hz he hg w2 h' => ?_))
 ·replace hS := hF.2 _ _ h'
  clear h' hF
  refine gW ?_
  refine g_ef0 rfl (ef_st hS 4 rfl rfl rfl rfl (Nat.le_of_ble_eq_true rfl) rfl fun w1 hS => ?_)
  replace hS := hS.ceq (l' := oc obZ nl nl nl) 4 rfl (spl_full _ _ rfl)
  refine gW ?_
  refine g_ret (q_c2 (n := 70) rfl (by kernel_rfl) (hS.b 4 rfl) (Nat.le_of_ble_eq_true rfl) rfl ?_)
  exact h1 hg _ (hS.sel [0, 1, 2] rfl rfl)
 ·replace hS := hF.2 _ _ h'
  clear h' hF
  have hbd : z.1.2.length < 100000000 := hG.bd (x, z.1.2) (getS_mem hg)
  have hok : okP z.1.2 := hG.ok (x, z.1.2) (getS_mem hg)
  refine gW ?_
  refine g_cl rfl rfl (r_ParseO rfl (by omega) (xr_raw hS hz) fun vd ve vp w3 h' => ?_)
  replace hS := hS.call0.2 _ _ h'
  clear h'
  rw [if_pos hok]
  generalize z.1.2 = b at hg hS ⊢
  have lq := oc_len (obP b) vd ve vp
  have hone1 : (oc (obP b) vd ve vp).all (·.oneCell') = true := by
   obtain ⟨x1, y1, e1⟩ := hS.rlen 5 rfl; obtain ⟨x2, y2, e2⟩ := hS.rlen 6 rfl; obtain ⟨x3, y3, e3⟩ := hS.rlen 7 rfl; subst e1 e2 e3; exact oc_one rfl rfl rfl
  refine gW ?_
  refine g_ef rfl (ef_al hS fun b8 w1 hS => ?_)
  refine gW ?_
  refine g_ef0 rfl (ef_st hS 8 rfl rfl rfl lq (Nat.le_of_ble_eq_true rfl) hone1 fun w1 hS => ?_)
  replace hS := hS.ceq (l' := oc (obP b) vd ve vp) 8 rfl (spl_full _ _ lq)
  refine gW ?_
  refine g_lm rfl rfl (hS.b 8 rfl) (Nat.le_of_eq (by rw [lq])) ?_
  rw [List.drop_zero, List.take_of_length_le (Nat.le_of_eq lq)]
  refine gW ?_
  refine g_ef0 rfl (ef_st hS 4 rfl rfl rfl lq (Nat.le_of_ble_eq_true rfl) hone1 fun w1 hS => ?_)
  replace hS := hS.ceq (l' := oc (obP b) vd ve vp) 4 rfl (spl_full _ _ lq)
  refine gW ?_
  refine g_ret (q_c2 (n := 70) rfl (by kernel_rfl) (hS.b 4 rfl) (Nat.le_of_eq (by rw [lq])) rfl ?_)
  rw [List.drop_zero, List.take_of_length_le (Nat.le_of_eq lq)]
  exact h2 b hg vd ve vp _ (hS.sel [0, 1, 2, 5, 6, 7] rfl rfl)
set_option maxRecDepth 100000 in
theorem r_KindS (hG : SG (ZS Z)) (hS : St w0 S0 w (XR bS vl q Z)) (h : ∀ w', St w0 S0 w' (XR bS vl q Z) → K (.int .i64 (kindS (ZS Z) x : Int)) w') : CK Tryz.prog 183 [dp bS, .agg ⟨ic x⟩] w K := by
 have lx := ic_len x
 refine call_k Tryz.func183 k183 Tryz.ntmps183 (Nat.le_of_ble_eq_true rfl) ?_
 refine gW ?_
 refine g_ef rfl (ef_bx hS rfl fun b3 w1 hS => ?_)
 replace hS : St w0 S0 w1 (XR bS vl q Z ++ [cel b3 (ic x) 46]) := hS
 refine gW ?_
 refine g_lm rfl rfl (hS.b 3 rfl) (Nat.le_of_eq lx.symm) ?_
 rw [List.drop_zero, List.take_of_length_le (Nat.le_of_eq lx)]
 have hF := hS.frame
 refine g_cl rfl rfl (r_ObjectS hG hF.1 (fun hg w2 h' => ?_) (fun b hg vd ve vp w2 h' => ?_))
 ·have ek : kindS (ZS Z) x = 0 := by unfold kindS; rw [hg]
  rw [ek] at h
  replace hS := hF.2 _ _ h'
  clear h' hF
  refine gW ?_
  refine g_ef rfl (ef_al hS fun b5 w1 hS => ?_)
  refine gW ?_
  refine g_ef0 rfl (ef_st hS 4 rfl rfl rfl rfl (Nat.le_of_ble_eq_true rfl) rfl fun w1 hS => ?_)
  replace hS := hS.ceq (l' := oc obZ nl nl nl) 4 rfl (spl_full _ _ rfl)
  refine gW ?_
  refine g_l1 rfl rfl (hS.b 4 rfl) (v := .int .i64 0) rfl ?_
  refine gW ?_
  exact g_ret (q_1 rfl (h _ (hS.sel [0, 1, 2] rfl rfl)))
 ·have ek : kindS (ZS Z) x = (obP b).kind := by unfold kindS; rw [hg]
  rw [ek] at h
  replace hS := hF.2 _ _ h'
  clear h' hF
  have lq := oc_len (obP b) vd ve vp
  have hone1 : (oc (obP b) vd ve vp).all (·.oneCell') = true := by
   obtain ⟨x1, y1, e1⟩ := hS.rlen 3 rfl; obtain ⟨x2, y2, e2⟩ := hS.rlen 4 rfl; obtain ⟨x3, y3, e3⟩ := hS.rlen 5 rfl; subst e1 e2 e3; exact oc_one rfl rfl rfl
  refine gW ?_
  refine g_ef rfl (ef_al hS fun b5 w1 hS => ?_)
  refine gW ?_
  refine g_ef0 rfl (ef_st hS 7 rfl rfl rfl lq (Nat.le_of_ble_eq_true rfl) hone1 fun w1 hS => ?_)
  replace hS := hS.ceq (l' := oc (obP b) vd ve vp) 7 rfl (spl_full _ _ lq)
  refine gW ?_
  refine g_l1 rfl rfl (hS.b 7 rfl) (v := .int .i64 ((obP b).kind : Int)) rfl ?_
  refine gW ?_
  exact g_ret (q_1 rfl (h _ (hS.sel [0, 1, 2] rfl rfl)))
set_option maxRecDepth 100000 in
set_option maxHeartbeats 4000000 in
theorem r_PutS {q : Nat} {v : Value} {b : Bs} (hG : SG (ZS Z)) (hq : q ≤ 1073741824) (hb : b.length < 900000000) (hr : ∀ {L : List Res} {w' : World}, St w0 S0 w' L → Rd v E0 1 b.length (bys b) w') (hS : St w0 S0 w (XR bS vl (q : Int) Z))
  (h : ∀ (y : Id) vl' Z' w', ZS Z' = (putS q (ZS Z) b).1 → St w0 S0 w' (XR bS vl' (q : Int) Z') → K (.tuple ⟨[.agg ⟨ic y⟩, .int .i64 ((putS q (ZS Z) b).2 : Int)]⟩) w') : CK Tryz.prog 15 [dp bS, v] w K := by
 obtain ⟨va, vc, rfl⟩ := (hr hS).form
 have lX := ic_len (shaI b)
 have hsz := hG.sz
 have hn : Z.length < 1000000 := by have := hG.n; unfold ZS at this; rwa [List.length_map] at this
 have ldX : ((ic (shaI b)).drop 0).take 32 = ic (shaI b) := by rw [List.drop_zero, List.take_of_length_le (Nat.le_of_eq lX)]
 refine call_k Tryz.func15 k15 Tryz.ntmps15 (Nat.le_of_ble_eq_true rfl) ?_
 refine gW ?_
 refine g_ef rfl (ef_al hS fun b4 w1 hS => ?_)
 replace hS : St w0 S0 w1 (XR bS vl (q : Int) Z ++ [cel b4 (ic idZ) 46]) := hS
 refine gW ?_
 refine g_cl rfl rfl (r_ParseO rfl (by omega) (hr hS) fun vd ve vp w2 h' => ?_)
 replace hS := hS.call0.2 _ _ h'
 clear h'
 have lq := oc_len (obP b) vd ve vp
 have hone1 : (oc (obP b) vd ve vp).all (·.oneCell') = true := by
  obtain ⟨x1, y1, e1⟩ := hS.rlen 4 rfl; obtain ⟨x2, y2, e2⟩ := hS.rlen 5 rfl; obtain ⟨x3, y3, e3⟩ := hS.rlen 6 rfl; subst e1 e2 e3; exact oc_one rfl rfl rfl
 refine gW ?_
 refine g_ef rfl (ef_al hS fun b6 w1 hS => ?_)
 refine gW ?_
 refine g_ef0 rfl (ef_st hS 7 rfl rfl rfl lq (Nat.le_of_ble_eq_true rfl) hone1 fun w1 hS => ?_)
 replace hS : St w0 S0 w1 (XR bS vl (q : Int) Z ++ [cel b4 (ic idZ) 46]) := hS.sel [0, 1, 2, 3] rfl rfl
 refine gW ?_
 by_cases hok : okP b
 rotate_left
 ·have eP : putS q (ZS Z) b = (ZS Z, 70) := by unfold putS; rw [if_neg hok]
  rw [eP] at h
  rw [if_neg hok]
  refine gW ?_
  refine g_ef0 rfl (ef_st hS 3 rfl rfl rfl rfl (Nat.le_of_ble_eq_true rfl) rfl fun w1 hS => ?_)
  replace hS := hS.ceq (l' := ic idZ) 3 rfl (spl_full _ _ rfl)
  refine gW ?_
  refine g_ret (q_c2 (n := 32) rfl (by kernel_rfl) (hS.b 3 rfl) (Nat.le_of_ble_eq_true rfl) rfl ?_)
  exact h idZ _ _ _ rfl (hS.sel [0, 1, 2] rfl rfl)
 rw [if_pos hok]
 refine gW ?_
 refine g_cl rfl rfl (r_Of3 rfl hb (hr hS) fun w2 h' => ?_)
 replace hS := hS.call0.2 _ _ h'
 rw [List.append_nil] at hS
 clear h'
 refine g_ef rfl (ef_al hS fun b8 w1 hS => ?_)
 refine gW ?_
 refine g_ef0 rfl (ef_st hS 4 rfl rfl rfl lX (Nat.le_of_ble_eq_true rfl) (List.all_eq_true.2 (ic_one (shaI b))) fun w1 hS => ?_)
 replace hS : St w0 S0 w1 (XR bS vl (q : Int) Z ++ [cel b4 (ic idZ) 46, cel b8 (ic (shaI b)) 46]) := hS.ceq (l' := ic (shaI b)) 4 rfl (spl_full _ _ (by show (ic (shaI b)).length = _; rw [lX]; rfl))
 refine gW ?_
 refine g_lm rfl rfl (hS.b 4 rfl) (Nat.le_of_eq lX.symm) ?_
 rw [ldX]
 have hF := hS.frame
 refine g_cl rfl rfl (r_GetS hn hF.1 (fun hg w2 h' => ?_) (fun z hz he hg w2 h' => ?_))
 rotate_left
 ·replace hS := hF.2 _ _ h'
  clear h' hF
  have eP : putS q (ZS Z) b = if z.1.2 = b then (ZS Z, 0) else (ZS Z, 80) := by unfold putS; rw [if_pos hok, hg]
  refine gW ?_
  refine g_qt rfl (qt_bsR rfl (xr_raw hS hz)) ?_
  refine gW ?_
  refine g_qt rfl (qt_bsR rfl (hr hS)) ?_
  refine gW ?_
  by_cases hc : z.1.2 = b
  ·rw [show (!decide ((⟨z.1.2.toArray⟩ : ByteArray).data.toList = (⟨b.toArray⟩ : ByteArray).data.toList)) = false by rw [decide_eq_true hc]; rfl]
   rw [if_pos hc] at eP
   rw [eP] at h
   refine gW ?_
   refine g_lm rfl rfl (hS.b 4 rfl) (Nat.le_of_eq lX.symm) ?_
   rw [ldX]
   refine g_ef0 rfl (ef_st hS 3 rfl rfl rfl lX (Nat.le_of_ble_eq_true rfl) (List.all_eq_true.2 (ic_one _)) fun w1 hS => ?_)
   replace hS := hS.ceq (l' := ic (shaI b)) 3 rfl (spl_full _ _ (by show (ic (shaI b)).length = _; rw [lX]; rfl))
   refine gW ?_
   refine g_ret (q_c2 (n := 32) rfl (by kernel_rfl) (hS.b 3 rfl) (Nat.le_of_eq lX.symm) rfl ?_)
   rw [ldX]
   exact h _ _ _ _ rfl (hS.sel [0, 1, 2] rfl rfl)
  ·rw [show (!decide ((⟨z.1.2.toArray⟩ : ByteArray).data.toList = (⟨b.toArray⟩ : ByteArray).data.toList)) = true by rw [decide_eq_false hc]; rfl]
   rw [if_neg hc] at eP
   rw [eP] at h
   refine gW ?_
   refine g_ef0 rfl (ef_st hS 3 rfl rfl rfl rfl (Nat.le_of_ble_eq_true rfl) rfl fun w1 hS => ?_)
   replace hS := hS.ceq (l' := ic idZ) 3 rfl (spl_full _ _ rfl)
   refine gW ?_
   refine g_ret (q_c2 (n := 32) rfl (by kernel_rfl) (hS.b 3 rfl) (Nat.le_of_ble_eq_true rfl) rfl ?_)
   exact h idZ _ _ _ rfl (hS.sel [0, 1, 2] rfl rfl)
 replace hS := hF.2 _ _ h'
 clear h' hF
 have eP : putS q (ZS Z) b = if q - sizeS (ZS Z) < b.length then (ZS Z, 81) else (ZS Z ++ [(shaI b, b)], 0) := by unfold putS; rw [if_pos hok, hg]
 have hpos := okP_pos hok
 refine gW ?_
 refine g_dr mixed ?_
 replace hS := hS.drew
 refine gD ?_
 refine d_l1 rfl rfl rfl (hS.b 0 rfl) (v := .int .i64 (q : Int)) rfl ?_
 have hF := hS.frame
 refine d_cl rfl rfl rfl (r_SizeS hn hsz hF.1 fun w2 h' => ?_)
 replace hS := hF.2 _ _ h'
 clear h' hF
 refine ⟨rc_1 rfl rfl rfl rfl (hS.b 0 rfl) rfl rc_0, ?_⟩
 refine d_rq rfl rfl rfl (in64 (by simp only [arv]; omega)) ?_
 refine gD ?_
 refine d_fin ?_
 have ecmp : cmv .gtr (arv .add (sizeS (ZS Z) : Int) (b.length : Int)) (q : Int) = decide (q - sizeS (ZS Z) < b.length) := by
  simp only [cmv, arv]
  exact decide_eq_decide.2 ⟨fun h => by omega, fun h => by omega⟩
 rw [ecmp]
 by_cases hlt : q - sizeS (ZS Z) < b.length
 ·rw [decide_eq_true hlt]
  rw [if_pos hlt] at eP
  rw [eP] at h
  refine gW ?_
  refine g_ef0 rfl (ef_st hS 3 rfl rfl rfl rfl (Nat.le_of_ble_eq_true rfl) rfl fun w1 hS => ?_)
  replace hS := hS.ceq (l' := ic idZ) 3 rfl (spl_full _ _ rfl)
  refine gW ?_
  refine g_ret (q_c2 (n := 32) rfl (by kernel_rfl) (hS.b 3 rfl) (Nat.le_of_ble_eq_true rfl) rfl ?_)
  exact h idZ _ _ _ rfl (hS.sel [0, 1, 2] rfl rfl)
 ·rw [decide_eq_false hlt]
  rw [if_neg hlt] at eP
  rw [eP] at h
  obtain ⟨za, zc, rfl⟩ := (xr_rd hS).form
  refine gW ?_
  refine g_dr mixed ?_
  replace hS := hS.drew
  refine gD ?_
  refine d_l1 (off := 1) rfl rfl rfl (hS.b 0 rfl) (v := .slice za Z.length zc) rfl ?_
  refine d_lm rfl rfl rfl (hS.b 4 rfl) (Nat.le_of_eq lX.symm) ?_
  rw [ldX]
  refine gD ?_
  refine d_cl rfl rfl rfl (r_Twin (by omega) (hr hS) fun v2 w2 h' => ?_)
  replace hS := hS.call0.2 _ _ h'
  clear h'
  refine ⟨rc_1 rfl rfl rfl rfl (hS.b 0 rfl) rfl (rc_m rfl rfl rfl rfl (hS.b 4 rfl) (Nat.le_of_eq lX.symm) ldX rc_0), ?_⟩
  obtain ⟨ra, rc, rfl⟩ := hS.rlen 5 rfl
  refine d_qp rfl rfl rfl (fun w => qt_bd (out := onC ((shaI b, b), .slice ra b.length rc)) (fill_on rfl rfl rfl rfl) w) ?_
  refine d_e rfl rfl ?_
  refine ef_bl (rs := onC ((shaI b, b), .slice ra b.length rc)) hS (evcs_1 rfl (onC_len _)) fun g w2 hS => ⟨rc_1 rfl rfl rfl rfl (hS.b 0 rfl) rfl rc_0, ?_⟩
  refine d_e rfl rfl ?_
  refine ef_ap (bytes := 56) (n := Z.length) (m := 1) (ys := onC ((shaI b, b), .slice ra b.length rc)) hS 1 rfl rfl rfl (.inl ⟨88, .inr ⟨g, 0, 1, _, rfl, Nat.le_refl _, Nat.le_of_eq (by rw [onC_len]), by rw [List.drop_zero, List.take_of_length_le (Nat.le_of_eq (onC_len _))], (hS.b 6 rfl).r⟩⟩) (List.all_eq_true.2 fun u hu => by
   unfold onC at hu
   rcases List.mem_append.1 hu with hu | hu
   ·exact ic_one _ u hu
   ·rw [List.mem_singleton.1 hu]; rfl) (by omega) (by omega) fun v3 w2 hS => ⟨rc_0, ?_⟩
  have es : fl onC Z ++ onC ((shaI b, b), .slice ra b.length rc) = fl onC (Z ++ [((shaI b, b), .slice ra b.length rc)]) := by rw [fl_app]; simp [fl]
  have el : Z.length + 1 = (Z ++ [((shaI b, b), Value.slice ra b.length rc)]).length := by simp
  rw [es, el] at hS
  obtain ⟨xa, xc, rfl⟩ := hS.rlen 1 rfl
  refine gD ?_
  refine d_e0 rfl rfl ?_
  refine ef_st hS 0 rfl rfl rfl rfl (Nat.le_of_ble_eq_true rfl) rfl fun w2 hS => ⟨rc_0, ?_⟩
  refine d_fin ?_
  refine gW ?_
  refine g_lm rfl rfl (hS.b 4 rfl) (Nat.le_of_eq lX.symm) ?_
  rw [ldX]
  refine g_ef0 rfl (ef_st hS 3 rfl rfl rfl lX (Nat.le_of_ble_eq_true rfl) (List.all_eq_true.2 (ic_one _)) fun w1 hS => ?_)
  replace hS := hS.ceq (l' := ic (shaI b)) 3 rfl (spl_full _ _ (by show (ic (shaI b)).length = _; rw [lX]; rfl))
  refine gW ?_
  refine g_ret (q_c2 (n := 32) rfl (by kernel_rfl) (hS.b 3 rfl) (Nat.le_of_eq lX.symm) rfl ?_)
  rw [ldX]
  replace hS : St w0 S0 w1 [ows onR Z, onR ((shaI b, b), .slice ra b.length rc), cel bS [.int .i64 (q : Int), .slice xa (Z ++ [((shaI b, b), Value.slice ra b.length rc)]).length xc] 68, row (.slice xa (Z ++ [((shaI b, b), Value.slice ra b.length rc)]).length xc) 88 33 (Z ++ [((shaI b, b), Value.slice ra b.length rc)]).length (fl onC (Z ++ [((shaI b, b), .slice ra b.length rc)]))] := hS.sel [2, 5, 0, 1] rfl rfl
  replace hS := St.ows_app hS
  exact h (shaI b) _ (Z ++ [((shaI b, b), .slice ra b.length rc)]) _ (by unfold ZS; rw [List.map_append]; rfl) (hS.sel [1, 2, 0] rfl rfl)
end
def PrdF (f : Nat) (cap : List Value) (M : List Res) (p : Id → Bool) : Prop := ∀ (x : Id) {w w0 : World} {S0 : Nat → Prop} {K : Value → World → Prop}, St w0 S0 w M → (∀ w', St w0 S0 w' M → K (.bool (p x)) w') → CK Tryz.prog f ([] ++ [.agg ⟨ic x⟩] ++ cap) w K
def rowI (v : Value) (l : List Id) : Res := row v 46 32 l.length (fl ic l)
section
variable {w w0 : World} {S0 : Nat → Prop} {L B M : List Res} {K : Value → World → Prop} {s : Bs} {E0 E1 : Nat} {f : Nat} {cap : List Value} {p : Id → Bool} {d : List Id} {v : Value}
theorem b_IdxF (hfn : ∀ (args : Array Value) (w : World), (callFunc f args).run Tryz.prog w = .ok (.enter f args) w) (hn : d.length < 2000000) (hp : PrdF f cap M p) (hS : St w0 S0 w (M ++ [rowI v d]))
  (h1 : (∀ x ∈ d, p x = false) → ∀ w', St w0 S0 w' (M ++ [rowI v d]) → K (.int .i64 (-1)) w')
  (h2 : ∀ (k : Nat) (hk : k < d.length), (∀ x ∈ d.take k, p x = false) → p d[k] = true → ∀ w', St w0 S0 w' (M ++ [rowI v d]) → K (.int .i64 (k : Int)) w') : CK Tryz.prog 139 [v, .func (.func f) ⟨[]⟩ ⟨cap⟩] w K := by
 have hrd : ∀ {w' : World}, St w0 S0 w' (M ++ [rowI v d]) → Rd v 46 32 d.length (fl ic d) w' := fun hS => Ow.rd (hS.ok M.length (rowI v d) getL)
 obtain ⟨a, c, rfl⟩ := (hrd hS).form
 refine call_k Tryz.func139 k139 Tryz.ntmps139 (Nat.le_of_ble_eq_true rfl) ?_
 refine gW ?_
 refine g_lp (ι := Nat) (fun k => [(0, .slice a d.length c), (1, .func (.func f) ⟨[]⟩ ⟨cap⟩), (7, .int .i64 d.length), (8, .int .i64 k)]) (fun k w' => k ≤ d.length ∧ (∀ x ∈ d.take k, p x = false) ∧ St w0 S0 w' (M ++ [rowI (.slice a d.length c) d])) (fun k => d.length - k) 0
  ⟨rfl, rfl, rfl, rfl, trivial⟩ ⟨Nat.zero_le _, fun x hx => absurd hx List.not_mem_nil, hS⟩ ?_
 clear hS
 rintro k w1 ⟨hk, hI, hS⟩
 refine gW ?_
 (refine g_cd rfl (fun hlt => ?_) (fun hlt => ?_) <;> simp only [cmv, arv, Bool.not_eq_true', Bool.not_eq_false', decide_eq_true_eq, decide_eq_false_iff_not] at hlt)
 ·have hlt : k < d.length := by omega
  obtain ⟨b, off, cp, l, e1, hcap, hl, hx, hb⟩ := Rd.block (hrd hS) (by omega)
  cases e1
  have hbd : off + k * 32 + 32 ≤ l.length := by have : (k + 1) * 32 ≤ c * 32 := Nat.mul_le_mul_right 32 (by omega); omega
  refine gW ?_
  refine g_rq rfl rfl ⟨by omega, by omega⟩ ?_
  refine g_lmr rfl rfl hb hbd ?_
  rw [Int.toNat_natCast, rd_at ic_len hx rfl hlt]
  have hF := hS.frame
  refine g_ef rfl (ef_cv (first := []) (cap := cap) rfl rfl hfn (hp d[k] hF.1 fun w2 h' => ?_))
  replace hS := hF.2 _ _ h'
  clear h' hF
  cases hq : p d[k]
  ·refine gW ?_
   refine g_rq rfl rfl (in64 (by simp only [arv]; omega)) ?_
   refine gW ?_
   refine g_l (k + 1) ⟨rfl, rfl, rfl, rfl, trivial⟩ ⟨by omega, fun x hx => ?_, hS⟩ (by omega)
   rw [List.take_succ_eq_append_getElem hlt] at hx
   rcases List.mem_append.1 hx with hx | hx
   ·exact hI x hx
   ·rw [List.mem_singleton.1 hx]; exact hq
  ·refine gW ?_
   exact g_ret (q_1 rfl (h2 k hlt hI hq _ hS))
 ·have ek : k = d.length := by omega
  subst ek
  rw [List.take_length] at hI
  refine gW ?_
  exact g_ret (q_1 rfl (h1 hI _ hS))
set_option maxHeartbeats 1000000 in
theorem b_DelF (hfn : ∀ (args : Array Value) (w : World), (callFunc f args).run Tryz.prog w = .ok (.enter f args) w) (hn : d.length < 2000000) (hp : PrdF f cap M p) (hS : St w0 S0 w (M ++ [rowI v d]))
  (h : ∀ v' w', St w0 S0 w' (M ++ [rowI v' (d.filter fun x => !p x)]) → K v' w') : CK Tryz.prog 78 [v, .func (.func f) ⟨[]⟩ ⟨cap⟩] w K := by
 have hrd : ∀ {w' : World}, St w0 S0 w' (M ++ [rowI v d]) → Rd v 46 32 d.length (fl ic d) w' := fun hS => Ow.rd (hS.ok M.length (rowI v d) getL)
 obtain ⟨a, c, rfl⟩ := (hrd hS).form
 refine call_k Tryz.func78 k78 Tryz.ntmps78 (Nat.le_of_ble_eq_true rfl) ?_
 refine gW ?_
 refine g_cl rfl rfl (b_IdxF hfn hn hp hS (fun hno w1 hS => ?_) (fun k hk hno hyes w1 hS => ?_))
 ·have e : (d.filter fun x => !p x) = d := List.filter_eq_self.2 fun x hx => by rw [hno x hx]; rfl
  rw [e] at h
  refine gW ?_
  exact g_ret (q_1 rfl (h _ _ hS))
 ·rename_i hS0
  clear hS0
  refine gW ?_
  rw [show cmv BinOp.eql (k : Int) (-1) = false by simp only [cmv]; exact decide_eq_false (by omega)]
  refine gW ?_
  refine g_rq rfl rfl (in64 (by simp only [arv]; omega)) ?_
  have hT := hS
  clear hS
  obtain ⟨b, cap', rest, e, hnc, hlc, hS⟩ := hT.open_row M.length getL (hT.rowb M.length getL (by omega))
  clear hT
  cases e
  rw [setL] at hS
  have hfl := fl_len ic_len d
  refine gW ?_
  refine g_lp (ι := Nat × Nat × List Id) (fun x => [(0, .slice (some ⟨b, 0, none⟩) d.length c), (1, .func (.func f) ⟨[]⟩ ⟨cap⟩), (5, .int .i64 x.2.1), (6, .int .i64 x.1)])
   (fun x w' => x.1 ≤ d.length ∧ x.2.2.length = d.length ∧ x.2.1 + 1 ≤ x.1 ∧ x.2.2.take x.2.1 = (d.take x.1).filter (fun x => !p x) ∧ x.2.2.drop x.1 = d.drop x.1 ∧ St w0 S0 w' (M ++ [cel b (fl ic x.2.2 ++ rest) 46])) (fun x => d.length - x.1) (k + 1, k, d)
   ⟨rfl, rfl, rfl, rfl, trivial⟩ ⟨hk, rfl, Nat.le_refl _, ?_, rfl, hS⟩ ?_
  ·rw [List.take_succ_eq_append_getElem hk, List.filter_append, List.filter_eq_self.2 fun x hx => by rw [hno x hx]; rfl]
   simp [hyes]
  clear hS
  rintro ⟨j, q, cur⟩ w1 ⟨hj, hcl, hq, hct, hcd, hS⟩
  dsimp only at hj hcl hq hct hcd hS ⊢
  have hcf := fl_len ic_len cur
  refine gW ?_
  (refine g_cd rfl (fun hlj => ?_) (fun hlj => ?_) <;> simp only [cmv, arv, Bool.not_eq_true', Bool.not_eq_false', decide_eq_true_eq, decide_eq_false_iff_not] at hlj)
  ·have hlj : j < d.length := by omega
   have hde : cur[j]'(by omega) = d[j] := by
    have e1 : (cur.drop j)[0]? = (d.drop j)[0]? := by rw [hcd]
    rw [List.getElem?_drop, List.getElem?_drop, Nat.add_zero, List.getElem?_eq_getElem (by omega), List.getElem?_eq_getElem (by omega)] at e1
    exact Option.some.inj e1
   refine gW ?_
   refine g_rq rfl rfl ⟨by omega, by omega⟩ ?_
   refine g_lm rfl rfl (hS.b M.length getL) (by rw [List.length_append, hcf, hcl]; omega) ?_
   rw [Int.toNat_natCast, Nat.zero_add, fl_atr cur rest j (by omega), hde]
   refine g_ef rfl (ef_al hS fun b7 w1 hS => ?_)
   have lz : (zx [(32, Value.int .u8 0)]).length = 32 := by decide
   refine gW ?_
   refine g_ef0 rfl (ef_st hS (M ++ [cel b (fl ic cur ++ rest) 46]).length getL rfl rfl (ic_len _) (by rw [lz]; decide) (List.all_eq_true.2 (ic_one _)) fun w1 hS => ?_)
   rw [setL] at hS
   replace hS := hS.ceq (l' := ic d[j]) (M ++ [cel b (fl ic cur ++ rest) 46]).length getL (spl_full _ _ (by show (ic d[j]).length = _; rw [ic_len, lz]))
   rw [setL] at hS
   refine gW ?_
   refine g_lm rfl rfl (hS.b _ getL) (Nat.le_of_eq (by rw [ic_len])) ?_
   rw [List.drop_zero, List.take_of_length_le (Nat.le_of_eq (ic_len _))]
   rw [List.append_assoc] at hS
   have hF := hS.frame
   refine g_ef rfl (ef_cv (first := []) (cap := cap) rfl rfl hfn (hp d[j] hF.1 fun w2 h' => ?_))
   replace hS := hF.2 _ _ h'
   clear h' hF
   rw [← List.append_assoc] at hS
   cases hqq : p d[j]
   ·refine gW ?_
    refine g_lm rfl rfl (hS.b _ getL) (Nat.le_of_eq (by rw [ic_len])) ?_
    rw [List.drop_zero, List.take_of_length_le (Nat.le_of_eq (ic_len _))]
    refine g_rq rfl rfl ⟨by omega, by omega⟩ ?_
    rw [Int.toNat_natCast, Nat.zero_add]
    replace hS := hS.init
    refine g_ef0 rfl (ef_st hS M.length getL rfl rfl (ic_len _) (by rw [List.length_append, hcf, hcl]; omega) (bys_one _) fun w1 hS => ?_)
    rw [setL] at hS
    replace hS := hS.ceq (l' := fl ic (cur.set q d[j]) ++ rest) M.length getL (fl_set cur rest q _ (by omega))
    rw [setL] at hS
    refine gW ?_
    refine g_rq rfl rfl (in64 (by simp only [arv]; omega)) ?_
    refine gW ?_
    refine g_rq rfl rfl (in64 (by simp only [arv]; omega)) ?_
    refine gW ?_
    refine g_l (j + 1, q + 1, cur.set q d[j]) ⟨rfl, rfl, rfl, rfl, trivial⟩ ⟨hlj, by simp only [List.length_set]; exact hcl, by simp only; omega, ?_, ?_, hS⟩ (by simp only; omega)
    ·show (cur.set q d[j]).take (q + 1) = (d.take (j + 1)).filter (fun x => !p x)
     rw [List.take_succ_eq_append_getElem (by rw [List.length_set]; omega), List.getElem_set_self, List.take_set_of_le (Nat.le_refl _), hct, List.take_succ_eq_append_getElem hlj, List.filter_append]
     simp [hqq]
    ·show (cur.set q d[j]).drop (j + 1) = d.drop (j + 1)
     rw [List.drop_set_of_lt (by omega)]
     have := congrArg (List.drop 1) hcd
     rwa [List.drop_drop, List.drop_drop] at this
   ·refine gW ?_
    refine g_rq rfl rfl (in64 (by simp only [arv]; omega)) ?_
    refine gW ?_
    refine g_l (j + 1, q, cur) ⟨rfl, rfl, rfl, rfl, trivial⟩ ⟨hlj, hcl, by simp only; omega, ?_, ?_, hS.init⟩ (by simp only; omega)
    ·show cur.take q = (d.take (j + 1)).filter (fun x => !p x)
     rw [hct, List.take_succ_eq_append_getElem hlj, List.filter_append]
     simp [hqq]
    ·show cur.drop (j + 1) = d.drop (j + 1)
     have := congrArg (List.drop 1) hcd
     rwa [List.drop_drop, List.drop_drop] at this
  ·have hjn : j = d.length := by omega
   subst hjn
   rw [List.take_length] at hct
   have hslo2 : ∀ x : Operand, slo (some x) 0 ((c : Int)).toNat ((q : Int)).toNat 32 = q * 32 := fun x => by
    simp only [slo, Int.toNat_natCast]
    rw [if_neg (by omega)]
    omega
   refine gW ?_
   refine g_rq rfl rfl ⟨by omega, by omega, by omega, by omega⟩ ?_
   rw [hslo2]
   simp only [Int.toNat_natCast]
   refine g_ef0 rfl (ef_clr hS M.length getL rfl (by rw [List.length_append, hcf, hcl]; omega) (by decide) fun w1 hS => ?_)
   rw [setL] at hS
   have hql : (d.filter fun x => !p x).length = q := by rw [← hct, List.length_take, Nat.min_eq_left (by omega)]
   refine gW ?_
   refine g_qt rfl (qt_slh (h := q) rfl (fun h => by cases h) rfl (by omega) hnc) ?_
   refine gW ?_
   have hrl : (rep (d.length - q) [(32, Value.int .u8 0)]).length = (d.length - q) * 32 := by rw [rep_length]; rfl
   refine g_ret (q_1 rfl (h _ _ ?_))
   have hS := hS.close_row (n := q) (cap := c) (sz := 32) (xs := fl ic (d.filter fun x => !p x)) M.length getL (by omega) (by rw [fl_len ic_len, hql]) ?_ ?_
   ·rw [setL] at hS
    unfold rowI
    rw [hql]
    exact hS
   ·have e1 : (fl ic cur ++ rest).take (q * 32) = fl ic (d.filter fun x => !p x) := by
     rw [List.take_append_of_le_length (by rw [hcf, hcl]; omega), fl_take ic_len, hct]
    refine ⟨rep (d.length - q) [(32, Value.int .u8 0)] ++ (fl ic cur ++ rest).drop (q * 32 + (rep (d.length - q) [(32, Value.int .u8 0)]).length), ?_⟩
    rw [← e1]
    simp [spl]
   ·refine (spl_length ?_).trans ?_
    ·rw [hrl, List.length_append, hcf, hcl]; omega
    ·rw [List.length_append, hcf, hcl]
     rw [List.length_append, hfl] at hlc
     exact hlc
end
abbrev Cn := List (Id × Int)
def getC (m : Cn) (x : Id) : Option Int := (m.find? fun p => decide (p.1 = x)).map (·.2)
def keyC (m : Cn) : List Id := m.map (·.1)
def tchC (m : Cn) (x : Id) : Cn := if (getC m x).isSome then m else m ++ [(x, 0)]
def setC (m : Cn) (x : Id) (v : Int) : Cn := m.map fun p => if p.1 = x then (p.1, v) else p
def incC (m : Cn) (x : Id) : Cn := setC (tchC m x) x ((getC m x).getD 0 + 1)
def ce1 (i : Nat) (p : Id × Int) : MapEntry := ⟨.agg ⟨ic p.1⟩, .int .i64 p.2, i⟩
def cE (m : Cn) : List MapEntry := m.mapIdx ce1
theorem cE_len (m : Cn) : (cE m).length = m.length := by unfold cE; rw [List.length_mapIdx]
theorem cE_app (m : Cn) (p : Id × Int) : cE (m ++ [p]) = cE m ++ [ce1 m.length p] := by
 unfold cE
 rw [List.mapIdx_append]
 simp
theorem cE_get {m : Cn} {j : Nat} {e : MapEntry} (h : (cE m)[j]? = some e) : ∃ hj : j < m.length, e = ce1 j m[j] := by
 unfold cE at h
 obtain ⟨hj, h⟩ := List.getElem?_eq_some_iff.1 h
 rw [List.getElem_mapIdx] at h
 rw [List.length_mapIdx] at hj
 exact ⟨hj, h.symm⟩
theorem cE_key {m : Cn} : ∀ e ∈ cE m, keyK Tryz.prog 46 e.key := fun e he => by
 obtain ⟨j, hj⟩ := List.getElem?_of_mem he
 obtain ⟨hj, rfl⟩ := cE_get hj
 exact id_key _
theorem getC_none {m : Cn} {x : Id} : getC m x = none ↔ x ∉ keyC m := by
 unfold getC
 rw [Option.map_eq_none_iff, List.find?_eq_none]
 constructor
 ·intro h hx
  obtain ⟨p, hp, rfl⟩ := List.mem_map.1 hx
  exact h p hp (decide_eq_true rfl)
 ·intro h p hp e
  exact h (List.mem_map.2 ⟨p, hp, of_decide_eq_true e⟩)
theorem getC_some {m : Cn} {x : Id} (hn : (keyC m).Nodup) {v : Int} : getC m x = some v ↔ (x, v) ∈ m := by
 unfold getC keyC at *
 constructor
 ·intro h
  rw [Option.map_eq_some_iff] at h
  obtain ⟨p, hp, rfl⟩ := h
  have h1 := List.find?_some hp
  have h2 := List.mem_of_find?_eq_some hp
  rw [decide_eq_true_eq] at h1
  rw [← h1]; exact h2
 ·intro h
  induction m with
  | nil => cases h
  | cons p m ih =>
   rw [List.map_cons, List.nodup_cons] at hn
   rw [List.find?_cons]
   rcases List.mem_cons.1 h with rfl | h
   ·simp
   ·have : p.1 ≠ x := fun e => hn.1 (List.mem_map.2 ⟨_, h, e.symm⟩)
    rw [decide_eq_false this]
    exact ih hn.2 h
theorem getC_key {m : Cn} {x : Id} : (getC m x).isSome = true ↔ x ∈ keyC m := by
 cases h : getC m x with
 | none => simp [getC_none.1 h]
 | some v => simp; exact Classical.byContradiction fun hc => by rw [getC_none.2 hc] at h; cases h
theorem getC_app {m : Cn} {x y : Id} {v : Int} : getC (m ++ [(x, v)]) y = match getC m y with | some z => some z | none => if x = y then some v else none := by
 unfold getC
 rw [List.find?_append]
 cases h : m.find? (fun p => decide (p.1 = y)) with
 | some p => simp
 | none =>
  by_cases e : x = y <;> simp [e]
theorem getC_set {m : Cn} {x y : Id} {v : Int} : getC (setC m x v) y = if y = x then (getC m y).map fun _ => v else getC m y := by
 unfold getC setC
 induction m with
 | nil => simp
 | cons p m ih =>
  rw [List.map_cons, List.find?_cons, List.find?_cons]
  have e1 : (if p.1 = x then (p.1, v) else p).1 = p.1 := by split <;> rfl
  rw [e1]
  by_cases hy : p.1 = y
  ·rw [decide_eq_true hy]
   by_cases hx : y = x
   ·rw [if_pos hx, if_pos (hy.trans hx)]; rfl
   ·rw [if_neg hx, if_neg (fun e => hx (hy.symm.trans e))]
  ·rw [decide_eq_false hy]
   exact ih
theorem keyC_set (m : Cn) (x : Id) (v : Int) : keyC (setC m x v) = keyC m := by
 unfold keyC setC
 rw [List.map_map]
 refine List.map_congr_left fun p _ => ?_
 show (if p.1 = x then (p.1, v) else p).1 = p.1
 split <;> rfl
theorem keyC_tch (m : Cn) (x : Id) : keyC (tchC m x) = if x ∈ keyC m then keyC m else keyC m ++ [x] := by
 unfold tchC
 by_cases h : x ∈ keyC m
 ·rw [if_pos h, if_pos (getC_key.2 h)]
 ·rw [if_neg h, if_neg (fun e => h (getC_key.1 e))]
  unfold keyC; simp
theorem mem_keyC_inc (m : Cn) (x y : Id) : y ∈ keyC (incC m x) ↔ y ∈ keyC m ∨ y = x := by
 unfold incC
 rw [keyC_set, keyC_tch]
 split
 ·rename_i h
  exact ⟨.inl, fun e => by rcases e with e | rfl <;> assumption⟩
 ·simp
theorem keyC_inc_nd {m : Cn} (h : (keyC m).Nodup) (x : Id) : (keyC (incC m x)).Nodup := by
 unfold incC
 rw [keyC_set, keyC_tch]
 split
 ·exact h
 ·rename_i hx
  rw [List.nodup_append]
  exact ⟨h, List.pairwise_singleton _ _, fun a ha b hb => by rw [List.mem_singleton.1 hb]; rintro rfl; exact hx ha⟩
theorem tchC_get (m : Cn) (x : Id) : getC (tchC m x) x = some ((getC m x).getD 0) := by
 unfold tchC
 cases h : getC m x with
 | some v => simp [h]
 | none => simp [getC_app, h]
theorem tchC_get' {m : Cn} {x y : Id} (hy : y ≠ x) : getC (tchC m x) y = getC m y := by
 unfold tchC
 split
 ·rfl
 ·rw [getC_app]
  cases getC m y with
  | some v => rfl
  | none => exact if_neg fun e => hy e.symm
theorem incC_get (m : Cn) (x : Id) : getC (incC m x) x = some ((getC m x).getD 0 + 1) := by
 unfold incC
 rw [getC_set, if_pos rfl, tchC_get]
 rfl
theorem incC_get' {m : Cn} {x y : Id} (hy : y ≠ x) : getC (incC m x) y = getC m y := by
 unfold incC
 rw [getC_set, if_neg hy, tchC_get' hy]
theorem keyC_tch_nd {m : Cn} (h : (keyC m).Nodup) (x : Id) : (keyC (tchC m x)).Nodup := by
 have := keyC_inc_nd h x
 unfold incC at this
 rwa [keyC_set] at this
theorem cE_set {m : Cn} (hn : (keyC m).Nodup) {j : Nat} (hj : j < m.length) {v : Int} : (cE m).set j ⟨(ce1 j m[j]).key, .int .i64 v, j⟩ = cE (setC m m[j].1 v) := by
 have hg : ∀ (l : Cn) (i : Nat), (cE l)[i]? = (l[i]?).map (ce1 i) := fun l i => by unfold cE; rw [List.getElem?_mapIdx]
 refine List.ext_getElem? fun i => ?_
 rw [List.getElem?_set, hg, hg]
 unfold setC
 rw [List.getElem?_map]
 by_cases e : j = i
 ·subst e
  rw [if_pos rfl, cE_len, if_pos hj, List.getElem?_eq_getElem hj]
  simp [ce1]
 ·rw [if_neg e]
  cases hmi : m[i]? with
  | none => rfl
  | some p =>
   obtain ⟨hi, rfl⟩ := List.getElem?_eq_some_iff.1 hmi
   have hne : m[i].1 ≠ m[j].1 := fun he => by
    unfold keyC at hn
    have h1 : (m.map (·.1))[i]'(by rw [List.length_map]; exact hi) = (m.map (·.1))[j]'(by rw [List.length_map]; exact hj) := by rw [List.getElem_map, List.getElem_map]; exact he
    exact e ((List.getElem_inj hn).1 h1).symm
   simp [hne]
theorem keyC_at {m : Cn} {x : Id} (h : x ∈ keyC m) : ∃ (j : Nat) (hj : j < m.length), m[j].1 = x := by
 unfold keyC at h
 obtain ⟨p, hp, rfl⟩ := List.mem_map.1 h
 obtain ⟨j, hj, rfl⟩ := List.mem_iff_getElem.1 hp
 exact ⟨j, hj, rfl⟩
section
variable {T : TT} {w w0 : World} {S0 : Nat → Prop} {L : List Res} {K : Value → World → Prop} {b : Nat} {m : Cn} {x : Id} {o k : Operand}
theorem ef_mlkC {ok : Bool} (hn : (keyC m).Nodup) (hb : w.heap[b]? = some (.map ⟨cE m⟩ m.length)) (hm : ev T o = some (.map (some b))) (hk : ev T k = some (.agg ⟨ic x⟩))
  (h : K (lkv ok (.int .i64 ((getC m x).getD 0)) (getC m x).isSome) w) : Ef Tryz.prog none (.mlk 46 false [(1, .int .i64 0)] ok o k) T w K := by
 refine ef_mlk kl_id hb hm hk (id_key x) cE_key (fun hno => ?_) (fun j e hj he => ?_)
 ·have hx : getC m x = none := getC_none.2 fun hx => by
   obtain ⟨j, hj, rfl⟩ := keyC_at hx
   exact hno _ (List.mem_of_getElem? (show (cE m)[j]? = some (ce1 j m[j]) by unfold cE; rw [List.getElem?_mapIdx, List.getElem?_eq_getElem hj]; rfl)) rfl
  rw [hx] at h
  exact h
 ·obtain ⟨hj', rfl⟩ := cE_get hj
  have hx : m[j].1 = x := agg_inj he
  have hg : getC m x = some m[j].2 := (getC_some hn).2 (by rw [← hx]; exact List.getElem_mem hj')
  rw [hg] at h
  exact h
theorem ef_meC (hn : (keyC m).Nodup) (hS : St w0 S0 w L) (i : Nat) (hi : L[i]? = some (obj b (.map ⟨cE m⟩ m.length))) (hm : ev T o = some (.map (some b))) (hk : ev T k = some (.agg ⟨ic x⟩))
  (h : ∀ (j : Nat) (hj : j < (tchC m x).length), (tchC m x)[j].1 = x → ∀ w', St w0 S0 w' (L.set i (obj b (.map ⟨cE (tchC m x)⟩ (tchC m x).length))) → K (.tuple ⟨[.int .i64 ((getC m x).getD 0), .int .i64 (j : Int)]⟩) w') : Ef Tryz.prog none (.me 46 false [(1, .int .i64 0)] o k) T w K := by
 refine ef_me kl_id hS i hi hm hk (id_key x) cE_key (fun hno w' hS => ?_) (fun j e hj he w' hS => ?_)
 ·have hx : getC m x = none := getC_none.2 fun hx => by
   obtain ⟨j, hj, rfl⟩ := keyC_at hx
   exact hno _ (List.mem_of_getElem? (show (cE m)[j]? = some (ce1 j m[j]) by unfold cE; rw [List.getElem?_mapIdx, List.getElem?_eq_getElem hj]; rfl)) rfl
  have et : tchC m x = m ++ [(x, 0)] := by unfold tchC; rw [hx]; rfl
  have := h m.length (by rw [et]; simp) (by simp [et]) w' (by rw [et, cE_app, List.length_append]; exact hS)
  rw [hx] at this
  exact this
 ·obtain ⟨hj', rfl⟩ := cE_get hj
  have hx : m[j].1 = x := agg_inj he
  have hg : getC m x = some m[j].2 := (getC_some hn).2 (by rw [← hx]; exact List.getElem_mem hj')
  have et : tchC m x = m := by unfold tchC; rw [hg]; rfl
  have := h j (by rw [et]; exact hj') (by simp only [et]; exact hx) w' (by rw [et]; exact hS)
  rw [hg] at this
  exact this
theorem ef_esC {s v : Operand} {j : Nat} {val : Int} (hn : (keyC m).Nodup) (hS : St w0 S0 w L) (i : Nat) (hi : L[i]? = some (obj b (.map ⟨cE m⟩ m.length))) (hm : ev T o = some (.map (some b))) (hs : ev T s = some (.int .i64 (j : Int))) (hv : ev T v = some (.int .i64 val)) (hj : j < m.length)
  (h : ∀ w', St w0 S0 w' (L.set i (obj b (.map ⟨cE (setC m m[j].1 val)⟩ (setC m m[j].1 val).length))) → K undef w') : Ef Tryz.prog none (.es o s v) T w K := by
 refine ef_es (j := j) (e := ce1 j m[j]) hS i hi hm hs hv (by unfold cE; rw [List.getElem?_mapIdx, List.getElem?_eq_getElem hj]; rfl) rfl (fun k e' hk he' => ?_) fun w' hS => h w' ?_
 ·obtain ⟨_, rfl⟩ := cE_get he'
  exact fun e => absurd e (Nat.ne_of_lt hk)
 ·rw [← cE_set hn hj]
  have : (setC m m[j].1 val).length = m.length := by unfold setC; rw [List.length_map]
  rw [this]
  exact hS
theorem ef_mupC {v : Operand} {val : Int} (hx : x ∉ keyC m) (hS : St w0 S0 w L) (i : Nat) (hi : L[i]? = some (obj b (.map ⟨cE m⟩ m.length))) (hm : ev T o = some (.map (some b))) (hk : ev T k = some (.agg ⟨ic x⟩)) (hv : ev T v = some (.int .i64 val))
  (h : ∀ w', St w0 S0 w' (L.set i (obj b (.map ⟨cE (m ++ [(x, val)])⟩ (m ++ [(x, val)]).length))) → K undef w') : Ef Tryz.prog none (.mup 46 o k v) T w K := by
 refine ef_mup kl_id hS i hi hm hk hv (id_key x) cE_key (fun _ w' hS => h w' ?_) (fun j e hj he => ?_)
 ·rw [cE_app, List.length_append]
  exact hS
 ·obtain ⟨hj', rfl⟩ := cE_get hj
  have : m[j].1 = x := agg_inj he
  exact (hx (List.mem_map.2 ⟨_, List.getElem_mem hj', this⟩)).elim
end
noncomputable def gO (l : Sto) (x : Id) : Obj := match getS l x with | some b => obP b | none => obZ
theorem gO_kind (l : Sto) (x : Id) : kindS l x = (gO l x).kind := by
 unfold kindS gO
 cases getS l x <;> rfl
theorem parsS_gO (l : Sto) (x : Id) : parsS l x = if (gO l x).kind = 3 then (gO l x).pars.filter fun p => decide (kindS l p = 3) else [] := by
 unfold parsS gO
 cases getS l x with
 | some b => rfl
 | none => exact (if_neg (by decide)).symm
noncomputable def GS (bg bd bS bm : Nat) (q : Int) (l : Sto) : List Res := SR bS bm q l ++ [cel bg [dp bS, .map (some bd)] 143]
section
variable {w w0 : World} {S0 : Nat → Prop} {L B : List Res} {K : Value → World → Prop} {s : Bs} {E0 E1 : Nat} {bS bm bg bd : Nat} {q : Int} {l : Sto} {x : Id}
theorem c_ObjectS (hG : SG l) (hS : St w0 S0 w (SR bS bm q l)) (h : ∀ vd ve vp w', St w0 S0 w' (SR bS bm q l ++ rowO (gO l x) vd ve vp) → K (.tuple ⟨[.agg ⟨oc (gO l x) vd ve vp⟩, .bool (getS l x).isSome]⟩) w') : CK Tryz.prog 77 [dp bS, .agg ⟨ic x⟩] w K := by
 refine b_ObjectS hG hS (fun hg w' hS => ?_) (fun b hg vd ve vp w' hS => ?_)
 ·have := h nl nl nl w' (by unfold gO; rw [hg]; exact ((hS.nilrow 5 1).nilrow 175 34).nilrow 46 32)
  unfold gO at this
  rw [hg] at this
  exact this
 ·have := h vd ve vp w' (by unfold gO; rw [hg]; exact hS)
  unfold gO at this
  rw [hg] at this
  exact this
theorem b_gof (h : ∀ bg bd w', St w (fun _ => False) w' [cel bg [dp bS, .map (some bd)] 143, obj bd (.map ⟨cE []⟩ 0)] → K (dp bg) w') : CK Tryz.prog 47 [dp bS] w K := by
 have hS := St.nil w (fun _ => False)
 refine call_k Tryz.func47 k47 Tryz.ntmps47 (Nat.le_of_ble_eq_true rfl) ?_
 refine gW ?_
 refine g_ef rfl (ef_mkm hS fun bd w1 hS => ?_)
 refine gW ?_
 refine g_ef rfl (ef_bx hS rfl fun bg w1 hS => ?_)
 refine gW ?_
 exact g_ret (q_1 rfl (h _ _ _ (hS.sel [1, 0] rfl rfl)))
theorem b_commit (hG : SG l) (hS : St w0 S0 w (GS bg bd bS bm q l)) (h : ∀ w', St w0 S0 w' (GS bg bd bS bm q l) → K (.bool (decide (kindS l x = 3))) w') : CK Tryz.prog 80 [dp bg, .agg ⟨ic x⟩] w K := by
 have lx := ic_len x
 refine call_k Tryz.func80 k80 Tryz.ntmps80 (Nat.le_of_ble_eq_true rfl) ?_
 refine gW ?_
 refine g_ef rfl (ef_bx hS rfl fun b3 w1 hS => ?_)
 replace hS : St w0 S0 w1 (SR bS bm q l ++ [cel bg [dp bS, .map (some bd)] 143, cel b3 (ic x) 46]) := hS
 refine gW ?_
 refine g_dr mixed ?_
 replace hS := hS.drew
 refine gD ?_
 refine d_l1 rfl rfl rfl (hS.b 2 rfl) (v := dp bS) rfl ?_
 refine gD ?_
 refine d_lm rfl rfl rfl (hS.b 3 rfl) (Nat.le_of_eq lx.symm) ?_
 rw [List.drop_zero, List.take_of_length_le (Nat.le_of_eq lx)]
 have hF := hS.frame
 refine d_cl rfl rfl rfl (b_KindS hG hF.1 fun w2 h' => ⟨rc_0, ?_⟩)
 replace hS := hF.2 _ _ h'
 refine gD ?_
 refine d_fin ?_
 have e : cmv .eql (kindS l x : Int) 3 = decide (kindS l x = 3) := by
  simp only [cmv]
  exact decide_eq_decide.2 ⟨fun h => by omega, fun h => by omega⟩
 rw [e]
 refine gW ?_
 exact g_ret (q_1 rfl (h _ (hS.sel [0, 1, 2] rfl rfl)))
theorem b_pars1 {b2 : Nat} (hG : SG l) : PrdF 79 [dp b2] (GS bg bd bS bm q l ++ [cel b2 [dp bg] 96]) (fun p => !decide (kindS l p = 3)) := fun x {w w0 S0 K} hS h => by
 have lx := ic_len x
 show CK Tryz.prog 79 [.agg ⟨ic x⟩, dp b2] w K
 refine call_k Tryz.func79 k79 Tryz.ntmps79 (Nat.le_of_ble_eq_true rfl) ?_
 refine gW ?_
 refine g_ef rfl (ef_bx hS rfl fun b3 w1 hS => ?_)
 replace hS : St w0 S0 w1 (GS bg bd bS bm q l ++ [cel b2 [dp bg] 96, cel b3 (ic x) 46]) := hS
 refine gW ?_
 refine g_l1 rfl rfl (hS.b 3 rfl) (v := dp bg) rfl ?_
 refine g_lm rfl rfl (hS.b 4 rfl) (Nat.le_of_eq lx.symm) ?_
 rw [List.drop_zero, List.take_of_length_le (Nat.le_of_eq lx)]
 have hF := hS.frame
 refine g_cl rfl rfl (b_commit hG hF.1 fun w2 h' => ?_)
 replace hS := hF.2 _ _ h'
 refine gW ?_
 exact g_ret (q_1 rfl (h _ (hS.sel [0, 1, 2, 3] rfl rfl)))
set_option maxRecDepth 100000 in
set_option maxHeartbeats 2000000 in
theorem b_parents (hG : SG l) (hS : St w0 S0 w (GS bg bd bS bm q l)) (h : ∀ v' w', St w0 S0 w' (GS bg bd bS bm q l ++ [rowI v' (parsS l x)]) → K v' w') : CK Tryz.prog 48 [dp bg, .agg ⟨ic x⟩] w K := by
 have lx := ic_len x
 have ldx : ((ic x).drop 0).take 32 = ic x := by rw [List.drop_zero, List.take_of_length_le (Nat.le_of_eq lx)]
 have hpl : (gO l x).pars.length ≤ 4 := by
  unfold gO
  cases getS l x with
  | some b => exact (obP_pars b).1
  | none => exact Nat.zero_le _
 refine call_k Tryz.func48 k48 Tryz.ntmps48 (Nat.le_of_ble_eq_true rfl) ?_
 refine gW ?_
 refine g_ef rfl (ef_bx hS rfl fun b2 w1 hS => ?_)
 refine gW ?_
 refine g_ef rfl (ef_bx hS rfl fun b3 w1 hS => ?_)
 replace hS : St w0 S0 w1 (SR bS bm q l ++ [cel bg [dp bS, .map (some bd)] 143, cel b2 [dp bg] 96, cel b3 (ic x) 46]) := hS
 refine gW ?_
 refine g_atx (ι := Nat × Value × Value × Value) 1 (fun y => [(2, dp b2), (3, dp b3), (5, dp y.1), (6, .bool (getS l x).isSome)]) (fun y w' => St w0 S0 w' (SR bS bm q l ++ [cel bg [dp bS, .map (some bd)] 143, cel b2 [dp bg] 96, cel y.1 (oc (gO l x) y.2.1 y.2.2.1 y.2.2.2) 79] ++ rowO (gO l x) y.2.1 y.2.2.1 y.2.2.2)) rfl ?_ ?_
 ·refine g_dr mixed ?_
  replace hS := hS.drew
  refine d_l1 rfl rfl rfl (hS.b 3 rfl) (v := dp bg) rfl ?_
  refine gD ?_
  refine d_l1 rfl rfl rfl (hS.b 2 rfl) (v := dp bS) rfl ?_
  refine d_lm rfl rfl rfl (hS.b 4 rfl) (Nat.le_of_eq lx.symm) ?_
  rw [ldx]
  refine d_a2 ?_ (d_a1 ?_)
  ·have hF := hS.frame
   refine d_cl rfl rfl rfl (c_ObjectS hG hF.1 fun vd ve vp w2 h' => ⟨rc_0, ?_⟩)
   replace hS := hF.2 _ _ h'
   clear h' hF
   have lq := oc_len (gO l x) vd ve vp
   have hone1 : (oc (gO l x) vd ve vp).all (·.oneCell') = true := by
    obtain ⟨x1, y1, e1⟩ := hS.rlen 2 rfl; obtain ⟨x2, y2, e2⟩ := hS.rlen 3 rfl; obtain ⟨x3, y3, e3⟩ := hS.rlen 4 rfl; subst e1 e2 e3; exact oc_one rfl rfl rfl
   refine gD ?_
   refine d_e rfl rfl ?_
   refine ef_al hS fun b5 w2 hS => ⟨rc_0, ?_⟩
   refine d_e0 rfl rfl ?_
   refine ef_st hS 8 rfl rfl rfl lq (Nat.le_of_ble_eq_true rfl) hone1 fun w2 hS => ⟨rc_0, ?_⟩
   replace hS := hS.ceq (l' := oc (gO l x) vd ve vp) 8 rfl (spl_full _ _ lq)
   refine gD ?_
   refine d_fin ?_
   exact g_jx (b5, vd, ve, vp) ⟨rfl, rfl, rfl, rfl, trivial⟩ (hS.sel [0, 1, 5, 6, 8, 2, 3, 4] rfl rfl)
  ·refine d_e rfl rfl ?_
   refine ef_al hS fun b5 w2 hS => ⟨rc_1 rfl rfl rfl rfl (hS.b 3 rfl) rfl (rc_1 rfl rfl rfl rfl (hS.b 2 rfl) rfl (rc_m rfl rfl rfl rfl (hS.b 4 rfl) (Nat.le_of_eq lx.symm) ldx rc_0)), ?_⟩
   rw [List.append_assoc] at hS
   have hF := hS.frame
   refine d_cl rfl rfl rfl (c_ObjectS hG hF.1 fun vd ve vp w2 h' => ⟨rc_0, ?_⟩)
   replace hS := hF.2 _ _ h'
   clear h' hF
   have lq := oc_len (gO l x) vd ve vp
   have hone1 : (oc (gO l x) vd ve vp).all (·.oneCell') = true := by
    obtain ⟨x1, y1, e1⟩ := hS.rlen 2 rfl; obtain ⟨x2, y2, e2⟩ := hS.rlen 3 rfl; obtain ⟨x3, y3, e3⟩ := hS.rlen 4 rfl; subst e1 e2 e3; exact oc_one rfl rfl rfl
   refine gD ?_
   refine d_e0 rfl rfl ?_
   refine ef_st hS 8 rfl rfl rfl lq (Nat.le_of_ble_eq_true rfl) hone1 fun w2 hS => ⟨rc_0, ?_⟩
   replace hS := hS.ceq (l' := oc (gO l x) vd ve vp) 8 rfl (spl_full _ _ lq)
   refine gD ?_
   refine d_fin ?_
   exact g_jx (b5, vd, ve, vp) ⟨rfl, rfl, rfl, rfl, trivial⟩ (hS.sel [0, 1, 5, 6, 8, 2, 3, 4] rfl rfl)
 clear hS
 rintro ⟨b5, vd, ve, vp⟩ T w1 hT hS
 dsimp only at hT hS
 refine g_wkc hT ?_
 clear hT
 have ep := parsS_gO l x
 have enil : (gO l x).kind ≠ 3 → ∀ w', St w0 S0 w' (GS bg bd bS bm q l) → K nl w' := fun hk w' hS => by
  refine h nl w' ?_
  rw [ep, if_neg hk]
  exact hS.nilrow 46 32
 cases hs : (getS l x).isSome
 ·have hk : (gO l x).kind ≠ 3 := by
   unfold gO
   cases hg : getS l x with
   | some b => rw [hg] at hs; cases hs
   | none => decide
  refine gW ?_
  exact g_ret (q_1 rfl (enil hk _ (hS.sel [0, 1, 2] rfl rfl)))
 refine gW ?_
 refine g_l1 rfl rfl (hS.b 4 rfl) (v := .int .i64 ((gO l x).kind : Int)) rfl ?_
 refine gW ?_
 by_cases hk : (gO l x).kind = 3
 rotate_left
 ·rw [show cmv BinOp.neq ((gO l x).kind : Int) 3 = true by simp only [cmv]; rw [decide_eq_false (by omega)]; rfl]
  refine gW ?_
  exact g_ret (q_1 rfl (enil hk _ (hS.sel [0, 1, 2] rfl rfl)))
 rw [show cmv BinOp.neq ((gO l x).kind : Int) 3 = false by simp only [cmv]; rw [decide_eq_true (by omega)]; rfl]
 refine gW ?_
 refine g_l1 rfl rfl (hS.b 4 rfl) (v := vp) (oc_at _ _ _ _).1 ?_
 refine gW ?_
 replace hS : St w0 S0 w1 ((GS bg bd bS bm q l ++ [cel b2 [dp bg] 96]) ++ [rowI vp (gO l x).pars]) := hS.sel [0, 1, 2, 3, 7] rfl rfl
 refine g_cl rfl rfl (b_DelF (callFunc_of Tryz.func79 rfl rfl) (by omega) (b_pars1 hG) hS fun v' w2 hS => ?_)
 refine gW ?_
 refine g_ret (q_1 rfl (h _ _ ?_))
 rw [ep, if_pos hk]
 simp only [Bool.not_not] at hS
 exact hS.sel [0, 1, 2, 4] rfl rfl
end
structure DI (l : Sto) (dm : Cn) : Prop where
 nd : (keyC dm).Nodup
 ck : ∀ x ∈ keyC dm, kindS l x = 3
 bd : ∀ p ∈ dm, 0 ≤ p.2 ∧ p.2 ≤ (dm.length : Int)
theorem DI.nil (l : Sto) : DI l [] := ⟨List.Pairwise.nil, fun x hx => absurd hx List.not_mem_nil, fun p hp => absurd hp List.not_mem_nil⟩
theorem DI.app {l : Sto} {dm : Cn} (h : DI l dm) {x : Id} (hx : x ∉ keyC dm) (hk : kindS l x = 3) {v : Int} (h0 : 0 ≤ v) (h1 : v ≤ dm.length) : DI l (dm ++ [(x, v + 1)]) := by
 refine ⟨?_, ?_, ?_⟩
 ·unfold keyC
  rw [List.map_append, List.nodup_append]
  exact ⟨h.nd, List.pairwise_singleton _ _, fun a ha b hb => by rw [List.mem_singleton.1 hb]; rintro rfl; exact hx ha⟩
 ·intro y hy
  unfold keyC at hy
  rw [List.map_append] at hy
  rcases List.mem_append.1 hy with hy | hy
  ·exact h.ck y hy
  ·rw [List.mem_singleton.1 hy]; exact hk
 ·intro p hp
  rw [List.length_append]
  rcases List.mem_append.1 hp with hp | hp
  ·have := h.bd p hp; simp; omega
  ·rw [List.mem_singleton.1 hp]; simp; omega
theorem DI.len {l : Sto} {dm : Cn} (h : DI l dm) : dm.length ≤ l.length := by
 have h1 : (keyC dm).length ≤ (l.map (·.1)).length := by
  refine (?_ : ∀ (A L : List Id), A.Nodup → (∀ x ∈ A, x ∈ L) → A.length ≤ L.length) _ _ h.nd fun x hx => kindS_mem (by rw [h.ck x hx]; decide)
  intro A
  induction A with
  | nil => intros; exact Nat.zero_le _
  | cons a A ih =>
   intro L hA hs
   rw [List.nodup_cons] at hA
   have ha := hs a (by simp)
   have := ih (L.erase a) hA.2 fun x hx => (List.mem_erase_of_ne (fun e : x = a => hA.1 (by rw [← e]; exact hx))).2 (hs x (by simp [hx]))
   rw [List.length_erase_of_mem ha] at this
   have hpos : 0 < L.length := List.length_pos_of_mem ha
   rw [List.length_cons]
   omega
 unfold keyC at h1
 rw [List.length_map, List.length_map] at h1
 exact h1
theorem DI.get {l : Sto} {dm : Cn} (h : DI l dm) (x : Id) : 0 ≤ (getC dm x).getD 0 ∧ (getC dm x).getD 0 ≤ (dm.length : Int) := by
 cases hg : getC dm x with
 | none => simp
 | some v => exact h.bd _ ((getC_some h.nd).1 hg)
def cnN (l : Sto) (m : Cn) : Nat := (l.map (·.1)).countP fun y => !(getC m y).isSome
theorem cnN_le (l : Sto) (m : Cn) : cnN l m ≤ l.length := by
 unfold cnN
 exact Nat.le_trans List.countP_le_length (Nat.le_of_eq (List.length_map _))
theorem cnN_inc (l : Sto) (m : Cn) (x : Id) : cnN l (incC m x) ≤ cnN l m := cnt_le (fun y h => by
 rw [Bool.not_eq_true'] at h ⊢
 rw [← Bool.not_eq_true, getC_key] at h ⊢
 exact fun hy => h ((mem_keyC_inc m x y).2 (.inl hy))) _
theorem cnN_inc_lt {l : Sto} {m : Cn} {x : Id} (hx : x ∉ keyC m) (hk : kindS l x = 3) : cnN l (incC m x) < cnN l m := cnt_lt (fun y h => by
 rw [Bool.not_eq_true'] at h ⊢
 rw [← Bool.not_eq_true, getC_key] at h ⊢
 exact fun hy => h ((mem_keyC_inc m x y).2 (.inl hy))) (kindS_mem (x := x) (by rw [hk]; decide)) (by rw [getC_none.2 hx]; rfl) (by rw [incC_get]; rfl)
theorem cnN_app_lt {l : Sto} {m : Cn} {x : Id} {v : Int} (hx : x ∉ keyC m) (hk : kindS l x = 3) : cnN l (m ++ [(x, v)]) < cnN l m := cnt_lt (fun y h => by
 rw [getC_app] at h
 cases hg : getC m y with
 | some z => rw [hg] at h; exact h
 | none => rfl) (kindS_mem (x := x) (by rw [hk]; decide)) (by rw [getC_none.2 hx]; rfl) (by rw [getC_app, getC_none.2 hx]; simp)
section
variable {w w0 : World} {S0 : Nat → Prop} {L B : List Res} {K : Value → World → Prop} {s : Bs} {E0 E1 : Nat} {bS bm bg bd : Nat} {q : Int} {l : Sto} {x : Id}
noncomputable def GD (bg bd bS bm : Nat) (q : Int) (l : Sto) (dm : Cn) : List Res := GS bg bd bS bm q l ++ [obj bd (.map ⟨cE dm⟩ dm.length)]
noncomputable def DM (bg bd bS bm : Nat) (q : Int) (l : Sto) (dm : Cn) (b2 b3 b5 bb : Nat) (x : Id) (m : Cn) : List Res := GS bg bd bS bm q l ++ [obj bd (.map ⟨cE dm⟩ dm.length), cel b2 [dp bg] 96, cel b3 (ic x) 46, cel b5 [.map (some bb)] 141, obj bb (.map ⟨cE m⟩ m.length)]
theorem b_dep1 {dm m : Cn} {b2 b3 b5 bb : Nat} (hD : (keyC dm).Nodup) (hm : (keyC m).Nodup) : PrdF 142 [dp b2, dp b5] (DM bg bd bS bm q l dm b2 b3 b5 bb x m) (fun p => (getC dm p).isSome || decide (0 < (getC m p).getD 0)) := fun y {w w0 S0 K} hS h => by
 have ly := ic_len y
 replace h : ∀ w', St w0 S0 w' (DM bg bd bS bm q l dm b2 b3 b5 bb x m) → K (.bool ((getC dm y).isSome || decide (0 < (getC m y).getD 0))) w' := h
 show CK Tryz.prog 142 [.agg ⟨ic y⟩, dp b2, dp b5] w K
 refine call_k Tryz.func142 k142 Tryz.ntmps142 (Nat.le_of_ble_eq_true rfl) ?_
 refine gW ?_
 refine g_ef rfl (ef_bx hS rfl fun b9 w1 hS => ?_)
 replace hS : St w0 S0 w1 (DM bg bd bS bm q l dm b2 b3 b5 bb x m ++ [cel b9 (ic y) 46]) := hS
 refine gW ?_
 refine g_dr mixed ?_
 replace hS := hS.drew
 refine d_l1 rfl rfl rfl (hS.b 4 rfl) (v := dp bg) rfl ?_
 refine gD ?_
 refine d_l1 (off := 1) rfl rfl rfl (hS.b 2 rfl) (v := .map (some bd)) rfl ?_
 refine d_lm rfl rfl rfl (hS.b 8 rfl) (Nat.le_of_eq ly.symm) ?_
 rw [List.drop_zero, List.take_of_length_le (Nat.le_of_eq ly)]
 refine d_e rfl rfl ?_
 refine ef_mlkC hD (hS.ok 3 _ rfl) rfl rfl ⟨rc_0, ?_⟩
 refine gD ?_
 refine d_fin ?_
 cases hs : (getC dm y).isSome
 ·rw [hs] at h
  refine gW ?_
  refine g_l1 rfl rfl (hS.b 6 rfl) (v := .map (some bb)) rfl ?_
  refine g_lm rfl rfl (hS.b 8 rfl) (Nat.le_of_eq ly.symm) ?_
  rw [List.drop_zero, List.take_of_length_le (Nat.le_of_eq ly)]
  refine g_ef rfl (ef_mlkC hm (hS.ok 7 _ rfl) rfl rfl ?_)
  show G _ _ ((_, .int .i64 ((getC m y).getD 0)) :: _) _ _ _
  refine gW ?_
  exact g_ret (q_1 rfl (h _ (hS.sel [0, 1, 2, 3, 4, 5, 6, 7] rfl rfl)))
 ·rw [hs] at h
  refine gW ?_
  exact g_ret (q_1 rfl (h _ (hS.sel [0, 1, 2, 3, 4, 5, 6, 7] rfl rfl)))
set_option maxRecDepth 100000 in
set_option maxHeartbeats 8000000 in
theorem b_depth {dm : Cn} (hG : SG l) (hD : DI l dm) (hS : St w0 S0 w (GD bg bd bS bm q l dm)) (h : ∀ n dm' w', DI l dm' → St w0 S0 w' (GD bg bd bS bm q l dm') → K (.int .i64 n) w') : CK Tryz.prog 84 [dp bg, .agg ⟨ic x⟩] w K := by
 have lx := ic_len x
 have ldx : ∀ y : Id, ((ic y).drop 0).take 32 = ic y := fun y => by rw [List.drop_zero, List.take_of_length_le (Nat.le_of_eq (ic_len y))]
 have hNl := hG.n
 refine call_k Tryz.func84 k84 Tryz.ntmps84 (Nat.le_of_ble_eq_true rfl) ?_
 refine gW ?_
 refine g_ef rfl (ef_bx hS rfl fun b2 w1 hS => ?_)
 refine gW ?_
 refine g_ef rfl (ef_bx hS rfl fun b3 w1 hS => ?_)
 replace hS : St w0 S0 w1 (GS bg bd bS bm q l ++ [obj bd (.map ⟨cE dm⟩ dm.length), cel b2 [dp bg] 96, cel b3 (ic x) 46]) := hS
 refine gW ?_
 refine g_l1 rfl rfl (hS.b 4 rfl) (v := dp bg) rfl ?_
 refine g_lm rfl rfl (hS.b 5 rfl) (Nat.le_of_eq lx.symm) ?_
 rw [ldx]
 have hF := hS.frame
 refine g_cl rfl rfl (b_commit hG hF.1 fun w2 h' => ?_)
 replace hS := hF.2 _ _ h'
 clear h' hF
 by_cases hk : kindS l x = 3
 rotate_left
 ·rw [decide_eq_false hk]
  refine gW ?_
  exact g_ret (q_1 rfl (h 0 dm _ hD (hS.sel [0, 1, 2, 3] rfl rfl)))
 rw [decide_eq_true hk]
 refine gW ?_
 refine g_ef rfl (ef_mkm hS fun bb w1 hS => ?_)
 refine g_ef rfl (ef_al hS fun b5 w1 hS => ?_)
 refine gW ?_
 refine g_ef0 rfl (ef_st hS 7 rfl rfl rfl rfl (Nat.le_of_ble_eq_true rfl) rfl fun w1 hS => ?_)
 refine gW ?_
 refine g_lm rfl rfl (hS.b 5 rfl) (Nat.le_of_eq lx.symm) ?_
 rw [ldx]
 refine g_ef rfl (ef_bl (rs := ic x) hS (evcs_1 rfl lx) fun g w1 hS => ?_)
 replace hS := hS.close_row (n := 1) (cap := 1) (sz := 32) (xs := fl ic [x]) 8 rfl (Nat.le_refl _) (by rw [fl_len ic_len]; rfl) (by simp [fl]) (by rw [lx])
 replace hS : St w0 S0 w1 (DM bg bd bS bm q l dm b2 b3 b5 bb x [] ++ [rowI (.slice (some ⟨g, 0, none⟩) 1 1) [x]]) := hS.sel [0, 1, 2, 3, 4, 5, 7, 6, 8] rfl rfl
 refine gW ?_
 refine g_lp (ι := Cn × Cn × List Id × Value) (fun y => [(2, dp b2), (3, dp b3), (5, dp b5), (6, y.2.2.2)])
  (fun y w' => DI l y.1 ∧ (keyC y.2.1).Nodup ∧ (∀ z v, getC y.2.1 z = some v → 1 ≤ v ∧ v ≤ 2 ∧ (z ∉ keyC y.1 → v ≤ 1)) ∧ (∀ z ∈ y.2.2.1, kindS l z = 3) ∧ 8 * cnN l y.2.1 + y.2.2.1.length ≤ 8 * l.length + 1 ∧ St w0 S0 w' (DM bg bd bS bm q l y.1 b2 b3 b5 bb x y.2.1 ++ [rowI y.2.2.2 y.2.2.1]))
  (fun y => 8 * cnN l y.2.1 + 2 * cnN l y.1 + y.2.2.1.length) (dm, [], [x], .slice (some ⟨g, 0, none⟩) 1 1)
  ⟨rfl, rfl, rfl, rfl, trivial⟩ ⟨hD, List.Pairwise.nil, fun z v hz => (by cases hz), fun z hz => (by have e : z = x := List.mem_singleton.1 hz; rw [e]; exact hk), (by have := cnN_le l []; show 8 * cnN l [] + 1 ≤ _; omega), hS⟩ ?_
 clear hS hD
 rintro ⟨dm, m, work, vw⟩ w1 ⟨hD, hm, hmv, hwk, hwl, hS⟩
 dsimp only at hD hm hmv hwk hwl hS ⊢
 obtain ⟨aw, cw, rfl⟩ := hS.rlen 8 rfl
 have hDl := hD.len
 refine gW ?_
 (generalize hgt : cmv _ _ _ = q; cases q <;> simp only [cmv, arv, Bool.not_eq_true', Bool.not_eq_false', decide_eq_true_eq, decide_eq_false_iff_not] at hgt <;> first | (exfalso; omega) | skip)
 ·refine gW ?_
  refine g_dr mixed ?_
  replace hS := hS.drew
  refine d_l1 rfl rfl rfl (hS.b 4 rfl) (v := dp bg) rfl ?_
  refine gD ?_
  refine d_l1 (off := 1) rfl rfl rfl (hS.b 2 rfl) (v := .map (some bd)) rfl ?_
  refine d_lm rfl rfl rfl (hS.b 5 rfl) (Nat.le_of_eq lx.symm) ?_
  rw [ldx]
  refine d_e rfl rfl ?_
  refine ef_mlkC hD.nd (hS.ok 3 _ rfl) rfl rfl ⟨rc_0, ?_⟩
  show G _ _ ((_, .int .i64 ((getC dm x).getD 0)) :: _) _ _ _
  refine gD ?_
  refine d_fin ?_
  refine gW ?_
  exact g_ret (q_1 rfl (h _ dm _ hD (hS.sel [0, 1, 2, 3] rfl rfl)))
 have hpos : 0 < work.length := by omega
 have hlast : work.length - 1 < work.length := by omega
 have hdl : work.dropLast ++ [work[work.length - 1]] = work := by
  have h1 := List.dropLast_concat_getLast (l := work) (by intro e; rw [e] at hpos; simp at hpos)
  rw [List.getLast_eq_getElem] at h1
  exact h1
 have hka := hwk _ (List.getElem_mem hlast)
 generalize hat : work[work.length - 1] = at' at hdl hka
 obtain ⟨b, off, cap, lr, e1, hcap, hlr, hx, hb⟩ := Rd.block (Ow.rd (hS.ok 8 _ rfl)) hpos
 cases e1
 have hbd : off + (work.length - 1) * 32 + 32 ≤ lr.length := by have : (work.length - 1 + 1) * 32 ≤ cw * 32 := Nat.mul_le_mul_right 32 (by omega); omega
 refine gW ?_
 refine g_rq rfl rfl (in64 (by simp only [arv]; omega)) ?_
 rw [show arv .sub (work.length : Int) 1 = ((work.length - 1 : Nat) : Int) by simp only [arv]; omega]
 refine g_rq rfl rfl ⟨by omega, by omega⟩ ?_
 refine g_lmr rfl rfl hb hbd ?_
 rw [Int.toNat_natCast, rd_at ic_len hx rfl hlast, hat]
 refine g_ef rfl (ef_al hS fun b7 w1 hS => ?_)
 have lz : (zx [(32, Value.int .u8 0)]).length = 32 := by decide
 refine gW ?_
 refine g_ef0 rfl (ef_st hS 9 rfl rfl rfl (ic_len at') (by rw [lz]; decide) (List.all_eq_true.2 (ic_one _)) fun w1 hS => ?_)
 replace hS : St w0 S0 w1 (DM bg bd bS bm q l dm b2 b3 b5 bb x m ++ [rowI (.slice (some ⟨b, off, none⟩) work.length cw) work, cel b7 (ic at') 46]) := hS.ceq (l' := ic at') 9 rfl (spl_full _ _ (by show (ic at').length = _; rw [ic_len, lz]))
 clear hb hx hlr hbd
 refine gW ?_
 refine g_dr mixed ?_
 replace hS := hS.drew
 refine d_l1 rfl rfl rfl (hS.b 4 rfl) (v := dp bg) rfl ?_
 refine gD ?_
 refine d_l1 (off := 1) rfl rfl rfl (hS.b 2 rfl) (v := .map (some bd)) rfl ?_
 refine d_lm rfl rfl rfl (hS.b 9 rfl) (Nat.le_of_eq (ic_len _).symm) ?_
 rw [ldx]
 refine d_e rfl rfl ?_
 refine ef_mlkC hD.nd (hS.ok 3 _ rfl) rfl rfl ⟨rc_0, ?_⟩
 refine gD ?_
 refine d_fin ?_
 cases hs : (getC dm at').isSome
 rotate_left
 ·-- known: taken off
  refine gW ?_
  refine g_rq rfl rfl (in64 (by simp only [arv]; omega)) ?_
  rw [show arv .sub (work.length : Int) 1 = ((work.length - 1 : Nat) : Int) by simp only [arv]; omega]
  refine g_qt rfl (qt_slh (h := work.length - 1) rfl (fun h => by cases h) rfl (by omega) hcap) ?_
  have hT := hS
  clear hS
  obtain ⟨b', cap', rest, e, hnc, hlc, hS⟩ := hT.open_row 8 rfl (hT.rowb 8 rfl hpos)
  clear hT
  cases e
  have hdll : work.dropLast.length = work.length - 1 := List.length_dropLast
  have hpre : ∀ r, fl ic work.dropLast <+: fl ic work ++ r := fun r => by
   have e : fl ic work = fl ic work.dropLast ++ ic at' := by
    conv => lhs; rw [← hdl]
    rw [fl_app]; simp [fl]
   rw [e, List.append_assoc]
   exact List.prefix_append _ _
  replace hS := hS.close_row (n := work.length - 1) (cap := cw) (sz := 32) (xs := fl ic work.dropLast) 8 rfl (by omega) (by rw [fl_len ic_len, hdll]) (hpre _) hlc
  refine gW ?_
  refine g_l (dm, m, work.dropLast, .slice (some ⟨b, 0, none⟩) (work.length - 1) cw) ⟨rfl, rfl, rfl, rfl, trivial⟩ ⟨hD, hm, hmv, fun z hz => hwk z (List.dropLast_subset _ hz), by simp only; omega, ?_⟩ (by simp only; omega)
  show St w0 S0 _ (DM bg bd bS bm q l dm b2 b3 b5 bb x m ++ [row (.slice (some ⟨b, 0, none⟩) (work.length - 1) cw) 46 32 work.dropLast.length (fl ic work.dropLast)])
  rw [hdll]
  exact hS.sel [0, 1, 2, 3, 4, 5, 6, 7, 8] rfl rfl
 have hnk : at' ∉ keyC dm := fun hc => by rw [getC_key.2 hc] at hs; cases hs
 have hv0 : (getC m at').getD 0 ≤ 1 ∧ 0 ≤ (getC m at').getD 0 := by
  cases hg : getC m at' with
  | none => exact ⟨by decide, by decide⟩
  | some v => have := hmv _ _ hg; exact ⟨this.2.2 hnk, by simp; omega⟩
 refine gW ?_
 refine g_atx (ι := Unit) 1 (fun _ => [(2, dp b2), (3, dp b3), (5, dp b5), (6, .slice (some ⟨b, off, none⟩) work.length cw), (7, dp b7)]) (fun _ w' => St w0 S0 w' (DM bg bd bS bm q l dm b2 b3 b5 bb x (incC m at') ++ [rowI (.slice (some ⟨b, off, none⟩) work.length cw) work, cel b7 (ic at') 46])) rfl ?_ ?_
 ·refine g_dr mixed ?_
  replace hS := hS.drew
  refine d_l1 rfl rfl rfl (hS.b 6 rfl) (v := .map (some bb)) rfl ?_
  refine d_lm rfl rfl rfl (hS.b 9 rfl) (Nat.le_of_eq (ic_len _).symm) ?_
  rw [ldx]
  have htn := keyC_tch_nd hm at'
  refine d_a2 ?_ (d_a1 ?_)
  ·refine d_e rfl rfl ?_
   refine ef_mlkC hm (hS.ok 7 _ rfl) rfl rfl ⟨rc_0, ?_⟩
   show G _ _ ((_, .int .i64 ((getC m at').getD 0)) :: _) _ _ _
   refine d_rq rfl rfl rfl (in64 (by simp only [arv]; omega)) ?_
   refine d_e rfl rfl ?_
   refine ef_meC hm hS 7 rfl rfl rfl fun j hj hjx w2 hS => ⟨rc_0, ?_⟩
   refine gD ?_
   refine d_e0 rfl rfl ?_
   refine ef_esC htn hS 7 rfl rfl rfl rfl hj fun w2 hS => ⟨rc_0, ?_⟩
   rw [hjx] at hS
   refine d_fin ?_
   exact g_jx () ⟨rfl, rfl, rfl, rfl, rfl, trivial⟩ hS
  ·refine d_e rfl rfl ?_
   refine ef_meC hm hS 7 rfl rfl rfl fun j hj hjx w2 hS => ⟨rc_0, ?_⟩
   refine gD ?_
   refine d_e rfl rfl ?_
   refine ef_mlkC htn (hS.ok 7 _ rfl) rfl rfl ⟨rc_0, ?_⟩
   rw [tchC_get]
   show G _ _ ((_, .int .i64 ((getC m at').getD 0)) :: _) _ _ _
   refine d_rq rfl rfl rfl (in64 (by simp only [arv]; omega)) ?_
   refine d_e0 rfl rfl ?_
   refine ef_esC htn hS 7 rfl rfl rfl rfl hj fun w2 hS => ⟨rc_0, ?_⟩
   rw [hjx] at hS
   refine d_fin ?_
   exact g_jx () ⟨rfl, rfl, rfl, rfl, rfl, trivial⟩ hS
 clear hS
 rintro _ T w1 hT hS
 refine g_wkc hT ?_
 clear hT
 have hmi := keyC_inc_nd hm at'
 have hgi := incC_get m at'
 have hgi' : ∀ z, z ≠ at' → getC (incC m at') z = getC m z := fun z hz => incC_get' hz
 have hci := cnN_inc l m at'
 refine gW ?_
 refine g_l1 rfl rfl (hS.b 4 rfl) (v := dp bg) rfl ?_
 refine g_lm rfl rfl (hS.b 9 rfl) (Nat.le_of_eq (ic_len _).symm) ?_
 rw [ldx]
 replace hS : St w0 S0 w1 (GS bg bd bS bm q l ++ [obj bd (.map ⟨cE dm⟩ dm.length), cel b2 [dp bg] 96, cel b3 (ic x) 46, cel b5 [.map (some bb)] 141, obj bb (.map ⟨cE (incC m at')⟩ (incC m at').length), rowI (.slice (some ⟨b, off, none⟩) work.length cw) work, cel b7 (ic at') 46]) := hS
 have hF := hS.frame
 refine g_cl rfl rfl (b_parents hG hF.1 fun vp w2 h' => ?_)
 replace hS := hF.2 _ _ h'
 clear h' hF
 refine gW ?_
 have hpl := parsS_len l at'
 replace hS : St w0 S0 w2 ((DM bg bd bS bm q l dm b2 b3 b5 bb x (incC m at') ++ [rowI vp (parsS l at')]) ++ [rowI (.slice (some ⟨b, off, none⟩) work.length cw) work, cel b7 (ic at') 46]) := hS.sel [0, 1, 2, 4, 5, 6, 7, 8, 3, 9, 10] rfl rfl
 have hF := hS.frame
 refine g_cl rfl rfl (b_DelF (callFunc_of Tryz.func142 rfl rfl) (by omega) (b_dep1 hD.nd hmi) hF.1 fun vo w2 h' => ?_)
 replace hS := hF.2 _ _ h'
 clear h' hF
 have hok : ∀ z ∈ (parsS l at').filter fun y => !((getC dm y).isSome || decide (0 < (getC (incC m at') y).getD 0)), kindS l z = 3 := fun z hz => parsS_mem (List.mem_filter.1 hz).1
 have hol : ((parsS l at').filter fun y => !((getC dm y).isSome || decide (0 < (getC (incC m at') y).getD 0))).length ≤ 4 := Nat.le_trans (List.length_filter_le _ _) hpl.1
 generalize (parsS l at').filter (fun y => !((getC dm y).isSome || decide (0 < (getC (incC m at') y).getD 0))) = op at hok hol hS
 replace hS : St w0 S0 w2 (DM bg bd bS bm q l dm b2 b3 b5 bb x (incC m at') ++ [rowI vo op, rowI (.slice (some ⟨b, off, none⟩) work.length cw) work, cel b7 (ic at') 46]) := hS.sel [0, 1, 2, 3, 4, 5, 6, 7, 8, 9, 10] rfl rfl
 obtain ⟨ao, co, rfl⟩ := hS.rlen 8 rfl
 refine gW ?_
 refine g_atx (ι := Bool) 1 (fun qq => [(2, dp b2), (3, dp b3), (5, dp b5), (6, .slice (some ⟨b, off, none⟩) work.length cw), (7, dp b7), (10, .slice ao op.length co), (64, .bool qq)]) (fun qq w' => (qq = true → getC m at' = none) ∧ St w0 S0 w' (DM bg bd bS bm q l dm b2 b3 b5 bb x (incC m at') ++ [rowI (.slice ao op.length co) op, rowI (.slice (some ⟨b, off, none⟩) work.length cw) work, cel b7 (ic at') 46])) rfl ?_ ?_
 ·generalize cmv BinOp.gtr (op.length : Int) 0 = q0
  cases q0
  ·refine gW ?_
   exact g_jx false ⟨rfl, rfl, rfl, rfl, rfl, rfl, rfl, trivial⟩ ⟨fun h => (by cases h), hS⟩
  ·refine gW ?_
   refine g_l1 rfl rfl (hS.b 6 rfl) (v := .map (some bb)) rfl ?_
   refine g_lm rfl rfl (hS.b 10 rfl) (Nat.le_of_eq (ic_len _).symm) ?_
   rw [ldx]
   refine g_ef rfl (ef_mlkC hmi (hS.ok 7 _ rfl) rfl rfl ?_)
   rw [hgi]
   show G _ _ ((_, .int .i64 ((getC m at').getD 0 + 1)) :: _) _ _ _
   refine gW ?_
   refine g_jx (cmv BinOp.eql ((getC m at').getD 0 + 1) 1) ⟨rfl, rfl, rfl, rfl, rfl, rfl, rfl, trivial⟩ ⟨fun h => ?_, hS⟩
   have h2 : (getC m at').getD 0 + 1 = 1 := of_decide_eq_true h
   cases hg : getC m at' with
   | none => rfl
   | some v =>
    have := (hmv _ _ hg).1
    rw [hg] at h2
    simp at h2
    omega
 clear hS
 rintro qq T w1 hT ⟨hqq, hS⟩
 refine g_wkc hT ?_
 clear hT
 have hmv1 : ∀ z v, getC (incC m at') z = some v → 1 ≤ v ∧ v ≤ 2 ∧ (z ∉ keyC dm ++ [at'] → v ≤ 1) := fun z v hz => by
  by_cases e : z = at'
  ·subst e
   rw [hgi] at hz
   cases hz
   exact ⟨by omega, by omega, fun hc => absurd (by simp) hc⟩
  ·rw [hgi' z e] at hz
   have := hmv z v hz
   exact ⟨this.1, this.2.1, fun hc => this.2.2 fun h => hc (List.mem_append_left _ h)⟩
 cases qq
 rotate_left
 ·have hnm : at' ∉ keyC m := getC_none.1 (hqq rfl)
  have hlt := cnN_inc_lt hnm hka
  refine gW ?_
  refine g_ef rfl (ef_ap (bytes := 32) (n := work.length) (m := op.length) (ys := fl ic op) hS 9 rfl rfl rfl (.inl ⟨_, Ow.rd (hS.ok 8 _ rfl)⟩) (fl_one ic_one _) (by omega) (by omega) fun v1 w1 hS => ?_)
  have es : fl ic work ++ fl ic op = fl ic (work ++ op) := (fl_app _ _).symm
  have el : work.length + op.length = (work ++ op).length := by simp
  rw [es, el] at hS
  refine gW ?_
  refine g_l (dm, incC m at', work ++ op, v1) ⟨rfl, rfl, rfl, rfl, trivial⟩ ⟨hD, hmi, fun z v hz => ?_, fun z hz => ?_, by simp only [List.length_append]; omega, hS.sel [0, 1, 2, 3, 4, 5, 6, 7, 9] rfl rfl⟩ (by simp only [List.length_append]; omega)
  ·by_cases e : z = at'
   ·subst e
    rw [hgi, hqq rfl] at hz
    cases hz
    exact ⟨by decide, by decide, fun _ => by decide⟩
   ·rw [hgi' z e] at hz
    exact hmv z v hz
  ·rcases List.mem_append.1 hz with hz | hz
   ·exact hwk z hz
   ·exact hok z hz
 refine gW ?_
 refine g_l1 rfl rfl (hS.b 4 rfl) (v := dp bg) rfl ?_
 refine g_lm rfl rfl (hS.b 10 rfl) (Nat.le_of_eq (ic_len _).symm) ?_
 rw [ldx]
 replace hS : St w0 S0 w1 (GS bg bd bS bm q l ++ [obj bd (.map ⟨cE dm⟩ dm.length), cel b2 [dp bg] 96, cel b3 (ic x) 46, cel b5 [.map (some bb)] 141, obj bb (.map ⟨cE (incC m at')⟩ (incC m at').length), rowI (.slice (some ⟨b, off, none⟩) work.length cw) work, cel b7 (ic at') 46]) := hS.sel [0, 1, 2, 3, 4, 5, 6, 7, 9, 10] rfl rfl
 have hF := hS.frame
 refine g_cl rfl rfl (b_parents hG hF.1 fun vp2 w2 h' => ?_)
 replace hS := hF.2 _ _ h'
 clear h' hF
 generalize parsS l at' = ps at hpl hS
 replace hS : St w0 S0 w2 (DM bg bd bS bm q l dm b2 b3 b5 bb x (incC m at') ++ [rowI (.slice (some ⟨b, off, none⟩) work.length cw) work, cel b7 (ic at') 46, rowI vp2 ps]) := hS.sel [0, 1, 2, 4, 5, 6, 7, 8, 9, 10, 3] rfl rfl
 obtain ⟨ap, cp, rfl⟩ := hS.rlen 10 rfl
 refine gW ?_
 refine g_atx (ι := Int) 2 (fun mo => [(2, dp b2), (3, dp b3), (5, dp b5), (6, .slice (some ⟨b, off, none⟩) work.length cw), (7, dp b7), (11, .int .i64 mo)]) (fun mo w' => 0 ≤ mo ∧ mo ≤ (dm.length : Int) ∧ St w0 S0 w' (DM bg bd bS bm q l dm b2 b3 b5 bb x (incC m at') ++ [rowI (.slice (some ⟨b, off, none⟩) work.length cw) work, cel b7 (ic at') 46])) rfl ?_ ?_
 ·refine g_lp (ι := Nat × Int) (fun y => [(2, dp b2), (3, dp b3), (5, dp b5), (6, .slice (some ⟨b, off, none⟩) work.length cw), (7, dp b7), (11, .int .i64 y.2), (70, .slice ap ps.length cp), (71, .int .i64 ps.length), (72, .int .i64 y.1)])
   (fun y w' => y.1 ≤ ps.length ∧ 0 ≤ y.2 ∧ y.2 ≤ (dm.length : Int) ∧ St w0 S0 w' (DM bg bd bS bm q l dm b2 b3 b5 bb x (incC m at') ++ [rowI (.slice (some ⟨b, off, none⟩) work.length cw) work, cel b7 (ic at') 46, rowI (.slice ap ps.length cp) ps])) (fun y => ps.length - y.1) (0, 0) ⟨rfl, rfl, rfl, rfl, rfl, rfl, rfl, rfl, rfl, trivial⟩ ⟨Nat.zero_le _, Int.le_refl _, Int.natCast_nonneg _, hS⟩ ?_
  clear hS
  rintro ⟨k, mo⟩ w1 ⟨hk, hm0, hm1, hS⟩
  dsimp only at hk hm0 hm1 hS ⊢
  refine gW ?_
  (refine g_cd rfl (fun hlt => ?_) (fun hlt => ?_) <;> simp only [cmv, arv, Bool.not_eq_true', Bool.not_eq_false', decide_eq_true_eq, decide_eq_false_iff_not] at hlt)
  ·have hlt : k < ps.length := by omega
   obtain ⟨b', off', cap', lr, e1, hcap', hlr, hx, hb⟩ := Rd.block (Ow.rd (hS.ok 10 _ rfl)) (by omega)
   cases e1
   have hbd : off' + k * 32 + 32 ≤ lr.length := by have : (k + 1) * 32 ≤ cp * 32 := Nat.mul_le_mul_right 32 (by omega); omega
   have hdg := hD.get ps[k]
   refine gW ?_
   refine g_rq rfl rfl ⟨by omega, by omega⟩ ?_
   refine g_lmr rfl rfl hb hbd ?_
   rw [Int.toNat_natCast, rd_at ic_len hx rfl hlt]
   refine g_ef rfl (ef_al hS fun b13 w1 hS => ?_)
   refine gW ?_
   refine g_ef0 rfl (ef_st hS 11 rfl rfl rfl (ic_len ps[k]) (by rw [lz]; decide) (List.all_eq_true.2 (ic_one _)) fun w1 hS => ?_)
   replace hS := hS.ceq (l' := ic ps[k]) 11 rfl (spl_full _ _ (by show (ic ps[k]).length = _; rw [ic_len, lz]))
   refine gW ?_
   refine g_dr mixed ?_
   replace hS := hS.drew
   refine gD ?_
   refine d_l1 rfl rfl rfl (hS.b 4 rfl) (v := dp bg) rfl ?_
   refine gD ?_
   refine d_l1 (off := 1) rfl rfl rfl (hS.b 2 rfl) (v := .map (some bd)) rfl ?_
   refine d_lm rfl rfl rfl (hS.b 11 rfl) (Nat.le_of_eq (ic_len _).symm) ?_
   rw [ldx]
   refine d_e rfl rfl ?_
   refine ef_mlkC hD.nd (hS.ok 3 _ rfl) rfl rfl ⟨rc_0, ?_⟩
   show G _ _ ((_, .int .i64 ((getC dm ps[k]).getD 0)) :: _) _ _ _
   refine gD ?_
   refine d_e rfl rfl (ef_qt ((pev_ok rfl).2 _) ⟨rc_0, ?_⟩)
   refine d_fin ?_
   refine gW ?_
   refine g_rq rfl rfl (in64 (by simp only [arv]; omega)) ?_
   refine gW ?_
   exact g_l (k + 1, max mo ((getC dm ps[k]).getD 0)) ⟨rfl, rfl, rfl, rfl, rfl, rfl, rfl, rfl, rfl, trivial⟩ ⟨hlt, by simp only; omega, by simp only; omega, hS.sel [0, 1, 2, 3, 4, 5, 6, 7, 8, 9, 10] rfl rfl⟩ (by simp only; omega)
  ·refine gW ?_
   exact g_jx mo ⟨rfl, rfl, rfl, rfl, rfl, rfl, trivial⟩ ⟨hm0, hm1, hS.sel [0, 1, 2, 3, 4, 5, 6, 7, 8, 9] rfl rfl⟩
 ·clear hS
  rintro mo T w1 hT ⟨hm0, hm1, hS⟩
  refine g_wkc hT ?_
  have hcb := cnN_app_lt (v := mo + 1) hnk hka
  refine gW ?_
  refine g_dr mixed ?_
  replace hS := hS.drew
  refine d_l1 rfl rfl rfl (hS.b 4 rfl) (v := dp bg) rfl ?_
  refine gD ?_
  refine d_l1 (off := 1) rfl rfl rfl (hS.b 2 rfl) (v := .map (some bd)) rfl ?_
  refine d_lm rfl rfl rfl (hS.b 9 rfl) (Nat.le_of_eq (ic_len _).symm) ?_
  rw [ldx]
  refine gD ?_
  refine d_rq rfl rfl rfl (in64 (by simp only [arv]; omega)) ?_
  refine d_e0 rfl rfl ?_
  refine ef_mupC hnk hS 3 rfl rfl rfl rfl fun w2 hS => ⟨rc_0, ?_⟩
  refine d_fin ?_
  refine gW ?_
  refine g_l (dm ++ [(at', mo + 1)], incC m at', work, .slice (some ⟨b, off, none⟩) work.length cw) ⟨rfl, rfl, rfl, rfl, trivial⟩ ⟨hD.app hnk hka hm0 hm1, hmi, fun z v hz => ?_, hwk, by simp only; omega, hS.sel [0, 1, 2, 3, 4, 5, 6, 7, 8] rfl rfl⟩ (by simp only; omega)
  have := hmv1 z v hz
  refine ⟨this.1, this.2.1, fun hc => this.2.2 ?_⟩
  unfold keyC at hc ⊢
  rw [List.map_append] at hc
  exact hc
end
section
variable {w w0 : World} {S0 : Nat → Prop} {L B : List Res} {K : Value → World → Prop} {s : Bs} {E0 E1 : Nat} {bq : Nat} {v : Value} {d : List Hn}
set_option maxHeartbeats 1000000 in
theorem b_up {j : Nat} (hj : j < d.length) (hn : d.length < 2000000) (hS : St w0 S0 w (QR bq v d)) (h : ∀ d' w', d'.Perm d → St w0 S0 w' (QR bq v d') → K (.tuple ⟨[]⟩) w') : CK Tryz.prog 141 [ifq bq, .int .i64 j] w K := by
 refine call_k Tryz.func141 k141 Tryz.ntmps141 (Nat.le_of_ble_eq_true rfl) ?_
 refine gW ?_
 refine g_lp (ι := Nat × List Hn) (fun x => [(0, ifq bq), (1, .int .i64 x.1)]) (fun x w' => x.1 < d.length ∧ x.2.Perm d ∧ St w0 S0 w' (QR bq v x.2)) (fun x => x.1) (j, d) ⟨rfl, rfl, trivial⟩ ⟨hj, List.Perm.refl _, hS⟩ ?_
 clear hS
 rintro ⟨j, d1⟩ w1 ⟨hj, hp, hS⟩
 dsimp only at hj hp hS ⊢
 have hl := hp.length_eq
 refine gW ?_
 refine g_rq rfl rfl (in64 (by simp only [arv]; omega)) ?_
 refine g_rq rfl rfl (by decide) ?_
 by_cases j0 : j = 0
 ·subst j0
  refine gW ?_
  exact q_n (h d1 _ hp hS)
 have e1 : IntKind.i64.wrap ((arv .sub (j : Int) 1).tdiv 2) = (((j - 1) / 2 : Nat) : Int) := by
  have e0 : arv .sub (j : Int) 1 = ((j - 1 : Nat) : Int) := by simp only [arv]; omega
  rw [e0, Int.tdiv_eq_ediv_of_nonneg (by omega)]
  exact (wrap_in (in64 (by omega))).trans (by omega)
 have hi : (j - 1) / 2 < j := by omega
 rw [e1]
 refine gW ?_
 rw [show cmv BinOp.eql (((j - 1) / 2 : Nat) : Int) (j : Int) = false by simp only [cmv]; exact decide_eq_false (by omega)]
 refine gW ?_
 refine g_ef rfl (ef_iv rfl rfl iv_Less (b_Less (by omega) (by omega) hS fun q w2 hS => ?_))
 cases q
 ·refine gW ?_
  exact q_n (h d1 _ hp hS)
 ·refine gW ?_
  refine g_ef rfl (ef_iv rfl rfl iv_Swap (b_Swap (by omega) (by omega) hS fun w2 hS => ?_))
  refine gW ?_
  exact g_l ((j - 1) / 2, swp d1 ((j - 1) / 2) j) ⟨rfl, rfl, trivial⟩ ⟨by simp only; omega, (swp_perm (by omega) (by omega)).trans hp, hS⟩ hi
set_option maxHeartbeats 1000000 in
theorem b_down {n : Nat} (hd : 0 < d.length) (hnl : n ≤ d.length) (hn : d.length < 2000000) (hS : St w0 S0 w (QR bq v d)) (h : ∀ q d' w', d'.Perm d → St w0 S0 w' (QR bq v d') → K (.bool q) w') : CK Tryz.prog 143 [ifq bq, .int .i64 0, .int .i64 n] w K := by
 refine call_k Tryz.func143 k143 Tryz.ntmps143 (Nat.le_of_ble_eq_true rfl) ?_
 refine gW ?_
 refine g_lp (ι := Nat × List Hn) (fun x => [(0, ifq bq), (1, .int .i64 0), (2, .int .i64 n), (7, .int .i64 x.1)]) (fun x w' => x.1 < d.length ∧ x.2.Perm d ∧ St w0 S0 w' (QR bq v x.2)) (fun x => d.length - x.1) (0, d) ⟨rfl, rfl, rfl, rfl, trivial⟩ ⟨hd, List.Perm.refl _, hS⟩ ?_
 clear hS
 rintro ⟨i, d1⟩ w1 ⟨hi, hp, hS⟩
 dsimp only at hi hp hS ⊢
 have hl := hp.length_eq
 refine gW ?_
 refine g_rq rfl rfl (in64 (by simp only [arv]; omega)) ?_
 refine g_rq rfl rfl (in64 (by simp only [arv]; omega)) ?_
 rw [show arv .add (arv .mul 2 (i : Int)) 1 = ((2 * i + 1 : Nat) : Int) by simp only [arv]; omega]
 refine gW ?_
 (generalize q1 : cmv _ _ _ = q; cases q <;> simp only [cmv, arv, Bool.not_eq_true', Bool.not_eq_false', decide_eq_true_eq, decide_eq_false_iff_not] at q1 <;> first | (exfalso; omega) | skip)
 rotate_left
 ·refine gW ?_
  exact g_ret (q_1 rfl (h _ d1 _ hp hS))
 have q1 : 2 * i + 1 < n := by omega
 refine gW ?_
 rw [show cmv BinOp.lss ((2 * i + 1 : Nat) : Int) 0 = false by simp only [cmv]; exact decide_eq_false (by omega)]
 refine gW ?_
 refine g_rq rfl rfl (in64 (by simp only [arv]; omega)) ?_
 rw [show arv .add ((2 * i + 1 : Nat) : Int) 1 = ((2 * i + 2 : Nat) : Int) by simp only [arv]; omega]
 refine gW ?_
 refine g_atx (ι := Nat) 2 (fun j => [(0, ifq bq), (1, .int .i64 0), (2, .int .i64 n), (7, .int .i64 i), (9, .int .i64 j)]) (fun j w' => i < j ∧ j < n ∧ St w0 S0 w' (QR bq v d1)) rfl ?_ ?_
 ·(generalize q2 : cmv _ _ _ = q; cases q <;> simp only [cmv, arv, Bool.not_eq_true', Bool.not_eq_false', decide_eq_true_eq, decide_eq_false_iff_not] at q2 <;> first | (exfalso; omega) | skip)
  ·refine gW ?_
   exact g_jx (2 * i + 1) ⟨rfl, rfl, rfl, rfl, rfl, trivial⟩ ⟨by omega, by omega, hS⟩
  ·refine gW ?_
   refine g_ef rfl (ef_iv rfl rfl iv_Less (b_Less (i := 2 * i + 2) (j := 2 * i + 1) (by omega) (by omega) hS fun q w2 hS => ?_))
   cases q
   ·refine gW ?_
    exact g_jx (2 * i + 1) ⟨rfl, rfl, rfl, rfl, rfl, trivial⟩ ⟨by omega, by omega, hS⟩
   ·refine gW ?_
    exact g_jx (2 * i + 2) ⟨rfl, rfl, rfl, rfl, rfl, trivial⟩ ⟨by omega, by omega, hS⟩
 ·clear hS
  rintro j T w1 hT ⟨hij, hjn, hS⟩
  refine g_wkc hT ?_
  refine gW ?_
  refine g_ef rfl (ef_iv rfl rfl iv_Less (b_Less (i := j) (j := i) (by omega) (by omega) hS fun q w2 hS => ?_))
  cases q
  ·refine gW ?_
   exact g_ret (q_1 rfl (h _ d1 _ hp hS))
  ·refine gW ?_
   refine g_ef rfl (ef_iv rfl rfl iv_Swap (b_Swap (i := i) (j := j) (by omega) (by omega) hS fun w2 hS => ?_))
   refine gW ?_
   exact g_l (j, swp d1 i j) ⟨rfl, rfl, rfl, rfl, trivial⟩ ⟨by simp only; omega, (swp_perm (by omega) (by omega)).trans hp, hS⟩ (by simp only; omega)
theorem b_HPush {x : Hn} (hn : d.length < 1000000) (hS : St w0 S0 w (QR bq v d)) (h : ∀ v' d' w', d'.Perm (d ++ [x]) → St w0 S0 w' (QR bq v' d') → K (.tuple ⟨[]⟩) w') : CK Tryz.prog 83 [ifq bq, .iface 160 (.agg ⟨hc x⟩)] w K := by
 have hl : (d ++ [x]).length = d.length + 1 := by simp
 refine call_k Tryz.func83 k83 Tryz.ntmps83 (Nat.le_of_ble_eq_true rfl) ?_
 refine gW ?_
 refine g_ef rfl (ef_iv rfl rfl iv_Push (b_PushQ (by omega) hS fun v' w1 hS => ?_))
 refine gW ?_
 refine g_ef rfl (ef_iv rfl rfl iv_Len (b_Len hS ?_))
 refine g_rq rfl rfl (in64 (by simp only [arv]; omega)) ?_
 rw [show arv .sub ((d ++ [x]).length : Int) 1 = (d.length : Int) by simp only [arv]; omega]
 refine g_cl rfl rfl (b_up (j := d.length) (by omega) (by omega) hS fun d' w2 hp hS => ?_)
 refine gW ?_
 exact q_n (h _ _ _ hp hS)
theorem b_HPop (hd : 0 < d.length) (hn : d.length < 1000000) (hS : St w0 S0 w (QR bq v d)) (h : ∀ x v' d' w', (d' ++ [x]).Perm d → St w0 S0 w' (QR bq v' d') → K (.iface 160 (.agg ⟨hc x⟩)) w') : CK Tryz.prog 86 [ifq bq] w K := by
 refine call_k Tryz.func86 k86 Tryz.ntmps86 (Nat.le_of_ble_eq_true rfl) ?_
 refine gW ?_
 refine g_ef rfl (ef_iv rfl rfl iv_Len (b_Len hS ?_))
 refine g_rq rfl rfl (in64 (by simp only [arv]; omega)) ?_
 rw [show arv .sub (d.length : Int) 1 = ((d.length - 1 : Nat) : Int) by simp only [arv]; omega]
 refine gW ?_
 refine g_ef rfl (ef_iv rfl rfl iv_Swap (b_Swap (i := 0) (j := d.length - 1) (by omega) (by omega) hS fun w2 hS => ?_))
 have hsl := swp_len d 0 (d.length - 1)
 have hsp := swp_perm (d := d) (i := 0) (j := d.length - 1) (by omega) (by omega)
 refine gW ?_
 refine g_cl rfl rfl (b_down (n := d.length - 1) (by omega) (by omega) (by omega) hS fun q d' w2 hp hS => ?_)
 have hl := hp.length_eq
 refine gW ?_
 have hne : d' ≠ [] := fun e => by rw [e] at hl; simp at hl; omega
 have hdl : d'.dropLast ++ [d'.getLast hne] = d' := List.dropLast_concat_getLast hne
 have hll : d'.dropLast.length < 2000000 := by rw [List.length_dropLast]; omega
 rw [← hdl] at hS
 refine g_ef rfl (ef_iv rfl rfl iv_Pop (b_PopQ hll hS fun v' w2 hS => ?_))
 refine gW ?_
 exact g_ret (q_1 rfl (h _ _ _ _ (by rw [hdl]; exact hp.trans hsp) hS))
end
structure PI (met : Cn) (vb : Nat) : Prop where
 nd : (keyC met).Nodup
 bd : ∀ z v, getC met z = some v → 1 ≤ v ∧ v ≤ (vb : Int)
theorem PI.inc {met : Cn} {vb : Nat} (h : PI met vb) (x : Id) : PI (incC met x) (vb + 1) := by
 refine ⟨keyC_inc_nd h.nd x, fun z v hz => ?_⟩
 by_cases e : z = x
 ·subst e
  rw [incC_get] at hz
  cases hz
  cases hg : getC met z with
  | none => simp; omega
  | some u => have := h.bd z u hg; simp; omega
 ·rw [incC_get' e] at hz
  have := h.bd z v hz
  omega
theorem PI.nil : PI [] 0 := ⟨List.Pairwise.nil, fun z v hz => (by cases hz)⟩
theorem fill_hn {T : TT} {a b : Operand} {x : Id} {n : Int} (ha : ev T a = some (.agg ⟨ic x⟩)) (hb : ev T b = some (.int .i64 n)) : fillP T [(0, 32, a), (32, 1, b)] (zx [(32, .int .u8 0), (1, .int .i64 0)]) = some (hc (x, n)) := by
 refine fillG (A := []) (D := z32) (C := [.int .i64 0]) (u := ic x) ha rfl rfl rfl rfl (ic_len x) ?_
 refine fillG (A := ic x) (D := [.int .i64 0]) (C := []) (u := [.int .i64 n]) hb rfl rfl (ic_len x).symm rfl rfl ?_
 rfl
section
variable {w w0 : World} {S0 : Nat → Prop} {L B : List Res} {K : Value → World → Prop} {s : Bs} {E0 E1 : Nat} {bS bm bg bd : Nat} {q : Int} {l : Sto} {x : Id}
noncomputable def HM (bg bd bS bm : Nat) (q : Int) (l : Sto) (b2 b6 b7 bmm bq : Nat) (dm met : Cn) (d : List Hn) (vq : Value) : List Res :=
 GD bg bd bS bm q l dm ++ ([cel b2 [dp bg] 96, cel b6 [ifq bq] 156, cel b7 [.map (some bmm)] 141, obj bmm (.map ⟨cE met⟩ met.length)] ++ QR bq vq d)
set_option maxRecDepth 100000 in
set_option maxHeartbeats 8000000 in
theorem b_put {b2 b6 b7 bmm bq vb : Nat} {dm met : Cn} {d : List Hn} {vq v : Value} {A : List Id} (hG : SG l) (hD : DI l dm) (hM : PI met vb) (hAn : A.length < 2000000) (hvb : vb < 1000000000000) (hdl : d.length + cnN l met ≤ l.length) (hS : St w0 S0 w (HM bg bd bS bm q l b2 b6 b7 bmm bq dm met d vq ++ [rowI v A]))
  (h : ∀ dm' met' d' vq' w', DI l dm' → PI met' (vb + A.length) → (∀ z, z ∈ keyC met' ↔ z ∈ keyC met ∨ z ∈ A) → (∀ z, z ∈ d'.map (·.1) ↔ z ∈ d.map (·.1) ∨ (z ∈ A ∧ z ∉ keyC met ∧ kindS l z = 3)) → d'.length + cnN l met' ≤ d.length + cnN l met → St w0 S0 w' (HM bg bd bS bm q l b2 b6 b7 bmm bq dm' met' d' vq' ++ [rowI v A]) → K (.tuple ⟨[]⟩) w') : CK Tryz.prog 82 [v, dp b7, dp b2, dp b6] w K := by
 have ldx : ∀ y : Id, ((ic y).drop 0).take 32 = ic y := fun y => by rw [List.drop_zero, List.take_of_length_le (Nat.le_of_eq (ic_len y))]
 have hNl := hG.n
 have lz : (zx [(32, Value.int .u8 0)]).length = 32 := by decide
 obtain ⟨av, cv, rfl⟩ := hS.rlen 10 rfl
 refine call_k Tryz.func82 k82 Tryz.ntmps82 (Nat.le_of_ble_eq_true rfl) ?_
 refine gW ?_
 refine g_lp (ι := Nat × Cn × Cn × List Hn × Value) (fun y => [(1, dp b7), (2, dp b2), (3, dp b6), (7, .slice av A.length cv), (8, .int .i64 A.length), (9, .int .i64 y.1)])
  (fun y w' => y.1 ≤ A.length ∧ DI l y.2.1 ∧ PI y.2.2.1 (vb + y.1) ∧ (∀ z, z ∈ keyC y.2.2.1 ↔ z ∈ keyC met ∨ z ∈ A.take y.1) ∧ (∀ z, z ∈ y.2.2.2.1.map (·.1) ↔ z ∈ d.map (·.1) ∨ (z ∈ A.take y.1 ∧ z ∉ keyC met ∧ kindS l z = 3)) ∧ y.2.2.2.1.length + cnN l y.2.2.1 ≤ d.length + cnN l met ∧ St w0 S0 w' (HM bg bd bS bm q l b2 b6 b7 bmm bq y.2.1 y.2.2.1 y.2.2.2.1 y.2.2.2.2 ++ [rowI (.slice av A.length cv) A]))
  (fun y => A.length - y.1) (0, dm, met, d, vq) ⟨rfl, rfl, rfl, rfl, rfl, rfl, trivial⟩ ⟨Nat.zero_le _, hD, hM, fun z => by simp, fun z => by simp, Nat.le_refl _, hS⟩ ?_
 clear hS hD hM
 rintro ⟨k, dm, m, d1, vq⟩ w1 ⟨hk, hD, hM, hkey, hdd, hmes, hS⟩
 dsimp only at hk hD hM hkey hdd hmes hS ⊢
 refine gW ?_
 (refine g_cd rfl (fun hlt => ?_) (fun hlt => ?_) <;> simp only [cmv, arv, Bool.not_eq_true', Bool.not_eq_false', decide_eq_true_eq, decide_eq_false_iff_not] at hlt)
 rotate_left
 ·have ek : k = A.length := by omega
  subst ek
  rw [List.take_length] at hkey hdd
  refine gW ?_
  exact q_n (h dm m d1 vq _ hD hM hkey hdd hmes hS)
 have hlt : k < A.length := by omega
 obtain ⟨b, off, cap, lr, e1, hcap, hlr, hx, hb⟩ := Rd.block (Ow.rd (hS.ok 10 _ rfl)) (by omega)
 cases e1
 have hbd : off + k * 32 + 32 ≤ lr.length := by have : (k + 1) * 32 ≤ cv * 32 := Nat.mul_le_mul_right 32 (by omega); omega
 have hX : (lr.drop (off + k * 32)).take 32 = ic A[k] := rd_at ic_len hx rfl hlt
 have htk : ∀ z, z ∈ A.take (k + 1) ↔ z ∈ A.take k ∨ z = A[k] := fun z => by rw [List.take_succ_eq_append_getElem hlt, List.mem_append, List.mem_singleton]
 generalize A[k] = X at hX htk
 refine gW ?_
 refine g_rq rfl rfl ⟨by omega, by omega⟩ ?_
 refine g_lmr rfl rfl hb hbd ?_
 rw [Int.toNat_natCast, hX]
 clear hb hx hX
 refine g_ef rfl (ef_al hS fun b6' w1 hS => ?_)
 refine gW ?_
 refine g_ef0 rfl (ef_st hS 11 rfl rfl rfl (ic_len X) (by rw [lz]; decide) (List.all_eq_true.2 (ic_one _)) fun w1 hS => ?_)
 replace hS : St w0 S0 w1 (HM bg bd bS bm q l b2 b6 b7 bmm bq dm m d1 vq ++ [rowI (.slice (some ⟨b, off, none⟩) A.length cv) A, cel b6' (ic X) 46]) := hS.ceq (l' := ic X) 11 rfl (spl_full _ _ (by show (ic X).length = _; rw [ic_len, lz]))
 have hvx : (getC m X).getD 0 < 2000000000000 ∧ 0 ≤ (getC m X).getD 0 := by
  cases hg : getC m X with
  | none => exact ⟨by decide, by decide⟩
  | some v => have := hM.bd _ _ hg; simp; omega
 refine gW ?_
 refine g_atx (ι := Unit) 1 (fun _ => [(1, dp b7), (2, dp b2), (3, dp b6), (6, dp b6'), (7, .slice (some ⟨b, off, none⟩) A.length cv), (8, .int .i64 A.length), (9, .int .i64 k)]) (fun _ w' => St w0 S0 w' (HM bg bd bS bm q l b2 b6 b7 bmm bq dm (incC m X) d1 vq ++ [rowI (.slice (some ⟨b, off, none⟩) A.length cv) A, cel b6' (ic X) 46])) rfl ?_ ?_
 ·refine g_dr mixed ?_
  replace hS := hS.drew
  refine d_l1 rfl rfl rfl (hS.b 6 rfl) (v := .map (some bmm)) rfl ?_
  refine d_lm rfl rfl rfl (hS.b 11 rfl) (Nat.le_of_eq (ic_len _).symm) ?_
  rw [ldx]
  have htn := keyC_tch_nd hM.nd X
  refine d_a2 ?_ (d_a1 ?_)
  ·refine d_e rfl rfl ?_
   refine ef_mlkC hM.nd (hS.ok 7 _ rfl) rfl rfl ⟨rc_0, ?_⟩
   show G _ _ ((_, .int .i64 ((getC m X).getD 0)) :: _) _ _ _
   refine d_rq rfl rfl rfl (in64 (by simp only [arv]; omega)) ?_
   refine d_e rfl rfl ?_
   refine ef_meC hM.nd hS 7 rfl rfl rfl fun j hj hjx w2 hS => ⟨rc_0, ?_⟩
   refine gD ?_
   refine d_e0 rfl rfl ?_
   refine ef_esC htn hS 7 rfl rfl rfl rfl hj fun w2 hS => ⟨rc_0, ?_⟩
   rw [hjx] at hS
   refine d_fin ?_
   exact g_jx () ⟨rfl, rfl, rfl, rfl, rfl, rfl, rfl, trivial⟩ hS
  ·refine d_e rfl rfl ?_
   refine ef_meC hM.nd hS 7 rfl rfl rfl fun j hj hjx w2 hS => ⟨rc_0, ?_⟩
   refine gD ?_
   refine d_e rfl rfl ?_
   refine ef_mlkC htn (hS.ok 7 _ rfl) rfl rfl ⟨rc_0, ?_⟩
   rw [tchC_get]
   show G _ _ ((_, .int .i64 ((getC m X).getD 0)) :: _) _ _ _
   refine d_rq rfl rfl rfl (in64 (by simp only [arv]; omega)) ?_
   refine d_e0 rfl rfl ?_
   refine ef_esC htn hS 7 rfl rfl rfl rfl hj fun w2 hS => ⟨rc_0, ?_⟩
   rw [hjx] at hS
   refine d_fin ?_
   exact g_jx () ⟨rfl, rfl, rfl, rfl, rfl, rfl, rfl, trivial⟩ hS
 clear hS
 rintro _ T w1 hT hS
 refine g_wkc hT ?_
 clear hT
 have hMi := hM.inc X
 have hgi := incC_get m X
 have hki := mem_keyC_inc m X
 have hci := cnN_inc l m X
 have hkey' : ∀ z, z ∈ keyC (incC m X) ↔ z ∈ keyC met ∨ z ∈ A.take (k + 1) := fun z => by
  rw [hki, hkey, htk]
  constructor
  ·rintro ((h | h) | h)
   ·exact .inl h
   ·exact .inr (.inl h)
   ·exact .inr (.inr h)
  ·rintro (h | h | h)
   ·exact .inl (.inl h)
   ·exact .inl (.inr h)
   ·exact .inr h
 -- nothing is put
 have skip : (X ∈ keyC m ∨ kindS l X ≠ 3) → ∀ z, z ∈ d1.map (·.1) ↔ z ∈ d.map (·.1) ∨ (z ∈ A.take (k + 1) ∧ z ∉ keyC met ∧ kindS l z = 3) := fun hx z => by
  rw [hdd, htk]
  constructor
  ·rintro (h | ⟨h1, h2, h3⟩)
   ·exact .inl h
   ·exact .inr ⟨.inl h1, h2, h3⟩
  ·rintro (h | ⟨h1 | rfl, h2, h3⟩)
   ·exact .inl h
   ·exact .inr ⟨h1, h2, h3⟩
   ·rcases hx with hx | hx
    ·rcases (hkey z).1 hx with hx | hx
     ·exact absurd hx h2
     ·exact .inr ⟨hx, h2, h3⟩
    ·exact absurd h3 hx
 refine gW ?_
 refine g_l1 rfl rfl (hS.b 6 rfl) (v := .map (some bmm)) rfl ?_
 refine g_lm rfl rfl (hS.b 11 rfl) (Nat.le_of_eq (ic_len _).symm) ?_
 rw [ldx]
 refine g_ef rfl (ef_mlkC hMi.nd (hS.ok 7 _ rfl) rfl rfl ?_)
 rw [hgi]
 show G _ _ ((_, .int .i64 ((getC m X).getD 0 + 1)) :: _) _ _ _
 refine gW ?_
 by_cases hnew : X ∈ keyC m
 ·have hne : ¬ (getC m X).getD 0 + 1 = 1 := by
   cases hg : getC m X with
   | none => exact absurd hnew (getC_none.1 hg)
   | some v => have := hM.bd _ _ hg; simp; omega
  rw [show cmv BinOp.eql ((getC m X).getD 0 + 1) 1 = false from decide_eq_false hne]
  refine gW ?_
  refine g_rq rfl rfl (in64 (by simp only [arv]; omega)) ?_
  refine gW ?_
  exact g_l (k + 1, dm, incC m X, d1, vq) ⟨rfl, rfl, rfl, rfl, rfl, rfl, trivial⟩ ⟨hlt, hD, hMi, hkey', skip (.inl hnew), by simp only; omega, hS.sel [0, 1, 2, 3, 4, 5, 6, 7, 8, 9, 10] rfl rfl⟩ (by simp only; omega)
 have hg0 : (getC m X).getD 0 = 0 := by rw [getC_none.2 hnew]; rfl
 rw [show cmv BinOp.eql ((getC m X).getD 0 + 1) 1 = true from decide_eq_true (by rw [hg0]; rfl)]
 refine gW ?_
 refine g_l1 rfl rfl (hS.b 4 rfl) (v := dp bg) rfl ?_
 refine g_lm rfl rfl (hS.b 11 rfl) (Nat.le_of_eq (ic_len _).symm) ?_
 rw [ldx]
 replace hS : St w0 S0 w1 (GS bg bd bS bm q l ++ [obj bd (.map ⟨cE dm⟩ dm.length), cel b2 [dp bg] 96, cel b6 [ifq bq] 156, cel b7 [.map (some bmm)] 141, obj bmm (.map ⟨cE (incC m X)⟩ (incC m X).length), cel bq [vq] 154, row vq 160 33 d1.length (fl hc d1), rowI (.slice (some ⟨b, off, none⟩) A.length cv) A, cel b6' (ic X) 46]) := hS
 have hF := hS.frame
 refine g_cl rfl rfl (b_commit hG hF.1 fun w2 h' => ?_)
 replace hS := hF.2 _ _ h'
 clear h' hF
 by_cases hk3 : kindS l X = 3
 rotate_left
 ·rw [decide_eq_false hk3]
  refine gW ?_
  refine g_rq rfl rfl (in64 (by simp only [arv]; omega)) ?_
  refine gW ?_
  exact g_l (k + 1, dm, incC m X, d1, vq) ⟨rfl, rfl, rfl, rfl, rfl, rfl, trivial⟩ ⟨hlt, hD, hMi, hkey', skip (.inr hk3), by simp only; omega, hS.sel [0, 1, 2, 3, 4, 5, 6, 7, 8, 9, 10] rfl rfl⟩ (by simp only; omega)
 rw [decide_eq_true hk3]
 have hcl := cnN_inc_lt hnew hk3
 refine gW ?_
 refine g_dr mixed ?_
 replace hS := hS.drew
 refine d_l1 rfl rfl rfl (hS.b 5 rfl) (v := ifq bq) rfl ?_
 refine d_lm rfl rfl rfl (hS.b 11 rfl) (Nat.le_of_eq (ic_len _).symm) ?_
 rw [ldx]
 refine d_l1 rfl rfl rfl (hS.b 4 rfl) (v := dp bg) rfl ?_
 refine d_lm rfl rfl rfl (hS.b 11 rfl) (Nat.le_of_eq (ic_len _).symm) ?_
 rw [ldx]
 replace hS : St w0 S0 w2.drew (GD bg bd bS bm q l dm ++ [cel b2 [dp bg] 96, cel b6 [ifq bq] 156, cel b7 [.map (some bmm)] 141, obj bmm (.map ⟨cE (incC m X)⟩ (incC m X).length), cel bq [vq] 154, row vq 160 33 d1.length (fl hc d1), rowI (.slice (some ⟨b, off, none⟩) A.length cv) A, cel b6' (ic X) 46]) := hS
 have hF := hS.frame
 refine d_cl rfl rfl rfl (b_depth hG hD hF.1 fun n dm' w3 hD' h' => ?_)
 replace hS := hF.2 _ _ h'
 clear h' hF
 refine ⟨rc_1 rfl rfl rfl rfl (hS.b 5 rfl) rfl (rc_m rfl rfl rfl rfl (hS.b 11 rfl) (Nat.le_of_eq (ic_len _).symm) (ldx X) rc_0), ?_⟩
 refine d_qp rfl rfl rfl (fun w => qt_bd (out := hc (X, n)) (fill_hn rfl rfl) w) ?_
 refine gD ?_
 replace hS : St w0 S0 w3 (QR bq vq d1 ++ [cel bS [.int .i64 q, .int .i64 (sizeS l : Int), .map (some bm)] 65, obj bm (.map ⟨stE l⟩ l.length), cel bg [dp bS, .map (some bd)] 143, obj bd (.map ⟨cE dm'⟩ dm'.length), cel b2 [dp bg] 96, cel b6 [ifq bq] 156, cel b7 [.map (some bmm)] 141, obj bmm (.map ⟨cE (incC m X)⟩ (incC m X).length), rowI (.slice (some ⟨b, off, none⟩) A.length cv) A]) := hS.sel [8, 9, 0, 1, 2, 3, 4, 5, 6, 7, 10] rfl rfl
 have hF := hS.frame
 refine d_cl rfl rfl rfl (b_HPush (x := (X, n)) (by omega) hF.1 fun vq' d2 w4 hp h' => ⟨rc_0, ?_⟩)
 replace hS := hF.2 _ _ h'
 clear h' hF
 refine d_fin ?_
 have hpl := hp.length_eq
 rw [List.length_append, List.length_singleton] at hpl
 refine gW ?_
 refine g_rq rfl rfl (in64 (by simp only [arv]; omega)) ?_
 refine gW ?_
 refine g_l (k + 1, dm', incC m X, d2, vq') ⟨rfl, rfl, rfl, rfl, rfl, rfl, trivial⟩ ⟨hlt, hD', hMi, hkey', fun z => ?_, by simp only; omega, hS.sel [2, 3, 4, 5, 6, 7, 8, 9, 0, 1, 10] rfl rfl⟩ (by simp only; omega)
 show z ∈ d2.map (·.1) ↔ _
 have hmp : z ∈ d2.map (·.1) ↔ z ∈ d1.map (·.1) ∨ z = X := by
  rw [(hp.map (·.1)).mem_iff, List.map_append, List.mem_append]
  simp
 rw [hmp, hdd, htk]
 have hXm : X ∉ keyC met := fun hc => hnew ((hkey X).2 (.inl hc))
 constructor
 ·rintro ((h | ⟨h1, h2, h3⟩) | rfl)
  ·exact .inl h
  ·exact .inr ⟨.inl h1, h2, h3⟩
  ·exact .inr ⟨.inr rfl, hXm, hk3⟩
 ·rintro (h | ⟨h1 | rfl, h2, h3⟩)
  ·exact .inl (.inl h)
  ·exact .inl (.inr ⟨h1, h2, h3⟩)
  ·exact .inr rfl
end
end Go.Proofs.YtocofjmknnckhaaGreatDoor
