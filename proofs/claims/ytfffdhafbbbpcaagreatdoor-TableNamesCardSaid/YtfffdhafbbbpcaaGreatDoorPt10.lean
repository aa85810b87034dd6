/- Rj0 Nd2 Rj1 Qi4 Rn3 Rw9 Rx1 -/
import Derived.Test.YtfffdhafbbbpcaaGreatDoorPt9
set_option linter.unusedSimpArgs false
set_option linter.unusedVariables false
namespace Go.Proofs.YtfffdhafbbbpcaaGreatDoor
open Go.En
theorem ibx_lt {s : Bs} {c : UInt8} (h : 0 ≤ Lib.indexByte s c) : (Lib.indexByte s c).toNat < s.length := by
 have := ib_lt s c
 omega
def atv (s : Bs) (f : Nat) : Int := if 0 ≤ Lib.indexByte (s.drop f) 126 then f + Lib.indexByte (s.drop f) 126 else -1
theorem atv_end (s : Bs) : atv s s.length = -1 := by
 unfold atv
 rw [List.drop_length]
 rfl
theorem atv_0 (s : Bs) : atv s 0 = Lib.indexByte s 126 := by
 unfold atv
 rw [List.drop_zero]
 have := Lib.indexByte_ge s 126
 split <;> omega
theorem ibx_cons (x c : UInt8) (l : Bs) : Lib.indexByte (x :: l) c = if x = c then 0 else if Lib.indexByte l c = -1 then -1 else Lib.indexByte l c + 1 := by
 conv => lhs; unfold Lib.indexByte
 simp only [beq_iff_eq]
theorem atv_hit {s : Bs} {f : Nat} (h : f < s.length) (hc : s[f] = 126) : atv s f = f := by
 unfold atv
 rw [List.drop_eq_getElem_cons h, hc, ibx_cons, if_pos rfl, if_pos (Int.le_refl 0), Int.add_zero]
theorem atv_miss {s : Bs} {f : Nat} (h : f < s.length) (hc : s[f] ≠ 126) : atv s f = atv s (f + 1) := by
 unfold atv
 have hge := Lib.indexByte_ge (s.drop (f + 1)) 126
 rw [List.drop_eq_getElem_cons h, ibx_cons, if_neg hc]
 by_cases e : Lib.indexByte (s.drop (f + 1)) 126 = -1
 ·rw [if_pos e, e]
  rfl
 ·rw [if_neg e, if_pos (by omega), if_pos (by omega)]
  omega
theorem q_c4' {P : Program} {a ty n b off t t1 t2 : Nat} {l : List Value} {E : TypeId} {T : TT} {w : World} {K : Value → World → Prop} {u u1 u2 : Value} (hu1 : lk T t1 = some u1) (ht : lk T a = some (.pointer (some ⟨b, off, none⟩))) (h1 : rdAs P ty (some n) = true) (hb : Blk w b l E) (hn : off + n ≤ l.length) (hu2 : lk T t2 = some u2) (hu : lk T t = some u) (h : K (.tuple ⟨[u1, .agg ⟨(l.drop off).take n⟩, u2, u]⟩) w) : QF P [.tmp t1, .cell a ty, .tmp t2, .tmp t] K .ret T [] w := q_c4 hu1 ht h1 hb hn hu2 hu h
section
variable {w w0 : World} {S0 : Nat → Prop} {L B : List Res} {K : Value → World → Prop} {s : Bs} {E0 E1 : Nat}
set_option maxHeartbeats 2000000 in
theorem r_Split (h : ∀ w', St w (fun _ => False) w' [] → K (.tuple ⟨[sv (spN s).1, .agg ⟨bys (spN s).2.1⟩, .bool (spN s).2.2.1, .int .i64 (spN s).2.2.2]⟩) w') (hs : s.length ≤ 4294967280) : CK Tryz.prog 193 [sv s] w K := by
 have hS := St.nil w (fun _ => False)
 have esz : (⟨s.toArray⟩ : ByteArray).size = s.length := by rw [Lib.size_eq]
 have hsl : ((⟨s.toArray⟩ : ByteArray).data.toList.length : Int) = s.length := rfl
 have l0 : (bys zid).length = 32 := by rw [bys_length, zid_len]
 have hcut : Lib.cut s [126] = if 0 ≤ Lib.indexByte s 126 then (s.take (Lib.indexByte s 126).toNat, s.drop ((Lib.indexByte s 126).toNat + 1), true) else (s, [], false) := by
  unfold Lib.cut
  rw [Lib.index_one]
  rfl
 refine call_k Tryz.func193 k193 Tryz.ntmps193 (Nat.le_of_ble_eq_true rfl) ?_
 refine gW ?_
 refine g_ef rfl (ef_al hS fun b3 w1 hS => ?_)
 replace hS : St w (fun _ => False) w1 [cel b3 (bys zid) 38] := hS
 refine gW ?_
 rw [esz]
 refine g_rq rfl rfl (in64 (by simp only [arv]; omega)) ?_
 refine gW ?_
 refine g_lp (ι := Nat) (fun k => [(0, sv s), (3, dp b3), (6, .int .i64 (atv s (s.length - k))), (7, .int .i64 ((s.length : Int) - 1 - (k : Int)))]) (fun k w' => k ≤ s.length ∧ St w (fun _ => False) w' [cel b3 (bys zid) 38]) (fun k => s.length - k) 0
  ⟨rfl, rfl, by rw [Nat.sub_zero, atv_end]; rfl, by show some (Value.int .i64 _) = some (Value.int .i64 _); congr 2; simp only [arv]; omega, trivial⟩ ⟨Nat.zero_le _, hS⟩ ?_
 clear hS
 rintro k w1 ⟨hk, hS⟩
 refine gW ?_
 (refine g_cd rfl (fun hlt => ?_) (fun hlt => ?_) <;> simp only [cmv, arv, Bool.not_eq_true', Bool.not_eq_false', decide_eq_true_eq, decide_eq_false_iff_not] at hlt)
 ·have hlt : k < s.length := by omega
  have ei : ((s.length : Int) - 1 - (k : Int)) = ((s.length - (k + 1) : Nat) : Int) := by omega
  rw [ei]
  have hi : s.length - (k + 1) < s.length := by omega
  have es : s.length - (k + 1) + 1 = s.length - k := by omega
  refine gW ?_
  refine g_rq rfl rfl ⟨by omega, by omega⟩ ?_
  rw [gd_at hi]
  refine gW ?_
  rw [show (126 : Int) = ((126 : Nat) : Int) from rfl, ceq_c (by decide)]
  cases hq : decide (s[s.length - (k + 1)] = UInt8.ofNat 126)
  ·have hq2 := of_decide_eq_false hq
   refine gW ?_
   refine g_rq rfl rfl (in64 (by simp only [arv]; omega)) ?_
   refine gW ?_
   refine g_l (k + 1) ⟨rfl, rfl, ?_, ?_, trivial⟩ ⟨by omega, hS⟩ (by omega)
   ·rw [atv_miss hi hq2, es]
    rfl
   ·show some (Value.int .i64 _) = some (Value.int .i64 _)
    congr 2
    simp only [arv]
    omega
  ·have hq2 := of_decide_eq_true hq
   refine gW ?_
   refine g_rq rfl rfl (in64 (by simp only [arv]; omega)) ?_
   refine gW ?_
   refine g_l (k + 1) ⟨rfl, rfl, ?_, ?_, trivial⟩ ⟨by omega, hS⟩ (by omega)
   ·rw [atv_hit hi hq2]
    rfl
   ·show some (Value.int .i64 _) = some (Value.int .i64 _)
    congr 2
    simp only [arv]
    omega
 have ek : s.length - k = 0 := by omega
 rw [ek, atv_0]
 clear ek hlt hk
 have err : nmE (Lib.cut s [126]).1 ≠ 0 ∨ ((Lib.cut s [126]).2.2 = true ∧ unhE (Lib.cut s [126]).2.1 ≠ 0) → spN s = ([], zid, false, 40) := fun h1 => by
  unfold spN
  rw [if_pos h1.symm]
 have fine : nmE (Lib.cut s [126]).1 = 0 → ((Lib.cut s [126]).2.2 = true → unhE (Lib.cut s [126]).2.1 = 0) → spN s = ((Lib.cut s [126]).1, if (Lib.cut s [126]).2.2 = true then unhV (Lib.cut s [126]).2.1 else zid, (Lib.cut s [126]).2.2, 0) := fun h1 h2 => by
  unfold spN
  rw [if_neg]
  rintro (⟨h3, h4⟩ | h3)
  ·exact h4 (h2 h3)
  ·exact h3 h1
 have nm40 : ∀ t : Bs, nmE t ≠ 0 → nmE t = 40 := fun t h1 => by
  unfold nmE at h1 ⊢
  split
  ·rename_i h2; rw [if_pos h2] at h1; exact absurd rfl h1
  ·rfl
 have hge := Lib.indexByte_ge s 126
 by_cases hj : 0 ≤ Lib.indexByte s 126
 ·rw [if_pos hj] at hcut
  have hjl := ibx_lt hj
  obtain ⟨j, hje⟩ := Int.eq_ofNat_of_zero_le hj
  rw [hje] at hcut hjl ⊢
  rw [Int.toNat_natCast] at hcut hjl
  have ej : (arv BinOp.add ((j : Nat) : Int) 1).toNat = j + 1 := by simp only [arv]; omega
  have x1 : (⟨s.toArray⟩ : ByteArray).extract (j + 1) s.length = ⟨(s.drop (j + 1)).toArray⟩ := by
   have := sv_ext s (j + 1) s.length
   rw [List.take_of_length_le (by rw [List.length_drop]; omega)] at this
   exact Value.string.inj this
  have x2 : (⟨s.toArray⟩ : ByteArray).extract 0 j = ⟨(s.take j).toArray⟩ := by
   have := sv_ext s 0 j
   rw [List.drop_zero, Nat.sub_zero] at this
   exact Value.string.inj this
  refine gW ?_
  rw [show cmv BinOp.lss ((j : Nat) : Int) 0 = false by simp only [cmv, decide_eq_false_iff_not]; omega]
  refine gW ?_
  refine g_rq rfl rfl (in64 (by simp only [arv]; omega)) ?_
  refine g_rq rfl rfl ⟨by simp only [arv]; omega, by rw [esz]; simp only [arv]; omega, by rw [esz]; omega⟩ ?_
  rw [ej, esz, Int.toNat_natCast, x1]
  refine g_cl rfl rfl (r_Parse (s := s.drop (j + 1)) fun w1 h' => ?_)
  replace hS := hS.call0.2 _ _ h'
  rw [List.append_nil] at hS
  have l1 : (bys (unhV (s.drop (j + 1)))).length = 32 := by rw [bys_length, unhV_len]
  refine gW ?_
  refine g_ef rfl (ef_al hS fun b8 w1 hS => ?_)
  replace hS : St w (fun _ => False) w1 [cel b3 (bys zid) 38, cel b8 (bys zid) 38] := hS
  refine g_ef0 rfl (ef_st hS 1 rfl rfl rfl l1 (Nat.le_of_eq l0.symm) (bys_one _) fun w1 hS => ?_)
  replace hS := hS.ceq (l' := bys (unhV (s.drop (j + 1)))) 1 rfl (spl_full _ _ (l1.trans l0.symm))
  refine gW ?_
  by_cases hE : unhE (s.drop (j + 1)) = 0
  ·rw [hE]
   refine gW ?_
   refine g_rq rfl rfl ⟨by omega, by omega, by rw [esz]; omega⟩ ?_
   rw [show ((0 : Nat) : Int).toNat = 0 from rfl, Int.toNat_natCast, x2]
   refine g_cl rfl rfl (r_Check4 (s := s.take j) fun w1 h' => ?_)
   replace hS := hS.call0.2 _ _ h'
   rw [List.append_nil] at hS
   by_cases hN : nmE (s.take j) = 0
   ·rw [fine (by rw [hcut]; exact hN) (fun _ => by rw [hcut]; exact hE), hcut] at h
    rw [hN]
    refine gW ?_
    refine g_dr mixed ?_
    replace hS := hS.drew
    refine gD ?_
    refine d_rq rfl rfl rfl ⟨by omega, by omega, by rw [esz]; omega⟩ ?_
    rw [show ((0 : Nat) : Int).toNat = 0 from rfl, Int.toNat_natCast, x2]
    refine d_lm rfl rfl rfl (hS.b 1 rfl) (Nat.le_of_eq l1.symm) ?_
    rw [List.drop_zero, List.take_of_length_le (Nat.le_of_eq l1)]
    refine gD ?_
    refine d_e0 rfl rfl ?_
    refine ef_st hS 0 rfl rfl rfl l1 (Nat.le_of_eq l0.symm) (bys_one _) fun w1 hS => ⟨rc_0, ?_⟩
    replace hS := hS.ceq (l' := bys (unhV (s.drop (j + 1)))) 0 rfl (spl_full _ _ (l1.trans l0.symm))
    refine gD ?_
    refine d_fin ?_
    refine gW ?_
    refine g_ret (q_c4' (n := 32) rfl rfl (by kernel_rfl) (hS.b 0 rfl) (Nat.le_of_eq l1.symm) rfl rfl ?_)
    rw [List.drop_zero, List.take_of_length_le (Nat.le_of_eq l1)]
    exact h _ (hS.sel [] rfl rfl)
   ·rw [err (.inl (by rw [hcut]; exact hN))] at h
    rw [nm40 _ hN]
    refine gW ?_
    refine g_ef0 rfl (ef_st (u := .agg ⟨bys zid⟩) hS 0 rfl rfl rfl l0 (Nat.le_of_eq l0.symm) (by decide) fun w1 hS => ?_)
    replace hS := hS.ceq (l' := bys zid) 0 rfl (spl_full _ _ rfl)
    refine gW ?_
    refine g_ret (q_c4' (n := 32) rfl rfl (by kernel_rfl) (hS.b 0 rfl) (Nat.le_of_eq l0.symm) rfl rfl ?_)
    exact h _ (hS.sel [] rfl rfl)
  ·have hE2 : unhE (s.drop (j + 1)) = 30 := by
    unfold unhE at hE ⊢
    split
    ·rename_i h2; rw [if_pos h2] at hE; exact absurd rfl hE
    ·rfl
   rw [err (.inr (by rw [hcut]; exact ⟨rfl, hE⟩))] at h
   rw [hE2]
   refine gW ?_
   refine g_ef0 rfl (ef_st (u := .agg ⟨bys zid⟩) hS 0 rfl rfl rfl l0 (Nat.le_of_eq l0.symm) (by decide) fun w1 hS => ?_)
   replace hS := hS.ceq (l' := bys zid) 0 rfl (spl_full _ _ rfl)
   refine gW ?_
   refine g_ret (q_c4' (n := 32) rfl rfl (by kernel_rfl) (hS.b 0 rfl) (Nat.le_of_eq l0.symm) rfl rfl ?_)
   exact h _ (hS.sel [] rfl rfl)
 ·rw [if_neg hj] at hcut
  have hm1 : Lib.indexByte s 126 = -1 := by omega
  rw [hm1]
  refine gW ?_
  refine g_cl rfl rfl (r_Check4 (s := s) fun w1 h' => ?_)
  replace hS := hS.call0.2 _ _ h'
  rw [List.append_nil] at hS
  by_cases hN : nmE s = 0
  ·rw [fine (by rw [hcut]; exact hN) (fun h1 => by rw [hcut] at h1; cases h1), hcut] at h
   rw [hN]
   refine gW ?_
   refine g_ef0 rfl (ef_st (u := .agg ⟨bys zid⟩) hS 0 rfl rfl rfl l0 (Nat.le_of_eq l0.symm) (by decide) fun w1 hS => ?_)
   replace hS := hS.ceq (l' := bys zid) 0 rfl (spl_full _ _ rfl)
   refine gW ?_
   refine g_ret (q_c4' (n := 32) rfl rfl (by kernel_rfl) (hS.b 0 rfl) (Nat.le_of_eq l0.symm) rfl rfl ?_)
   exact h _ (hS.sel [] rfl rfl)
  ·rw [err (.inl (by rw [hcut]; exact hN))] at h
   rw [nm40 _ hN]
   refine gW ?_
   refine g_ef0 rfl (ef_st (u := .agg ⟨bys zid⟩) hS 0 rfl rfl rfl l0 (Nat.le_of_eq l0.symm) (by decide) fun w1 hS => ?_)
   replace hS := hS.ceq (l' := bys zid) 0 rfl (spl_full _ _ rfl)
   refine gW ?_
   refine g_ret (q_c4' (n := 32) rfl rfl (by kernel_rfl) (hS.b 0 rfl) (Nat.le_of_eq l0.symm) rfl rfl ?_)
   exact h _ (hS.sel [] rfl rfl)
def oneR (x : Li) : Bs × Bool × Int := if (ent x).2.2 = true then ((ent x).1, (ent x).2.1, 0) else ([], false, 200)
theorem r_one {x : Li} (hx : x.1.length ≤ 4294967280) (h : ∀ w', St w (fun _ => False) w' [] → K (.tuple ⟨[sv (oneR x).1, .bool (oneR x).2.1, .int .i64 (oneR x).2.2]⟩) w') : CK Tryz.prog 143 [.agg ⟨lc x⟩] w K := by
 have hS := St.nil w (fun _ => False)
 have l0 : (bys zid).length = 32 := by rw [bys_length, zid_len]
 have l1 : (bys (spN x.1).2.1).length = 32 := by rw [bys_length, spN_len]
 have l2 : (bys x.2.1).length = 32 := ic_len x.2
 have d2 : ((lc x).drop (0 + 1)).take 32 = bys x.2.1 := by
  show (bys x.2.1).take 32 = _
  rw [List.take_of_length_le (Nat.le_of_eq l2)]
 refine call_k Tryz.func143 k143 Tryz.ntmps143 (Nat.le_of_ble_eq_true rfl) ?_
 refine gW ?_
 refine g_ef rfl (ef_bx hS rfl fun b1 w1 hS => ?_)
 replace hS : St w (fun _ => False) w1 [cel b1 (lc x) 59] := hS
 refine gW ?_
 refine g_l1 rfl rfl (hS.b  0 rfl) rfl ?_
 refine g_cl rfl rfl (r_Split (s := x.1) (fun w1 h' => ?_) hx)
 replace hS := hS.call0.2 _ _ h'
 rw [List.append_nil] at hS
 refine gW ?_
 refine g_ef rfl (ef_al hS fun b6 w1 hS => ?_)
 replace hS : St w (fun _ => False) w1 [cel b1 (lc x) 59, cel b6 (bys zid) 38] := hS
 refine gW ?_
 refine g_ef0 rfl (ef_st (u := .agg ⟨bys (spN x.1).2.1⟩) hS 1 rfl rfl rfl l1 (Nat.le_of_eq l0.symm) (bys_one _) fun w1 hS => ?_)
 replace hS := hS.ceq (l' := bys (spN x.1).2.1) 1 rfl (spl_full _ _ (l1.trans l0.symm))
 refine gW ?_
 have hent : ent x = ((spN x.1).1, (spN x.1).2.2.1, decide ((spN x.1).2.2.2 = 0) && (!(spN x.1).2.2.1 || decide ((spN x.1).2.1 = x.2.1))) := rfl
 by_cases he : (spN x.1).2.2.2 = 0
 ·rw [show cmv BinOp.neq (spN x.1).2.2.2 0 = false by simp [cmv, he]]
  rw [he, decide_eq_true rfl, Bool.true_and] at hent
  cases hc : (spN x.1).2.2.1
  ·rw [hc] at hent
   have ho : oneR x = ((spN x.1).1, false, 0) := by unfold oneR; rw [hent]; rfl
   rw [ho] at h
   refine gW ?_
   exact g_ret (q_3 rfl rfl rfl (h _ (hS.sel [] rfl rfl)))
  ·rw [hc] at hent
   refine gW ?_
   refine g_lm rfl rfl (hS.b 1 rfl) (Nat.le_of_eq l1.symm) ?_
   refine gW ?_
   refine g_lm rfl rfl (hS.b 0 rfl) (by rw [lc_len]; decide) ?_
   rw [List.drop_zero, List.take_of_length_le (Nat.le_of_eq l1), d2]
   refine g_aq (spN x.1).2.1 x.2.1 rfl rfl rfl (spN_len _) x.2.2 ?_
   cases hq : decide ((spN x.1).2.1 = x.2.1)
   ·rw [show aqv .neq (spN x.1).2.1 x.2.1 = true by simp only [aqv]; rw [hq]; rfl]
    rw [hq] at hent
    have ho : oneR x = ([], false, 200) := by unfold oneR; rw [hent]; rfl
    rw [ho] at h
    refine gW ?_
    exact g_ret (q_3 rfl rfl rfl (h _ (hS.sel [] rfl rfl)))
   ·rw [show aqv .neq (spN x.1).2.1 x.2.1 = false by simp only [aqv]; rw [hq]; rfl]
    rw [hq] at hent
    have ho : oneR x = ((spN x.1).1, true, 0) := by unfold oneR; rw [hent]; rfl
    rw [ho] at h
    refine gW ?_
    exact g_ret (q_3 rfl rfl rfl (h _ (hS.sel [] rfl rfl)))
 ·rw [show cmv BinOp.neq (spN x.1).2.2.2 0 = true by simp [cmv, he]]
  rw [decide_eq_false he, Bool.false_and] at hent
  have ho : oneR x = ([], false, 200) := by unfold oneR; rw [hent]; rfl
  rw [ho] at h
  cases hc : (spN x.1).2.2.1
  ·refine gW ?_
   exact g_ret (q_3 rfl rfl rfl (h _ (hS.sel [] rfl rfl)))
  ·refine gW ?_
   exact g_ret (q_3 rfl rfl rfl (h _ (hS.sel [] rfl rfl)))
end
theorem nbr_trans {x y z : Li} (h : nbr x y) (k : nbr y z) : nbr x z := by
 refine ⟨ble_trans h.1 k.1, fun e => ?_⟩
 have h1 := h.1
 rw [e] at h1
 exact k.2 (ble_anti k.1 h1).symm.symm
theorem take_nbr {d : List Li} {k : Nat} (hp : (d.take k).Pairwise nbr) (hk : k < d.length) (h : ∀ h0 : 0 < k, nbr (d[k - 1]'(by omega)) d[k]) : (d.take (k + 1)).Pairwise nbr := by
 rw [List.take_succ_eq_append_getElem hk, List.pairwise_append]
 refine ⟨hp, List.pairwise_singleton _ _, fun x hx y hy => ?_⟩
 rw [List.mem_singleton.1 hy]
 obtain ⟨i, hi, rfl⟩ := List.mem_take_iff_getElem.1 hx
 have h0 : 0 < k := by omega
 by_cases e : i = k - 1
 ·subst e; exact h h0
 ·refine nbr_trans ?_ (h h0)
  have h1 := List.pairwise_iff_getElem.1 hp i (k - 1) (by rw [List.length_take]; omega) (by rw [List.length_take]; omega) (by omega)
  rw [List.getElem_take, List.getElem_take] at h1
  exact h1
theorem nbr_lt (x y : Li) : nbr x y ↔ Lib.compareBytes x.1 y.1 < 0 := by
 unfold nbr ble
 rw [decide_eq_true_eq]
 constructor
 ·rintro ⟨h1, h2⟩
  have : Lib.compareBytes x.1 y.1 ≠ 0 := fun e => h2 (cb_zero e)
  omega
 ·intro h
  refine ⟨by omega, fun e => ?_⟩
  rw [e, cb_self] at h
  omega
theorem chk_of {d : List Li} (h1 : d.Pairwise nbr) (h2 : ∀ x ∈ d, (ent x).2.2 = true) (h3 : ∀ x ∈ d, ∀ y ∈ d, (ent x).1 = (ent y).1 → (ent x).2.1 = (ent y).2.1) : chk d = true := by
 unfold chk
 simp only [Bool.and_eq_true, List.all_eq_true, Bool.or_eq_true, Bool.not_eq_true', decide_eq_true_eq]
 refine ⟨h1, h2, fun x hx => ?_⟩
 cases hc : (ent x).2.1
 ·exact .inl rfl
 ·refine .inr fun y hy => ?_
  by_cases e : (ent y).1 = (ent x).1
  ·left
   rw [h3 y hy x hx e, hc]
  ·exact .inr e
theorem chk_conf2 {d : List Li} (h : chk d = true) {x y : Li} (hx : x ∈ d) (hy : y ∈ d) (e : (ent x).1 = (ent y).1) : (ent x).2.1 = (ent y).2.1 := by
 unfold chk at h
 simp only [Bool.and_eq_true, List.all_eq_true, Bool.or_eq_true, Bool.not_eq_true', decide_eq_true_eq] at h
 have h3 := h.2.2
 have key : ∀ x ∈ d, ∀ y ∈ d, (ent x).1 = (ent y).1 → (ent x).2.1 = true → (ent y).2.1 = true := fun x hx y hy e hc => by
  rcases h3 x hx with h4 | h4
  ·rw [hc] at h4; cases h4
  ·rcases h4 y hy with h5 | h5
   ·exact h5
   ·exact absurd e.symm h5
 cases h1 : (ent x).2.1
 ·cases h2 : (ent y).2.1
  ·rfl
  ·rw [key y hy x hx e.symm h2] at h1; cases h1
 ·exact (key x hx y hy e h1).symm
theorem oneR_ok {x : Li} (h : (ent x).2.2 = true) : oneR x = ((ent x).1, (ent x).2.1, 0) := by unfold oneR; rw [if_pos h]
theorem oneR_no {x : Li} (h : (ent x).2.2 = false) : oneR x = ([], false, 200) := by unfold oneR; rw [if_neg (by rw [h]; decide)]
section
variable {w w0 : World} {S0 : Nat → Prop} {L B : List Res} {K : Value → World → Prop} {s : Bs} {E0 E1 : Nat}
set_option maxHeartbeats 4000000 in
theorem r_Check20 {d : List Li} {v : Value} {n : Nat} (hd : d.length = n) (hn : n < 2000000) (hlen : ∀ x ∈ d, x.1.length < 4294967281) (hr : Rd v E0 33 n (fl lc d) w) (h : ∀ w', St w (fun _ => False) w' [] → K (.int .i64 (eE d)) w') : CK Tryz.prog 108 [v] w K := by
 have hS := St.nil w (fun _ => False)
 have hrr : ∀ {L : List Res} (w' : World), St w (fun _ => False) w' L → Rd v E0 33 n (fl lc d) w' := fun w' hS => hr.same fun b hb => hS.fr.kept b (hr.lt b hb) (fun h => h)
 have bad : chk d = false → ∀ w', St w (fun _ => False) w' [] → K (.int .i64 200) w' := fun e w' hS => by
  have e1 : eE d = 200 := by unfold eE; rw [if_neg (by rw [e]; decide)]
  rw [e1] at h
  exact h w' hS
 obtain ⟨a, c, rfl⟩ := hr.form
 refine call_k Tryz.func108 k108 Tryz.ntmps108 (Nat.le_of_ble_eq_true rfl) ?_
 refine gW ?_
 refine g_lp (ι := Nat) (fun k => [(0, .slice a n c), (3, .int .i64 k)]) (fun k w' => k ≤ n ∧ (d.take k).Pairwise nbr ∧ (∀ j (hj : j < d.length), j < k → (ent d[j]).2.2 = true) ∧ (∀ i j (hi : i < d.length) (hj : j < d.length), i < k → j < k → (ent d[i]).1 = (ent d[j]).1 → (ent d[i]).2.1 = (ent d[j]).2.1) ∧ St w (fun _ => False) w' []) (fun k => n - k) 0
  ⟨rfl, rfl, trivial⟩ ⟨Nat.zero_le _, List.Pairwise.nil, fun j _ h => absurd h (Nat.not_lt_zero j), fun i j _ _ h => absurd h (Nat.not_lt_zero i), hS⟩ ?_
 clear hS
 rintro k w1 ⟨hk, hA, hB, hC, hS⟩
 refine gW ?_
 (refine g_cd rfl (fun hlt => ?_) (fun hlt => ?_) <;> simp only [cmv, arv, Bool.not_eq_true', Bool.not_eq_false', decide_eq_true_eq, decide_eq_false_iff_not] at hlt)
 ·have hlt : k < d.length := by omega
  obtain ⟨b, off, cap, l, e1, hcap, hl, hx, hb⟩ := Rd.block (hrr _ hS) (by omega)
  cases e1
  have hbd : off + k * 33 + 33 ≤ l.length := by have : (k + 1) * 33 ≤ c * 33 := Nat.mul_le_mul_right 33 (by omega); omega
  refine gW ?_
  refine g_rq rfl rfl ⟨by omega, by omega⟩ ?_
  refine g_lmr rfl rfl hb (by rw [Int.toNat_natCast]; exact hbd) ?_
  rw [Int.toNat_natCast, rd_at lc_len hx hd hlt]
  refine g_cl rfl rfl (r_one (x := d[k]) (by have := hlen _ (List.getElem_mem hlt); omega) fun w1 h' => ?_)
  replace hS := hS.call0.2 _ _ h'
  rw [List.append_nil] at hS
  cases hik : (ent d[k]).2.2
  ·rw [oneR_no hik]
   refine gW ?_
   refine g_dr mixed ?_
   replace hS := hS.drew
   refine gD ?_
   refine d_fin ?_
   refine gW ?_
   exact g_ret (q_1 rfl (bad (bad_is hlt hik) _ hS))
  ·rw [oneR_ok hik]
   refine gW ?_
   refine g_atx (ι := Unit) 2 (fun _ => [(0, .slice (some ⟨b, off, none⟩) n c), (3, .int .i64 k), (4, sv (ent d[k]).1), (5, .bool (ent d[k]).2.1)]) (fun _ w' => (∀ h0 : 0 < k, nbr (d[k - 1]'(by omega)) d[k]) ∧ St w (fun _ => False) w' []) rfl ?_ ?_
   ·refine g_dr mixed ?_
    replace hS := hS.drew
    refine gD ?_
    (generalize q1 : cmv _ _ _ = q; cases q <;> simp only [cmv, arv, Bool.not_eq_true', Bool.not_eq_false', decide_eq_true_eq, decide_eq_false_iff_not] at q1 <;> first | (exfalso; omega) | skip)
    ·refine gD ?_
     refine d_fin ?_
     refine gW ?_
     exact g_jx () ⟨rfl, rfl, rfl, rfl, trivial⟩ ⟨fun h0 => by omega, hS⟩
    ·obtain ⟨b3, off3, cap3, l3, e3, hcap3, hl3, hx3, hb3⟩ := Rd.block (hrr _ hS) (by omega)
     cases e3
     have ek1 : (arv BinOp.sub (k : Int) 1) = ((k - 1 : Nat) : Int) := by simp only [arv]; omega
     refine gD ?_
     refine d_rq rfl rfl rfl (in64 (by rw [ek1]; omega)) ?_
     rw [ek1]
     refine d_rq rfl rfl rfl ⟨by omega, by omega⟩ ?_
     refine gD ?_
     refine d_l1r rfl rfl rfl hb3 (by rw [Int.toNat_natCast]; exact rd_at0 (c := c) hx3 hd (show k - 1 < d.length by omega)) ?_
     refine gD ?_
     refine d_rq rfl rfl rfl ⟨by omega, by omega⟩ ?_
     refine gD ?_
     refine d_l1r rfl rfl rfl hb3 (by rw [Int.toNat_natCast]; exact rd_at0 (c := c) hx3 hd hlt) ?_
     refine gD ?_
     refine d_fin ?_
     have hsc : scv .geq (⟨(d[k - 1]'(by omega)).1.toArray⟩ : ByteArray).data.toList (⟨d[k].1.toArray⟩ : ByteArray).data.toList = !decide (Lib.compareBytes (d[k - 1]'(by omega)).1 d[k].1 < 0) := by
      show (!Op.bytesLess _ _) = _
      rw [bless_eq]
     rw [hsc]
     by_cases hlc : Lib.compareBytes (d[k - 1]'(by omega)).1 d[k].1 < 0
     ·rw [decide_eq_true hlc]
      refine gW ?_
      exact g_jx () ⟨rfl, rfl, rfl, rfl, trivial⟩ ⟨fun _ => (nbr_lt _ _).2 hlc, hS⟩
     ·rw [decide_eq_false hlc]
      refine gW ?_
      refine g_ret (q_1 rfl (bad ?_ _ hS))
      cases hq : chk d
      ·rfl
      ·have := List.pairwise_iff_getElem.1 (chk_nbr hq) (k - 1) k (by omega) hlt (by omega)
       exact absurd ((nbr_lt _ _).1 this) hlc
   ·clear hS
    rintro _ T w1 hT ⟨hN, hS⟩
    refine g_wkc hT ?_
    refine gW ?_
    refine g_lp (ι := Nat) (fun i => [(0, .slice (some ⟨b, off, none⟩) n c), (3, .int .i64 k), (4, sv (ent d[k]).1), (5, .bool (ent d[k]).2.1), (7, .int .i64 i)]) (fun i w' => i ≤ k ∧ (∀ j (hj : j < d.length), j < i → (ent d[j]).1 = (ent d[k]).1 → (ent d[j]).2.1 = (ent d[k]).2.1) ∧ St w (fun _ => False) w' []) (fun i => k - i) 0
     ⟨rfl, rfl, rfl, rfl, rfl, trivial⟩ ⟨Nat.zero_le _, fun j _ h => absurd h (Nat.not_lt_zero j), hS⟩ ?_
    clear hS
    rintro i w1 ⟨hi, hE, hS⟩
    refine gW ?_
    (refine g_cd rfl (fun hli => ?_) (fun hli => ?_) <;> simp only [cmv, arv, Bool.not_eq_true', Bool.not_eq_false', decide_eq_true_eq, decide_eq_false_iff_not] at hli)
    ·have hli : i < d.length := by omega
     obtain ⟨b3, off3, cap3, l3, e3, hcap3, hl3, hx3, hb3⟩ := Rd.block (hrr _ hS) (by omega)
     cases e3
     have hbd3 : off + i * 33 + 33 ≤ l3.length := by have : (i + 1) * 33 ≤ c * 33 := Nat.mul_le_mul_right 33 (by omega); omega
     refine gW ?_
     refine g_rq rfl rfl ⟨by omega, by omega⟩ ?_
     refine g_lmr rfl rfl hb3 (by rw [Int.toNat_natCast]; exact hbd3) ?_
     rw [Int.toNat_natCast, rd_at lc_len hx3 hd hli]
     refine g_cl rfl rfl (r_one (x := d[i]) (by have := hlen _ (List.getElem_mem hli); omega) fun w1 h' => ?_)
     replace hS := hS.call0.2 _ _ h'
     rw [List.append_nil] at hS
     rw [oneR_ok (hB i hli (by omega))]
     refine gW ?_
     have next : ((ent d[i]).1 = (ent d[k]).1 → (ent d[i]).2.1 = (ent d[k]).2.1) → ∀ j (hj : j < d.length), j < i + 1 → (ent d[j]).1 = (ent d[k]).1 → (ent d[j]).2.1 = (ent d[k]).2.1 := fun h0 j hj hji => by
      by_cases e : j = i
      ·subst e; exact h0
      ·exact hE j hj (by omega)
     generalize hq : decide ((⟨(ent d[i]).1.toArray⟩ : ByteArray).data.toList = (⟨(ent d[k]).1.toArray⟩ : ByteArray).data.toList) = q
     have hq2 : decide ((ent d[i]).1 = (ent d[k]).1) = q := hq
     cases q
     ·refine gW ?_
      refine g_rq rfl rfl (in64 (by simp only [arv]; omega)) ?_
      refine gW ?_
      exact g_l (i + 1) ⟨rfl, rfl, rfl, rfl, rfl, trivial⟩ ⟨by omega, next (fun e => absurd e (of_decide_eq_false hq2)), hS⟩ (by omega)
     ·have hre := of_decide_eq_true hq2
      by_cases hcf : (ent d[i]).2.1 = (ent d[k]).2.1
      ·refine gW ?_
       rw [show (!((ent d[k]).2.1 == (ent d[i]).2.1)) = false by rw [hcf]; simp]
       refine gW ?_
       refine g_rq rfl rfl (in64 (by simp only [arv]; omega)) ?_
       refine gW ?_
       exact g_l (i + 1) ⟨rfl, rfl, rfl, rfl, rfl, trivial⟩ ⟨by omega, next (fun _ => hcf), hS⟩ (by omega)
      ·refine gW ?_
       rw [show (!((ent d[k]).2.1 == (ent d[i]).2.1)) = true by
        cases h1 : (ent d[k]).2.1 <;> cases h2 : (ent d[i]).2.1 <;> simp_all]
       refine gW ?_
       refine g_ret (q_1 rfl (bad ?_ _ hS))
       cases hq : chk d
       ·rfl
       ·exact absurd (chk_conf2 hq (List.getElem_mem hli) (List.getElem_mem hlt) hre) hcf
    ·refine gW ?_
     refine g_rq rfl rfl (in64 (by simp only [arv]; omega)) ?_
     refine gW ?_
     refine g_l (k + 1) ⟨rfl, rfl, trivial⟩ ⟨by omega, take_nbr hA hlt hN, fun j hj hjk => ?_, fun i2 j2 hi2 hj2 hik2 hjk2 e => ?_, hS⟩ (by omega)
     ·by_cases e : j = k
      ·subst e; exact hik
      ·exact hB j hj (by omega)
     ·by_cases e1 : i2 = k
      ·by_cases e2 : j2 = k
       ·subst e1; subst e2; rfl
       ·subst e1
        exact (hE j2 hj2 (by omega) e.symm).symm
      ·by_cases e2 : j2 = k
       ·subst e2
        exact hE i2 hi2 (by omega) e
       ·exact hC i2 j2 hi2 hj2 (by omega) (by omega) e
 ·have ek : k = n := by omega
  subst ek
  rw [List.take_of_length_le (by omega)] at hA
  have hck : chk d = true := chk_of hA (fun x hx => by
   obtain ⟨j, hj, rfl⟩ := List.getElem_of_mem hx
   exact hB j hj (by omega)) fun x hx y hy e => by
   obtain ⟨i, hi, rfl⟩ := List.getElem_of_mem hx
   obtain ⟨j, hj, rfl⟩ := List.getElem_of_mem hy
   exact hC i j hi hj (by omega) (by omega) e
  have e1 : eE d = 0 := by unfold eE; rw [if_pos hck]
  rw [e1] at h
  refine gW ?_
  exact g_ret (q_1 rfl (h _ hS))
end
theorem lc_fits (x : Li) : Fits ([.s] ++ List.replicate 32 (.i .u8)) (lc x) := by
 have := fits_bys x.2.1
 rw [x.2.2] at this
 exact ⟨⟨_, rfl⟩, this⟩
theorem bys_inj : ∀ {a b : Bs}, bys a = bys b → a = b
 | [], [], _ => rfl
 | [], _ :: _, h => by simp [bys] at h
 | _ :: _, [], h => by simp [bys] at h
 | x :: a, y :: b, h => by
  have h1 : bys a = bys b := by simpa [bys] using (List.cons.inj h).2
  have h2 : (x.toNat : Int) = (y.toNat : Int) := by
   have := (List.cons.inj h).1
   simp only [Value.int.injEq, true_and] at this
   exact this
  rw [bys_inj h1, UInt8.toNat_inj.1 (Int.ofNat.inj h2)]
theorem lc_inj {x y : Li} (h : lc x = lc y) : x = y := by
 unfold lc at h
 rw [List.cons.injEq] at h
 exact Prod.ext (sv_inj h.1) (id_inj _ _ (bys_inj h.2))
section
variable {w w0 : World} {S0 : Nat → Prop} {L B : List Res} {K : Value → World → Prop} {s : Bs} {E0 E1 : Nat}
theorem r_Same {d e : List Li} {v u : Value} {n m : Nat} (hd : d.length = n) (he : e.length = m) (hn : n < 2000000) (hm : m < 2000000) (hr : Rd v E0 33 n (fl lc d) w) (hu : Rd u E1 33 m (fl lc e) w) (h : ∀ w', St w (fun _ => False) w' [] → K (.bool (decide (d = e))) w') : CK Tryz.prog 35 [v, u] w K := by
 have hS := St.nil w (fun _ => False)
 have hrr : ∀ {L : List Res} (w' : World), St w (fun _ => False) w' L → Rd v E0 33 n (fl lc d) w' := fun w' hS => hr.same fun b hb => hS.fr.kept b (hr.lt b hb) (fun h => h)
 have huu : ∀ {L : List Res} (w' : World), St w (fun _ => False) w' L → Rd u E1 33 m (fl lc e) w' := fun w' hS => hu.same fun b hb => hS.fr.kept b (hu.lt b hb) (fun h => h)
 obtain ⟨a, c, rfl⟩ := hr.form
 obtain ⟨a2, c2, rfl⟩ := hu.form
 refine call_k Tryz.func35 k35 Tryz.ntmps35 (Nat.le_of_ble_eq_true rfl) ?_
 refine gW ?_
 (refine g_cd rfl (fun hc => ?_) (fun hc => ?_) <;> simp only [cmv, arv, Bool.not_eq_true', Bool.not_eq_false', decide_eq_true_eq, decide_eq_false_iff_not] at hc)
 ·have e1 : decide (d = e) = false := decide_eq_false fun h1 => hc (by rw [← hd, ← he, h1])
  rw [e1] at h
  refine gW ?_
  exact g_ret (q_1 rfl (h _ hS))
 ·have hnm : n = m := by omega
  subst hnm
  refine gW ?_
  refine g_lp (ι := Nat) (fun k => [(0, .slice a n c), (1, .slice a2 n c2), (5, .int .i64 k)]) (fun k w' => k ≤ n ∧ d.take k = e.take k ∧ St w (fun _ => False) w' []) (fun k => n - k) 0 ⟨rfl, rfl, rfl, trivial⟩ ⟨Nat.zero_le _, rfl, hS⟩ ?_
  clear hS
  rintro k w1 ⟨hk, hP, hS⟩
  refine gW ?_
  (refine g_cd rfl (fun hlt => ?_) (fun hlt => ?_) <;> simp only [cmv, arv, Bool.not_eq_true', Bool.not_eq_false', decide_eq_true_eq, decide_eq_false_iff_not] at hlt)
  ·have hlt : k < n := by omega
   obtain ⟨b1, off, cap, l, e1, hcap, hl, hx, hb⟩ := Rd.block (hrr _ hS.drew) (by omega)
   cases e1
   obtain ⟨b3, off3, cap3, l3, e3, hcap3, hl3, hx3, hb3⟩ := Rd.block (huu _ hS.drew) (by omega)
   cases e3
   have hbd : off + k * 33 + 33 ≤ l.length := by have : (k + 1) * 33 ≤ c * 33 := Nat.mul_le_mul_right 33 (by omega); omega
   have hbd3 : off3 + k * 33 + 33 ≤ l3.length := by have : (k + 1) * 33 ≤ c2 * 33 := Nat.mul_le_mul_right 33 (by omega); omega
   refine gW ?_
   refine g_dr mixed ?_
   replace hS := hS.drew
   refine gD ?_
   refine d_rq rfl rfl rfl ⟨by omega, by omega⟩ ?_
   refine d_qt rfl rfl rfl (qt_ldmr rfl hb hbd) ?_
   rw [Int.toNat_natCast, rd_at lc_len hx hd (show k < d.length by omega)]
   refine gD ?_
   refine d_rq rfl rfl rfl ⟨by omega, by omega⟩ ?_
   refine d_qt rfl rfl rfl (qt_ldmr rfl hb3 hbd3) ?_
   rw [Int.toNat_natCast, rd_at lc_len hx3 he (show k < e.length by omega)]
   refine d_qt rfl rfl rfl (qt_eqd (a := lc (d[k]'(by omega))) (b := lc (e[k]'(by omega))) rfl rfl (lc_fits _) (lc_fits _)) ?_
   refine d_fin ?_
   have e5 : eqdv .neq (deqv (lc (d[k]'(by omega))) (lc (e[k]'(by omega)))) = !decide (d[k]'(by omega) = e[k]'(by omega)) := by
    show (!deqv _ _) = _
    rw [deqv_eq (q := decide (d[k]'(by omega) = e[k]'(by omega))) (by rw [decide_eq_true_eq]; exact ⟨fun h => by rw [h], lc_inj⟩)]
   rw [e5]
   cases hde : decide (d[k]'(by omega) = e[k]'(by omega))
   ·have e1 : decide (d = e) = false := decide_eq_false fun h1 => by
     subst h1
     simp at hde
    rw [e1] at h
    refine gW ?_
    exact g_ret (q_1 rfl (h _ hS))
   ·rw [decide_eq_true_eq] at hde
    refine gW ?_
    refine g_rq rfl rfl (in64 (by simp only [arv]; omega)) ?_
    refine gW ?_
    refine g_l (k + 1) ⟨rfl, rfl, rfl, trivial⟩ ⟨by omega, ?_, hS⟩ (by omega)
    rw [List.take_succ_eq_append_getElem (by omega), List.take_succ_eq_append_getElem (by omega), hP, hde]
  ·have e1 : decide (d = e) = true := decide_eq_true (by rw [← List.take_of_length_le (l := d) (i := k) (by omega), hP, List.take_of_length_le (by omega)])
   rw [e1] at h
   refine gW ?_
   exact g_ret (q_1 rfl (h _ hS))
theorem r_SameI {d e : List Id} {v u : Value} {n m : Nat} (hd : d.length = n) (he : e.length = m) (hn : n < 2000000) (hm : m < 2000000) (hr : Rd v E0 32 n (fl ic d) w) (hu : Rd u E1 32 m (fl ic e) w) (h : ∀ w', St w (fun _ => False) w' [] → K (.bool (decide (d = e))) w') : CK Tryz.prog 14 [v, u] w K := by
 have hS := St.nil w (fun _ => False)
 have hrr : ∀ {L : List Res} (w' : World), St w (fun _ => False) w' L → Rd v E0 32 n (fl ic d) w' := fun w' hS => hr.same fun b hb => hS.fr.kept b (hr.lt b hb) (fun h => h)
 have huu : ∀ {L : List Res} (w' : World), St w (fun _ => False) w' L → Rd u E1 32 m (fl ic e) w' := fun w' hS => hu.same fun b hb => hS.fr.kept b (hu.lt b hb) (fun h => h)
 obtain ⟨a, c, rfl⟩ := hr.form
 obtain ⟨a2, c2, rfl⟩ := hu.form
 refine call_k Tryz.func14 k14 Tryz.ntmps14 (Nat.le_of_ble_eq_true rfl) ?_
 refine gW ?_
 (refine g_cd rfl (fun hc => ?_) (fun hc => ?_) <;> simp only [cmv, arv, Bool.not_eq_true', Bool.not_eq_false', decide_eq_true_eq, decide_eq_false_iff_not] at hc)
 ·have e1 : decide (d = e) = false := decide_eq_false fun h1 => hc (by rw [← hd, ← he, h1])
  rw [e1] at h
  refine gW ?_
  exact g_ret (q_1 rfl (h _ hS))
 ·have hnm : n = m := by omega
  subst hnm
  refine gW ?_
  refine g_lp (ι := Nat) (fun k => [(0, .slice a n c), (1, .slice a2 n c2), (5, .int .i64 k)]) (fun k w' => k ≤ n ∧ d.take k = e.take k ∧ St w (fun _ => False) w' []) (fun k => n - k) 0 ⟨rfl, rfl, rfl, trivial⟩ ⟨Nat.zero_le _, rfl, hS⟩ ?_
  clear hS
  rintro k w1 ⟨hk, hP, hS⟩
  refine gW ?_
  (refine g_cd rfl (fun hlt => ?_) (fun hlt => ?_) <;> simp only [cmv, arv, Bool.not_eq_true', Bool.not_eq_false', decide_eq_true_eq, decide_eq_false_iff_not] at hlt)
  ·have hlt : k < n := by omega
   obtain ⟨b1, off, cap, l, e1, hcap, hl, hx, hb⟩ := Rd.block (hrr _ hS.drew) (by omega)
   cases e1
   obtain ⟨b3, off3, cap3, l3, e3, hcap3, hl3, hx3, hb3⟩ := Rd.block (huu _ hS.drew) (by omega)
   cases e3
   have hbd : off + k * 32 + 32 ≤ l.length := by have : (k + 1) * 32 ≤ c * 32 := Nat.mul_le_mul_right 32 (by omega); omega
   have hbd3 : off3 + k * 32 + 32 ≤ l3.length := by have : (k + 1) * 32 ≤ c2 * 32 := Nat.mul_le_mul_right 32 (by omega); omega
   refine gW ?_
   refine g_dr mixed ?_
   replace hS := hS.drew
   refine gD ?_
   refine d_rq rfl rfl rfl ⟨by omega, by omega⟩ ?_
   refine d_qt rfl rfl rfl (qt_ldmr rfl hb hbd) ?_
   rw [Int.toNat_natCast, rd_at ic_len hx hd (show k < d.length by omega)]
   refine gD ?_
   refine d_rq rfl rfl rfl ⟨by omega, by omega⟩ ?_
   refine d_qt rfl rfl rfl (qt_ldmr rfl hb3 hbd3) ?_
   rw [Int.toNat_natCast, rd_at ic_len hx3 he (show k < e.length by omega)]
   refine d_qt rfl rfl rfl (qt_aq (a := (d[k]'(by omega)).1) (b := (e[k]'(by omega)).1) rfl rfl (d[k]'(by omega)).2 (e[k]'(by omega)).2) ?_
   refine d_fin ?_
   have e5 : aqv .neq (d[k]'(by omega)).1 (e[k]'(by omega)).1 = !decide (d[k]'(by omega) = e[k]'(by omega)) := by
    show (!decide _) = _
    rw [decide_eq_decide.2 (⟨fun h => Subtype.ext h, fun h => by rw [h]⟩ : (d[k]'(by omega)).1 = (e[k]'(by omega)).1 ↔ d[k]'(by omega) = e[k]'(by omega))]
   rw [e5]
   cases hde : decide (d[k]'(by omega) = e[k]'(by omega))
   ·have e1 : decide (d = e) = false := decide_eq_false fun h1 => by
     subst h1
     simp at hde
    rw [e1] at h
    refine gW ?_
    exact g_ret (q_1 rfl (h _ hS))
   ·rw [decide_eq_true_eq] at hde
    refine gW ?_
    refine g_rq rfl rfl (in64 (by simp only [arv]; omega)) ?_
    refine gW ?_
    refine g_l (k + 1) ⟨rfl, rfl, rfl, trivial⟩ ⟨by omega, ?_, hS⟩ (by omega)
    rw [List.take_succ_eq_append_getElem (by omega), List.take_succ_eq_append_getElem (by omega), hP, hde]
  ·have e1 : decide (d = e) = true := decide_eq_true (by rw [← List.take_of_length_le (l := d) (i := k) (by omega), hP, List.take_of_length_le (by omega)])
   rw [e1] at h
   refine gW ?_
   exact g_ret (q_1 rfl (h _ hS))
end
theorem eE_no {d : List Li} (h : chk d = false) : eE d = 200 := by unfold eE; rw [if_neg (by rw [h]; decide)]
theorem eE_ok {d : List Li} (h : chk d = true) : eE d = 0 := by unfold eE; rw [if_pos h]
theorem dec_sv (a b : Bs) : decide ((⟨a.toArray⟩ : ByteArray).data.toList = (⟨b.toArray⟩ : ByteArray).data.toList) = decide (a = b) := rfl
theorem ble_of {a b : Bs} (h : ¬ Lib.compareBytes a b < 0) : ble b a = true := by
 unfold ble
 rw [decide_eq_true_eq]
 have := cb_neg a b
 omega
theorem in_srt {o : List Li} {x : Li} {j : Nat} (ho : o.Pairwise fun x y => ble x.1 y.1 = true) (h1 : ∀ i (hi : i < o.length), i < j → ble o[i].1 x.1 = true) (h2 : ∀ hj : j < o.length, ¬ ble o[j].1 x.1 = true) :
  (insAt o j x).Pairwise fun x y => ble x.1 y.1 = true := by
 refine insAt_pw ho (fun a ha => ?_) (fun b hb => ?_)
 ·obtain ⟨i, hi, e⟩ := List.mem_take_iff_getElem.1 ha
  have h3 := h1 i (by omega) (by omega)
  rw [e] at h3
  exact h3
 ·obtain ⟨hj, hb2⟩ := drop_pw ho hb
  have h3 := h2 hj
  have hle : ble x.1 o[j].1 = true := by
   refine ble_of fun h4 => h3 ?_
   unfold ble
   rw [decide_eq_true_eq]
   omega
  rcases hb2 with rfl | hb2
  ·exact hle
  ·exact ble_trans hle hb2
section
variable {w w0 : World} {S0 : Nat → Prop} {L B : List Res} {K : Value → World → Prop} {s : Bs} {E0 E1 : Nat}
theorem r_Texts20 {d e : List Bs} {v u : Value} {n m : Nat} (hd : d.length = n) (he : e.length = m) (hn : n < 2000000) (hm : m < 2000000) (hr : Rd v E0 1 n (d.map sv) w) (hu : Rd u E1 1 m (e.map sv) w) (h : ∀ w', St w (fun _ => False) w' [] → K (.bool (decide (d = e))) w') : CK Tryz.prog 20 [v, u] w K := by
 have hS := St.nil w (fun _ => False)
 have hrr : ∀ {L : List Res} (w' : World), St w (fun _ => False) w' L → Rd v E0 1 n (d.map sv) w' := fun w' hS => hr.same fun b hb => hS.fr.kept b (hr.lt b hb) (fun h => h)
 have huu : ∀ {L : List Res} (w' : World), St w (fun _ => False) w' L → Rd u E1 1 m (e.map sv) w' := fun w' hS => hu.same fun b hb => hS.fr.kept b (hu.lt b hb) (fun h => h)
 obtain ⟨a, c, rfl⟩ := hr.form
 obtain ⟨a2, c2, rfl⟩ := hu.form
 refine call_k Tryz.func20 k20 Tryz.ntmps20 (Nat.le_of_ble_eq_true rfl) ?_
 refine gW ?_
 (refine g_cd rfl (fun hc => ?_) (fun hc => ?_) <;> simp only [cmv, arv, Bool.not_eq_true', Bool.not_eq_false', decide_eq_true_eq, decide_eq_false_iff_not] at hc)
 ·have e1 : decide (d = e) = false := decide_eq_false fun h1 => hc (by rw [← hd, ← he, h1])
  rw [e1] at h
  refine gW ?_
  exact g_ret (q_1 rfl (h _ hS))
 ·have hnm : n = m := by omega
  subst hnm
  refine gW ?_
  refine g_lp (ι := Nat) (fun k => [(0, .slice a n c), (1, .slice a2 n c2), (5, .int .i64 k)]) (fun k w' => k ≤ n ∧ d.take k = e.take k ∧ St w (fun _ => False) w' []) (fun k => n - k) 0 ⟨rfl, rfl, rfl, trivial⟩ ⟨Nat.zero_le _, rfl, hS⟩ ?_
  clear hS
  rintro k w1 ⟨hk, hP, hS⟩
  refine gW ?_
  (refine g_cd rfl (fun hlt => ?_) (fun hlt => ?_) <;> simp only [cmv, arv, Bool.not_eq_true', Bool.not_eq_false', decide_eq_true_eq, decide_eq_false_iff_not] at hlt)
  ·have hlt : k < n := by omega
   obtain ⟨b1, off, cap, l, e1, hcap, hl, hx, hb⟩ := Rd.block (hrr _ hS.drew) (by omega)
   cases e1
   obtain ⟨b3, off3, cap3, l3, e3, hcap3, hl3, hx3, hb3⟩ := Rd.block (huu _ hS.drew) (by omega)
   cases e3
   have hdm : (d.map sv).length = n := by rw [List.length_map]; exact hd
   have hem : (e.map sv).length = n := by rw [List.length_map]; exact he
   refine gW ?_
   refine g_dr mixed ?_
   replace hS := hS.drew
   refine gD ?_
   refine d_rq rfl rfl rfl ⟨by omega, by omega⟩ ?_
   refine d_l1r rfl rfl rfl hb (by rw [Int.toNat_natCast]; exact rd_x' hx hdm (by omega)) ?_
   rw [List.getElem_map]
   refine gD ?_
   refine d_rq rfl rfl rfl ⟨by omega, by omega⟩ ?_
   refine d_l1r rfl rfl rfl hb3 (by rw [Int.toNat_natCast]; exact rd_x' hx3 hem (by omega)) ?_
   rw [List.getElem_map]
   refine gD ?_
   refine d_fin ?_
   generalize hde : decide ((⟨(d[k]'(by omega)).toArray⟩ : ByteArray).data.toList = (⟨(e[k]'(by omega)).toArray⟩ : ByteArray).data.toList) = q
   rw [dec_sv] at hde
   cases q
   ·have e1 : decide (d = e) = false := decide_eq_false fun h1 => by
     subst h1
     simp at hde
    rw [e1] at h
    refine gW ?_
    exact g_ret (q_1 rfl (h _ hS))
   ·rw [decide_eq_true_eq] at hde
    refine gW ?_
    refine g_rq rfl rfl (in64 (by simp only [arv]; omega)) ?_
    refine gW ?_
    refine g_l (k + 1) ⟨rfl, rfl, rfl, trivial⟩ ⟨by omega, ?_, hS⟩ (by omega)
    rw [List.take_succ_eq_append_getElem (by omega), List.take_succ_eq_append_getElem (by omega), hP, hde]
  ·have e1 : decide (d = e) = true := decide_eq_true (by rw [← List.take_of_length_le (l := d) (i := k) (by omega), hP, List.take_of_length_le (by omega)])
   rw [e1] at h
   refine gW ?_
   exact g_ret (q_1 rfl (h _ hS))
set_option maxHeartbeats 4000000 in
theorem r_Join20 {v : Value} {n : Nat} {ps : List Lv1} (hd : ps.length = n) (hn : n < 2000000) (ht : (flat ps).length < 2000000) (hlen : ∀ x ∈ flat ps, x.1.length < 4294967281) (hr : Rd v E0 1 n (ps.map (·.1)) w) (hp : ∀ p ∈ ps, LvR w p)
  (h : ∀ v' w', St w (fun _ => False) w' [row v' 59 33 (jnL (ps.map (·.2))).length (fl lc (jnL (ps.map (·.2))))] → K (.tuple ⟨[v', .int .i64 (jnE (ps.map (·.2)))]⟩) w') : CK Tryz.prog 70 [v] w K := by
 have hS := St.nil w (fun _ => False)
 have hrr : ∀ {L : List Res} (w' : World), St w (fun _ => False) w' L → Rd v E0 1 n (ps.map (·.1)) w' := fun w' hS => hr.same fun b hb => hS.fr.kept b (hr.lt b hb) (fun h => h)
 have bad : joinS (ps.map (·.2)) = none → ∀ {L : List Res} w', St w (fun _ => False) w' L → K (.tuple ⟨[.slice none 0 0, .int .i64 200]⟩) w' := fun e {L} w' hS => by
  have e1 : jnE (ps.map (·.2)) = 200 := by unfold jnE; rw [e]; rfl
  have e2 : jnL (ps.map (·.2)) = [] := by unfold jnL; rw [e]; rfl
  rw [e1, e2] at h
  exact h _ _ ((hS.sel [] rfl rfl).nilrow 59 33)
 have hfl : (ps.map (·.2)).flatten = flat ps := rfl
 have hpm1 : (ps.map (·.1)).length = n := by rw [List.length_map]; exact hd
 obtain ⟨a, c, rfl⟩ := hr.form
 refine call_k Tryz.func70 k70 Tryz.ntmps70 (Nat.le_of_ble_eq_true rfl) ?_
 refine gW ?_
 refine g_lp (ι := Nat × Value × List Li) (fun x => [(0, .slice a n c), (4, x.2.1), (5, .int .i64 x.1)]) (fun x w' => x.1 ≤ n ∧ (∀ j (hj : j < ps.length), j < x.1 → chk ps[j].2 = true) ∧ x.2.2.Perm (flat (ps.take x.1)) ∧ x.2.2.Pairwise (fun x y => ble x.1 y.1 = true) ∧ St w (fun _ => False) w' [row x.2.1 59 33 x.2.2.length (fl lc x.2.2)]) (fun x => n - x.1) (0, .slice none 0 0, [])
  ⟨rfl, rfl, rfl, trivial⟩ ⟨Nat.zero_le _, fun j _ h => absurd h (Nat.not_lt_zero j), List.Perm.refl _, List.Pairwise.nil, hS.nilrow 59 33⟩ ?_
 clear hS
 rintro ⟨k, vo, o⟩ w1 ⟨hk, hC, hP, hO, hS⟩
 dsimp only at hk hC hP hO hS ⊢
 refine gW ?_
 (refine g_cd rfl (fun hc => ?_) (fun hc => ?_) <;> simp only [cmv, arv, Bool.not_eq_true', Bool.not_eq_false', decide_eq_true_eq, decide_eq_false_iff_not] at hc)
 ·have hlt : k < ps.length := by omega
  have hkm : ps[k] ∈ ps := List.getElem_mem hlt
  have hkl := flat_len hkm
  have hft : flat (ps.take (k + 1)) = flat (ps.take k) ++ ps[k].2 := by rw [List.take_succ_eq_append_getElem hlt, flat_app, flat_one]
  have hft2 := flat_take ps (k + 1)
  rw [hft, List.length_append] at hft2
  obtain ⟨b, off, cap, l, e1, hcap, hl, hx, hb⟩ := Rd.block (hrr _ hS) (by omega)
  cases e1
  obtain ⟨Ek, hpk⟩ := hp _ hkm
  obtain ⟨ap, cp, ep⟩ := hpk.form
  have hpkk : ∀ {L : List Res} (w' : World), St w (fun _ => False) w' L → Rd ps[k].1 Ek 33 ps[k].2.length (fl lc ps[k].2) w' := fun w' hS => hpk.same fun b hb => hS.fr.kept b (hpk.lt b hb) (fun h => h)
  rw [ep] at hpkk
  have hxk : ∀ {L : List Res} (w' : World), St w (fun _ => False) w' L → ∃ l2, Blr w' b l2 E0 ∧ l2[off + k * 1]? = some (.slice ap ps[k].2.length cp) := fun w' hS => by
   obtain ⟨b2, off2, cap2, l2, e2, hcap2, hl2, hx2, hb2⟩ := Rd.block (hrr _ hS) (by omega)
   cases e2
   refine ⟨l2, hb2, ?_⟩
   rw [rd_x' hx2 hpm1 (by omega), List.getElem_map, ep]
  obtain ⟨l2, hb2, hv2⟩ := hxk _ hS
  refine gW ?_
  refine g_rq rfl rfl ⟨by omega, by omega⟩ ?_
  refine g_l1r rfl rfl hb2 (by rw [Int.toNat_natCast]; exact hv2) ?_
  refine gW ?_
  refine g_cl rfl rfl (r_Check20 rfl (by omega) (fun x hx => hlen x (flat_mem hkm hx)) (hpkk _ hS) fun w1 h' => ?_)
  replace hS := hS.call0.2 _ _ h'
  rw [List.append_nil] at hS
  clear h'
  cases hck : chk ps[k].2
  ·rw [eE_no hck]
   refine gW ?_
   refine g_ret (q_2 rfl rfl (bad ?_ _ hS))
   unfold joinS
   rw [if_neg]
   intro h1
   have := List.all_eq_true.1 h1.1 ps[k].2 (List.mem_map.2 ⟨_, hkm, rfl⟩)
   rw [hck] at this
   cases this
  ·rw [eE_ok hck]
   refine gW ?_
   refine g_lp (ι := Nat × Value × List Li) (fun x => [(0, .slice (some ⟨b, off, none⟩) n c), (4, x.2.1), (5, .int .i64 k), (6, .int .i64 x.1)]) (fun x w' => x.1 ≤ ps[k].2.length ∧ x.2.2.Perm (flat (ps.take k) ++ ps[k].2.take x.1) ∧ x.2.2.Pairwise (fun x y => ble x.1 y.1 = true) ∧ St w (fun _ => False) w' [row x.2.1 59 33 x.2.2.length (fl lc x.2.2)]) (fun x => ps[k].2.length - x.1) (0, vo, o)
    ⟨rfl, rfl, rfl, rfl, trivial⟩ ⟨Nat.zero_le _, by simpa using hP, hO, hS⟩ ?_
   clear hS hP hO
   rintro ⟨i, vo, o⟩ w1 ⟨hi, hP, hO, hS⟩
   dsimp only at hi hP hO hS ⊢
   have hol := hP.length_eq
   rw [List.length_append, List.length_take] at hol
   obtain ⟨l3, hb3, hv3⟩ := hxk _ hS
   refine gW ?_
   refine g_rq rfl rfl ⟨by omega, by omega⟩ ?_
   refine g_l1r rfl rfl hb3 (by rw [Int.toNat_natCast]; exact hv3) ?_
   refine gW ?_
   (refine g_cd rfl (fun hli => ?_) (fun hli => ?_) <;> simp only [cmv, arv, Bool.not_eq_true', Bool.not_eq_false', decide_eq_true_eq, decide_eq_false_iff_not] at hli)
   ·have hli : i < ps[k].2.length := by omega
    obtain ⟨b4, off4, cap4, l4, e4, hcap4, hl4, hx4, hb4⟩ := Rd.block (hpkk _ hS) (by omega)
    cases e4
    have hbd4 : off4 + i * 33 + 33 ≤ l4.length := by have : (i + 1) * 33 ≤ cp * 33 := Nat.mul_le_mul_right 33 (by omega); omega
    refine gW ?_
    refine g_rq rfl rfl ⟨by omega, by omega⟩ ?_
    refine g_l1r rfl rfl hb3 (by rw [Int.toNat_natCast]; exact hv3) ?_
    refine gW ?_
    refine g_rq rfl rfl ⟨by omega, by omega⟩ ?_
    refine g_lmr rfl rfl hb4 (by rw [Int.toNat_natCast]; exact hbd4) ?_
    rw [Int.toNat_natCast, rd_at lc_len hx4 rfl hli]
    refine g_cl rfl rfl (r_in (o := o) (x := ps[k].2[i]) rfl (by omega) (hS.ok 0 _ rfl) fun j v2 w2 h1 h2 h' => ?_)
    replace hS := hS.call0.2 _ _ h'
    refine gW ?_
    refine g_rq rfl rfl (in64 (by simp only [arv]; omega)) ?_
    refine gW ?_
    refine g_l (i + 1, v2, insAt o j ps[k].2[i]) ⟨rfl, rfl, rfl, rfl, trivial⟩ ⟨by simp only; omega, ?_, in_srt hO h1 h2, hS.sel [1] rfl rfl⟩ (by simp only; omega)
    dsimp only
    rw [List.take_succ_eq_append_getElem hli, ← List.append_assoc]
    exact (insAt_perm _ _ _).trans ((List.Perm.cons _ hP).trans (List.perm_append_singleton _ _).symm)
   ·have ei : ps[k].2.take i = ps[k].2 := List.take_of_length_le (by omega)
    rw [ei, ← hft] at hP
    refine gW ?_
    refine g_rq rfl rfl (in64 (by simp only [arv]; omega)) ?_
    refine gW ?_
    refine g_l (k + 1, vo, o) ⟨rfl, rfl, rfl, trivial⟩ ⟨by simp only; omega, fun j hj hjk => ?_, hP, hO, hS⟩ (by simp only; omega)
    by_cases e : j = k
    ·subst e; exact hck
    ·exact hC j hj (by simp only at hjk; omega)
 ·have ek : k = n := by omega
  subst ek
  have hall : (ps.map (·.2)).all chk = true := List.all_eq_true.2 fun l hl => by
   obtain ⟨p, hp, rfl⟩ := List.mem_map.1 hl
   obtain ⟨j, hj, rfl⟩ := List.getElem_of_mem hp
   exact hC j hj (by omega)
  rw [List.take_of_length_le (by omega)] at hP
  obtain ⟨hc1, hc2⟩ := chk_srt hP hO
  have hol := hP.length_eq
  refine gW ?_
  refine g_cl rfl rfl (r_Check20 rfl (by omega) (fun x hx => hlen x (hP.mem_iff.1 hx)) (Ow.rd (hS.ok 0 _ rfl)) fun w1 h' => ?_)
  replace hS := hS.call0.2 _ _ h'
  rw [List.append_nil] at hS
  clear h'
  cases hck : chk o
  ·rw [eE_no hck]
   rw [hck] at hc1
   refine gW ?_
   refine g_ret (q_2 rfl rfl (bad ?_ _ hS))
   unfold joinS
   rw [if_neg]
   intro h1
   rw [hfl, ← hc1] at h1
   cases h1.2
  ·rw [eE_ok hck]
   have hj : joinS (ps.map (·.2)) = some o := by
    unfold joinS
    rw [hfl, ← hc2 hck, if_pos ⟨hall, hck⟩]
   have e1 : jnE (ps.map (·.2)) = 0 := by unfold jnE; rw [hj]; rfl
   have e2 : jnL (ps.map (·.2)) = o := by unfold jnL; rw [hj]; rfl
   rw [e1, e2] at h
   refine gW ?_
   exact g_ret (q_2 rfl rfl (h _ _ hS))
end
theorem pev_bd' {T : TT} {z : ZZ} {ps : List (Nat × Nat × Operand)} {out : List Value} (h : fillP T ps (zx z) = some out) : pev T (.bd z ps) = .ok (.agg ⟨out⟩) := by simp [pev, h]
section
variable {w w0 : World} {S0 : Nat → Prop} {L B : List Res} {K : Value → World → Prop} {s : Bs} {E0 E1 : Nat}
set_option maxHeartbeats 4000000 in
theorem r_Names20 {v : Value} {n : Nat} {ids : List Id} (hd : ids.length = n) (hn : n < 2000000) (hr : Rd v E0 32 n (fl ic ids) w)
  (h0 : brk s ≠ 0 → ∀ w', St w (fun _ => False) w' [] → K (.tuple ⟨[.slice none 0 0, .int .i64 40]⟩) w')
  (h : brk s = 0 → ∀ v' w', St w (fun _ => False) w' [row v' 59 33 (nmL s ids).length (fl lc (nmL s ids))] → K (.tuple ⟨[v', .int .i64 0]⟩) w') : CK Tryz.prog 69 [sv s, v] w K := by
 have hS := St.nil w (fun _ => False)
 refine call_k Tryz.func69 k69 Tryz.ntmps69 (Nat.le_of_ble_eq_true rfl) ?_
 refine gW ?_
 refine g_cl rfl rfl (r_Check4 fun w' hS => ?_)
 refine gW ?_
 by_cases e : brk s = 0
 rotate_left
 ·have e1 : nmE s = 40 := by unfold nmE; rw [if_neg e]
  rw [e1]
  refine gW ?_
  exact g_ret (q_2 rfl rfl (h0 e _ hS))
 have e1 : nmE s = 0 := by unfold nmE; rw [if_pos e]
 rw [e1]
 have hle := brk_le e
 replace h := h e
 clear h0
 refine gW ?_
 refine g_cl rfl rfl (r_Set hd hn (hr.same fun b hb => hS.fr.kept b (hr.lt b hb) (fun h => h)) fun v1 w1 h' => ?_)
 replace hS := hS.call0.2 _ _ h'
 replace hS : St w (fun _ => False) w1 [row v1 38 32 (iset ids).length (fl ic (iset ids))] := hS
 clear h'
 have hml : (iset ids).length < 2000000 := by have := kset_len (fun x : Id => x.1) ids; unfold iset; omega
 have hnm : nmL s ids = (iset ids).map (nm1 s (decide (1 < (iset ids).length))) := rfl
 have hsrt := nmL_sorted s ids
 rw [hnm] at h hsrt
 clear hnm
 generalize iset ids = I at *
 obtain ⟨a, c, rfl⟩ := hS.rlen 0 rfl
 have blk : ∀ {k : Nat} (hlt : k < I.length) {w' : World} {L : List Res}, St w (fun _ => False) w' (row (.slice a I.length c) 38 32 I.length (fl ic I) :: L) → ∃ b off lr, a = some ⟨b, off, none⟩ ∧ I.length ≤ c ∧ off + k * 32 + 32 ≤ lr.length ∧ (lr.drop (off + k * 32)).take 32 = ic I[k] ∧ Blr w' b lr 38 := fun {k} hlt {_ _} hS => by
  obtain ⟨b, off, cap, lr, e1, hcap, hlr, hx, hb⟩ := Rd.block (Ow.rd (hS.ok 0 _ rfl)) (by omega)
  cases e1
  exact ⟨b, off, lr, rfl, hcap, by have : (k + 1) * 32 ≤ c * 32 := Nat.mul_le_mul_right 32 (by omega); omega, rd_at ic_len hx rfl hlt, hb⟩
 refine gW ?_
 have e1 : cmv .eql (I.length : Int) 1 = decide (I.length = 1) := by
  simp only [cmv]
  exact decide_eq_decide.2 ⟨fun h => by omega, fun h => by omega⟩
 rw [e1]
 by_cases hI1 : I.length = 1
 ·rw [decide_eq_true hI1]
  obtain ⟨x, rfl⟩ : ∃ x, I = [x] := by
   match I, hI1 with
   | [x], _ => exact ⟨x, rfl⟩
  obtain ⟨b, off, lr, rfl, hcap, hbd, hX, hb⟩ := blk (k := 0) (Nat.zero_lt_succ _) hS
  refine gW ?_
  refine g_rq rfl rfl ⟨Int.le_refl _, by simp⟩ ?_
  refine g_lmr rfl rfl hb hbd ?_
  rw [show (Int.toNat 0) = 0 from rfl, hX]
  refine g_qt rfl (qt_bd (out := lc (s, x)) (fill_li _ rfl rfl) _) ?_
  refine g_ef rfl (ef_bl (rs := lc (s, x)) hS (evcs_1 rfl (lc_len _)) fun g w1 hS => ?_)
  refine gW ?_
  refine g_ret (q_2 rfl rfl (h _ _ ?_))
  have e2 : fl lc (List.map (nm1 s (decide (1 < [x].length))) [x]) = lc (s, x) := by simp [fl, nm1]
  rw [e2]
  exact (hS.close_row (n := 1) (cap := 1) (sz := 33) (xs := lc (s, x)) 1 rfl (Nat.le_refl _) (lc_len _) (List.prefix_refl _) (lc_len _)).sel [1] rfl rfl
 rw [decide_eq_false hI1]
 have hnm1 : ∀ (y : Id) (k : Nat), k < I.length → ∀ (hk : k + 1 ≤ I.length), y ∈ I → nm1 s (decide (1 < I.length)) y = (s ++ 126 :: hex y.1, y) := fun y k hk _ hy => by
  unfold nm1 cfl
  rw [if_pos (decide_eq_true (by omega))]
 refine gW ?_
 refine g_lp (ι := Nat × Value) (fun x => [(0, sv s), (6, .slice a I.length c), (7, x.2), (8, .int .i64 x.1)])
  (fun x w' => x.1 ≤ I.length ∧ St w (fun _ => False) w' [row (.slice a I.length c) 38 32 I.length (fl ic I), row x.2 59 33 x.1 (fl lc ((I.take x.1).map (nm1 s (decide (1 < I.length)))))]) (fun x => I.length - x.1) (0, .slice none 0 0)
  ⟨rfl, rfl, rfl, rfl, trivial⟩ ⟨Nat.zero_le _, hS.nilrow 59 33⟩ ?_
 clear hS
 rintro ⟨k, vo⟩ w1 ⟨hk, hS⟩
 dsimp only at hk hS ⊢
 refine gW ?_
 (generalize hlt : cmv _ _ _ = q; cases q <;> simp only [cmv, arv, Bool.not_eq_true', Bool.not_eq_false', decide_eq_true_eq, decide_eq_false_iff_not] at hlt <;> first | (exfalso; omega) | skip)
 ·have ek : k = I.length := by omega
  subst ek
  rw [List.take_length] at hS
  refine gW ?_
  refine g_ret (q_2 rfl rfl (h _ _ ?_))
  rw [List.length_map]
  exact hS.sel [1] rfl rfl
 have hlt : k < I.length := by omega
 have hF := hS.drew
 obtain ⟨b, off, lr, rfl, hcap, hbd, hX, hb⟩ := blk hlt hF
 have hym := hnm1 I[k] k hlt hlt (List.getElem_mem hlt)
 have htk : (I.take (k + 1)).map (nm1 s (decide (1 < I.length))) = (I.take k).map (nm1 s (decide (1 < I.length))) ++ [nm1 s (decide (1 < I.length)) I[k]] := by
  rw [List.take_succ_eq_append_getElem hlt, List.map_append]
  rfl
 have hpw : ((I.take k).map (nm1 s (decide (1 < I.length))) ++ [nm1 s (decide (1 < I.length)) I[k]]).Pairwise fun x y => ble x.1 y.1 = true := by
  rw [← htk]
  exact List.Pairwise.sublist ((List.take_sublist _ _).map _) hsrt
 have hFl : ((I.take k).map (nm1 s (decide (1 < I.length)))).length = k := by rw [List.length_map, List.length_take]; omega
 rw [hym] at htk hpw
 generalize (I.take k).map (nm1 s (decide (1 < I.length))) = F at *
 generalize hY : I[k] = Y at *
 have hle1 : ∀ a ∈ F, ble a.1 (s ++ 126 :: hex Y.1) = true := fun a ha => (List.pairwise_append.1 hpw).2.2 a ha _ (List.mem_singleton.2 rfl)
 have hxl : (hex Y.1).length = 64 := by rw [hex_len, Y.2]
 clear hF
 refine gW ?_
 refine g_dr mixed ?_
 replace hS := hS.drew
 refine gD ?_
 refine d_rq rfl rfl rfl (by rw [Lib.size_eq, Lib.size_eq]; simp; omega) ?_
 refine gD ?_
 refine d_rq rfl rfl rfl ⟨by omega, by omega⟩ ?_
 refine d_qt rfl rfl rfl (qt_ldmr rfl hb hbd) ?_
 rw [Int.toNat_natCast, hX]
 refine gD ?_
 refine d_rq rfl rfl rfl ⟨by omega, by omega⟩ ?_
 refine d_qt rfl rfl rfl (qt_ldmr rfl hb hbd) ?_
 rw [Int.toNat_natCast, hX]
 refine d_cl rfl rfl rfl (r_Text Y.2 fun w2 h' => ⟨?_, ?_⟩)
 ·obtain ⟨b2, off2, lr2, e2, hcap2, hbd2, hX2, hb2⟩ := blk hlt (hS.call0.2 _ _ h')
  cases e2
  rw [hY] at hX2
  refine rc_qt rfl rfl rfl rfl (hX2 ▸ qt_ldmr rfl hb2 hbd2) rc_0
 replace hS := hS.call0.2 _ _ h'
 clear h' hb
 rw [List.append_nil] at hS
 refine gD ?_
 refine d_rq rfl rfl rfl (by simp [Lib.size_eq, hex_len]; omega) ?_
 have esv : Value.string ((⟨s.toArray⟩ : ByteArray) ++ ⟨#[126]⟩ ++ ⟨(hex Y.1).toArray⟩) = sv (s ++ 126 :: hex Y.1) := by
  rw [← sv_of]; congr 1; simp
 rw [esv]
 refine d_ok rfl rfl (pev_bd' (fill_li (s ++ 126 :: hex Y.1, Y) rfl rfl)) ?_
 refine d_cl rfl rfl rfl (r_in (o := F) (x := (s ++ 126 :: hex Y.1, Y)) hFl (by omega) (hS.ok 1 _ rfl) fun j v2 w2 h1 h2 h' => ⟨rc_0, ?_⟩)
 replace hS := hS.call0.2 _ _ h'
 clear h'
 have hj : F.length ≤ j := Nat.le_of_not_lt fun hj => h2 hj (hle1 _ (List.getElem_mem hj))
 have ei : insAt F j (s ++ 126 :: hex Y.1, Y) = F ++ [(s ++ 126 :: hex Y.1, Y)] := by
  unfold insAt
  rw [List.take_of_length_le hj, List.drop_eq_nil_of_le hj]
 rw [ei, ← htk] at hS
 refine d_e rfl rfl (ef_qt ((pev_ok rfl).2 _) ⟨rc_0, ?_⟩)
 refine d_fin ?_
 refine gW ?_
 refine g_rq rfl rfl (in64 (by simp only [arv]; omega)) ?_
 refine gW ?_
 refine g_l (k + 1, v2) ⟨rfl, rfl, rfl, rfl, trivial⟩ ⟨by simp only; omega, ?_⟩ (by simp only; omega)
 have e3 : ((I.take (k + 1)).map (nm1 s (decide (1 < I.length)))).length = k + 1 := by rw [List.length_map, List.length_take]; omega
 rw [e3] at hS
 exact hS.sel [0, 2] rfl rfl
end
theorem append1 {α : Type} {k : Nat} {F : List α} {X : α} {enc : α → List Value} : fl enc F ++ enc X = fl enc (F ++ [X]) ∧ F.length + 1 = (F ++ [X]).length := ⟨by rw [fl_app]; simp [fl], by simp⟩
section
variable {w w0 : World} {S0 : Nat → Prop} {L B : List Res} {K : Value → World → Prop} {s : Bs} {E0 E1 : Nat} {x y : Id}
theorem r_commitN (h : ∀ w', St w (fun _ => False) w' [] → K (.bool false) w') : CK Tryz.prog 251 [np, .agg ⟨ic x⟩] w K := by
 have hS := St.nil w (fun _ => False)
 refine call_k Tryz.func251 k251 Tryz.ntmps251 (Nat.le_of_ble_eq_true rfl) ?_
 refine gW ?_
 refine g_ef rfl (ef_bx hS rfl fun b3 w1 hS => ?_)
 refine gW ?_
 exact g_ret (q_1 rfl (h _ (hS.sel [] rfl rfl)))
theorem r_ParentsN (h : ∀ w', St w (fun _ => False) w' [] → K (.slice none 0 0) w') : CK Tryz.prog 225 [np, .agg ⟨ic x⟩] w K := by
 have hS := St.nil w (fun _ => False)
 have lx := ic_len x
 refine call_k Tryz.func225 k225 Tryz.ntmps225 (Nat.le_of_ble_eq_true rfl) ?_
 refine gW ?_
 refine g_ef rfl (ef_bx hS rfl fun b3 w1 hS => ?_)
 replace hS : St w (fun _ => False) w1 [cel b3 (ic x) 38] := hS
 refine gW ?_
 refine g_lm rfl rfl (hS.b 0 rfl) (Nat.le_of_eq lx.symm) ?_
 rw [List.drop_zero, List.take_of_length_le (Nat.le_of_eq lx)]
 refine g_cl rfl rfl (r_commitN fun w2 h' => ?_)
 replace hS := hS.call0.2 _ _ h'
 refine gW ?_
 exact g_ret (q_1 rfl (h _ (hS.sel [] rfl rfl)))
theorem r_BehindN (h : ∀ w', St w (fun _ => False) w' [] → K (.slice none 0 0) w') : CK Tryz.prog 192 [np, .agg ⟨ic x⟩] w K := by
 have hS := St.nil w (fun _ => False)
 have lx := ic_len x
 refine call_k Tryz.func192 k192 Tryz.ntmps192 (Nat.le_of_ble_eq_true rfl) ?_
 refine gW ?_
 refine g_ef rfl (ef_bx hS rfl fun b3 w1 hS => ?_)
 replace hS : St w (fun _ => False) w1 [cel b3 (ic x) 38] := hS
 refine gW ?_
 refine g_lm rfl rfl (hS.b 0 rfl) (Nat.le_of_eq lx.symm) ?_
 rw [List.drop_zero, List.take_of_length_le (Nat.le_of_eq lx)]
 refine g_cl rfl rfl (r_ParentsN fun w2 h' => ?_)
 replace hS := hS.call0.2 _ _ h'
 refine gW ?_
 refine g_lp (ι := Unit) (fun _ => [(5, .slice none 0 0), (6, .int .i64 0)]) (fun _ w' => w' = w2) (fun _ => 0) () ⟨rfl, rfl, trivial⟩ rfl ?_
 rintro _ w1 rfl
 refine gW ?_
 exact g_ret (q_1 rfl (h _ (hS.sel [] rfl rfl)))
theorem r_inN (h : ∀ w', St w (fun _ => False) w' [] → K (.bool false) w') : CK Tryz.prog 191 [.slice none 0 0, .agg ⟨ic x⟩] w K := by
 have hS := St.nil w (fun _ => False)
 refine call_k Tryz.func191 k191 Tryz.ntmps191 (Nat.le_of_ble_eq_true rfl) ?_
 refine gW ?_
 refine g_ef rfl (ef_bx hS rfl fun b3 w1 hS => ?_)
 refine gW ?_
 refine g_lp (ι := Unit) (fun _ => [(0, .slice none 0 0), (5, .int .i64 0)]) (fun _ w' => w' = w1) (fun _ => 0) () ⟨rfl, rfl, trivial⟩ rfl ?_
 rintro _ w2 rfl
 refine gW ?_
 exact g_ret (q_1 rfl (h _ (hS.sel [] rfl rfl)))
theorem r_AncN (h : ∀ w', St w (fun _ => False) w' [] → K (.bool false) w') : CK Tryz.prog 142 [np, .agg ⟨ic x⟩, .agg ⟨ic y⟩] w K := by
 have hS := St.nil w (fun _ => False)
 have lx := ic_len x
 have ly := ic_len y
 refine call_k Tryz.func142 k142 Tryz.ntmps142 (Nat.le_of_ble_eq_true rfl) ?_
 refine gW ?_
 refine g_ef rfl (ef_bx hS rfl fun b4 w1 hS => ?_)
 refine gW ?_
 refine g_ef rfl (ef_bx hS rfl fun b5 w1 hS => ?_)
 replace hS : St w (fun _ => False) w1 [cel b4 (ic x) 38, cel b5 (ic y) 38] := hS
 refine gW ?_
 refine g_dr mixed ?_
 replace hS := hS.drew
 refine gD ?_
 refine d_lm rfl rfl rfl (hS.b 1 rfl) (Nat.le_of_eq ly.symm) ?_
 rw [List.drop_zero, List.take_of_length_le (Nat.le_of_eq ly)]
 refine d_lm rfl rfl rfl (hS.b 0 rfl) (Nat.le_of_eq lx.symm) ?_
 rw [List.drop_zero, List.take_of_length_le (Nat.le_of_eq lx)]
 refine d_cl rfl rfl rfl (r_BehindN fun w2 h' => ?_)
 replace hS := hS.call0.2 _ _ h'
 rw [List.append_nil] at hS
 refine ⟨rc_m rfl rfl rfl rfl (hS.b 0 rfl) (Nat.le_of_eq lx.symm) (by rw [List.drop_zero, List.take_of_length_le (Nat.le_of_eq lx)]) rc_0, ?_⟩
 clear h'
 refine d_cl rfl rfl rfl (r_inN fun w3 h' => ⟨rc_0, ?_⟩)
 replace hS := hS.call0.2 _ _ h'
 clear h'
 refine gD ?_
 refine d_fin ?_
 refine gW ?_
 exact g_ret (q_1 rfl (h _ (hS.sel [] rfl rfl)))
set_option maxHeartbeats 4000000 in
theorem r_HeadsN {v : Value} {tips : List Id} (hn : tips.length < 2000000) (hr : Rd v E0 32 tips.length (fl ic tips) w) (h : ∀ v' w', St w (fun _ => False) w' [rowI v' (iset tips)] → K v' w') : CK Tryz.prog 101 [np, v] w K := by
 have hal : (iset tips).length ≤ tips.length := kset_len (fun x : Id => x.1) tips
 have hS := St.nil w (fun _ => False)
 refine call_k Tryz.func101 k101 Tryz.ntmps101 (Nat.le_of_ble_eq_true rfl) ?_
 refine gW ?_
 refine g_cl rfl rfl (r_Set rfl hn hr fun va w1 h' => ?_)
 replace hS := hS.call0.2 _ _ h'
 clear h'
 generalize iset tips = A at *
 replace hS := hS.nilrow 38 32
 replace hS : St w (fun _ => False) w1 [rowI va A, rowI (.slice none 0 0) []] := hS
 obtain ⟨aa, ca, rfl⟩ := hS.rlen 0 rfl
 have blk : ∀ {k : Nat} (hlt : k < A.length) {w' : World} {L : List Res}, St w (fun _ => False) w' (rowI (.slice aa A.length ca) A :: L) → ∃ b off lr, aa = some ⟨b, off, none⟩ ∧ A.length ≤ ca ∧ off + k * 32 + 32 ≤ lr.length ∧ (lr.drop (off + k * 32)).take 32 = ic A[k] ∧ Blr w' b lr 38 := fun {k} hlt {_ _} hS => by
  obtain ⟨b, off, cap, lr, e1, hcap, hlr, hx, hb⟩ := Rd.block (Ow.rd (hS.ok 0 _ rfl)) (by omega)
  cases e1
  exact ⟨b, off, lr, rfl, hcap, by have : (k + 1) * 32 ≤ ca * 32 := Nat.mul_le_mul_right 32 (by omega); omega, rd_at ic_len hx rfl hlt, hb⟩
 refine gW ?_
 refine g_lp (ι := Nat × Value) (fun y => [(0, np), (5, .slice aa A.length ca), (6, y.2), (7, .int .i64 y.1)]) (fun y w' => y.1 ≤ A.length ∧ St w (fun _ => False) w' [rowI (.slice aa A.length ca) A, rowI y.2 (A.take y.1)]) (fun y => A.length - y.1) (0, .slice none 0 0) ⟨rfl, rfl, rfl, rfl, trivial⟩ ⟨Nat.zero_le _, hS⟩ ?_
 clear hS
 rintro ⟨k, vo⟩ w1 ⟨hk, hS⟩
 dsimp only at hk hS ⊢
 refine gW ?_
 (generalize hlt : cmv _ _ _ = q; cases q <;> simp only [cmv, arv, Bool.not_eq_true', Bool.not_eq_false', decide_eq_true_eq, decide_eq_false_iff_not] at hlt <;> first | (exfalso; omega) | skip)
 ·have ek : k = A.length := by omega
  subst ek
  rw [List.take_length] at hS
  refine gW ?_
  exact g_ret (q_1 rfl (h vo _ (hS.sel [1] rfl rfl)))
 have hlt : k < A.length := by omega
 have htk : A.take (k + 1) = A.take k ++ [A[k]] := List.take_succ_eq_append_getElem hlt
 have hfl : (A.take k).length = k := by rw [List.length_take]; omega
 generalize A.take k = F at htk hS hfl
 generalize hX0 : A[k] = X at htk
 refine gW ?_
 refine g_atx (ι := Nat) 2 (fun _ => [(0, np), (5, .slice aa A.length ca), (6, vo), (7, .int .i64 k), (8, .bool false)]) (fun _ w' => St w (fun _ => False) w' [rowI (.slice aa A.length ca) A, rowI vo F]) rfl ?_ ?_
 ·refine g_lp (ι := Nat) (fun y => [(0, np), (5, .slice aa A.length ca), (6, vo), (7, .int .i64 k), (8, .bool false), (9, .int .i64 y)]) (fun y w' => y ≤ A.length ∧ St w (fun _ => False) w' [rowI (.slice aa A.length ca) A, rowI vo F]) (fun y => A.length - y) 0 ⟨rfl, rfl, rfl, rfl, rfl, rfl, trivial⟩ ⟨Nat.zero_le _, hS⟩ ?_
  clear hS
  rintro j w1 ⟨hj, hS⟩
  refine gW ?_
  (generalize hlj : cmv _ _ _ = q; cases q <;> simp only [cmv, arv, Bool.not_eq_true', Bool.not_eq_false', decide_eq_true_eq, decide_eq_false_iff_not] at hlj <;> first | (exfalso; omega) | skip)
  ·refine gW ?_
   exact g_jx 0 ⟨rfl, rfl, rfl, rfl, rfl, trivial⟩ hS
  have hlj : j < A.length := by omega
  have hF := hS.drew
  obtain ⟨b, off, lr, rfl, hcap, hbd, hX, hb⟩ := blk hlt hF
  obtain ⟨b2, off2, lr2, e2, hcap2, hbd2, hX2, hb2⟩ := blk hlj hF
  cases e2
  clear hF
  rw [hX0] at hX
  refine gW ?_
  refine g_dr mixed ?_
  replace hS := hS.drew
  refine gD ?_
  refine d_rq rfl rfl rfl ⟨by omega, by omega⟩ ?_
  refine d_qt rfl rfl rfl (qt_ldmr rfl hb hbd) ?_
  rw [Int.toNat_natCast, hX]
  refine gD ?_
  refine d_rq rfl rfl rfl ⟨by omega, by omega⟩ ?_
  refine d_qt rfl rfl rfl (qt_ldmr rfl hb2 hbd2) ?_
  rw [Int.toNat_natCast, hX2]
  refine d_cl rfl rfl rfl (r_AncN fun w2 h' => ⟨rc_0, ?_⟩)
  replace hS := hS.call0.2 _ _ h'
  rw [List.append_nil] at hS
  clear h'
  refine gD ?_
  refine d_fin ?_
  refine gW ?_
  refine g_rq rfl rfl (in64 (by simp only [arv]; omega)) ?_
  refine gW ?_
  exact g_l (j + 1) ⟨rfl, rfl, rfl, rfl, rfl, rfl, trivial⟩ ⟨hlj, hS⟩ (by omega)
 ·clear hS
  rintro _ T w1 hT hS
  refine g_wkc hT ?_
  clear hT
  obtain ⟨b, off, lr, rfl, hcap, hbd, hX, hb⟩ := blk hlt hS
  rw [hX0] at hX
  refine gW ?_
  refine g_rq rfl rfl ⟨by omega, by omega⟩ ?_
  refine g_lmr rfl rfl hb hbd ?_
  rw [Int.toNat_natCast, hX]
  refine g_ef rfl (ef_bl (rs := ic X) hS (evcs_1 rfl (ic_len _)) fun g w2 hS => ?_)
  refine g_ef rfl (ef_ap (bytes := 32) (n := F.length) (m := 1) (ys := ic X) hS 1 rfl rfl rfl (.inl ⟨38, .inr ⟨g, 0, 1, _, rfl, Nat.le_refl _, Nat.le_of_eq (by rw [ic_len]), by rw [List.drop_zero, List.take_of_length_le (Nat.le_of_eq (ic_len _))], (hS.b 2 rfl).r⟩⟩) (List.all_eq_true.2 (ic_one X)) (by omega) (by omega) fun v1 w2 hS => ?_)
  rw [(append1 (k := 0)).1, (append1 (k := 0) (enc := ic) (X := X)).2] at hS
  refine gW ?_
  refine g_rq rfl rfl (in64 (by simp only [arv]; omega)) ?_
  refine gW ?_
  refine g_l (k + 1, v1) ⟨rfl, rfl, rfl, rfl, trivial⟩ ⟨hlt, ?_⟩ (by simp only; omega)
  dsimp only
  rw [htk]
  exact hS.sel [0, 1] rfl rfl
theorem r_SurvN {v : Value} {tips : List Id} (hn : tips.length < 2000000) (hr : Rd v E0 32 tips.length (fl ic tips) w) (h : ∀ v' w', St w (fun _ => False) w' [rowI v' (iset tips)] → K v' w') : CK Tryz.prog 65 [np, v] w K := by
 have hal : (iset tips).length ≤ tips.length := kset_len (fun x : Id => x.1) tips
 refine call_k Tryz.func65 k65 Tryz.ntmps65 (Nat.le_of_ble_eq_true rfl) ?_
 refine gW ?_
 refine g_cl rfl rfl (r_HeadsN hn hr fun v1 w1 hS => ?_)
 refine g_cl rfl rfl (r_Set rfl (by omega) (Ow.rd (hS.ok 0 _ rfl)) fun v2 w2 h' => ?_)
 replace hS := hS.call0.2 _ _ h'
 have e : iset (iset tips) = iset tips := kset_self _ id_inj (kset_sorted _ id_inj tips)
 rw [e] at hS
 refine gW ?_
 exact g_ret (q_1 rfl (h _ _ (hS.sel [1] rfl rfl)))
end
structure TabW (bX : Nat) (vL : Value) (x : List Nat) (Y : List Sb) (w : World) : Prop where
 t : ∃ E, Blr w bX (u4 x ++ [vL]) E
 r : ∃ E, Rd vL E 1 Y.length (fl e1p Y) w
 z : ∀ z ∈ Y, SbV z w
section
variable {w w0 : World} {S0 : Nat → Prop} {L B : List Res} {K : Value → World → Prop} {s : Bs} {E0 E1 : Nat} {bX : Nat} {vL : Value} {x : List Nat} {Y : List Sb}
theorem TabW.in (h : TabW bX vL x Y w0) (hS : St w0 (fun _ => False) w L) : TabW bX vL x Y w := by
 obtain ⟨⟨E, h1⟩, ⟨E', h2⟩, h3⟩ := h
 exact ⟨⟨E, h1.same (hS.fr.kept _ h1.lt fun h => h)⟩, ⟨E', h2.same fun b hb => hS.fr.kept b (h2.lt b hb) fun h => h⟩, fun z hz => (h3 z hz).in hS⟩
theorem TabW.of (hS : St w0 S0 w (TabX bX vL x Y ++ B)) : TabW bX vL x Y w := ⟨⟨_, (hS.b 0 rfl).r⟩, ⟨_, Ow.rd (hS.ok 1 _ rfl)⟩, sb_v hS (i := 2) rfl⟩
theorem TabW.blk (h : TabW bX vL x Y w) {k : Nat} (hk : k < Y.length) : ∃ b off c l E, vL = .slice (some ⟨b, off, none⟩) Y.length c ∧ Blr w b l E ∧ l[off + k * 1]? = some (dp Y[k].b) := by
 obtain ⟨E, hr⟩ := h.r
 obtain ⟨a, c, rfl⟩ := hr.form
 obtain ⟨b, off, cap, l, e, hcap, hl, hx, hb⟩ := Rd.block hr (by omega)
 cases e
 refine ⟨b, off, c, l, E, rfl, hb, ?_⟩
 have := rd_at e1p_len hx rfl hk
 have h1 := congrArg (fun l : List Value => l[0]?) this
 simp only [List.getElem?_take, List.getElem?_drop, Nat.add_zero] at h1
 rw [if_pos (by decide)] at h1
 exact h1
def LvI (w : World) (v : Value) (l : List Id) : Prop := ∃ E, Rd v E 32 l.length (fl ic l) w
theorem _root_.Go.En.St.only2 {r1 r2 : Res} {M : List Res} (h : St w0 S0 w ([r1, r2] ++ M)) : St w0 S0 w [r1, r2] := by
 have := St.sub (A := [r1, r2]) (L := M) (L' := []) (List.nil_sublist _) h
 rwa [List.append_nil] at this
theorem _root_.Go.En.St.last {A : List Res} {r : Res} (h : St w0 S0 w (A ++ [r])) : r.ok w := h.ok A.length r getL
theorem _root_.Go.En.St.only3 {r1 r2 r3 : Res} {M : List Res} (h : St w0 S0 w ([r1, r2, r3] ++ M)) : St w0 S0 w [r1, r2, r3] := by
 have := St.sub (A := [r1, r2, r3]) (L := M) (L' := []) (List.nil_sublist _) h
 rwa [List.append_nil] at this
theorem lss_blt (a b : Bs) : scv .lss (⟨a.toArray⟩ : ByteArray).data.toList (⟨b.toArray⟩ : ByteArray).data.toList = blt a b := by
 show Op.bytesLess a b = _
 rw [bless_eq, Bool.eq_iff_iff, blt_iff, decide_eq_true_eq]
theorem r_atT (hO : TabOk Y) (hv : TabW bX vL x Y w) (hx : x.length = 16) (h : ∀ i : Nat, i ≤ Y.length → (∀ j (hj : j < Y.length), j < i → Y[j].s ≠ s) → (∀ hi : i < Y.length, ¬ blt Y[i].s s = true) → K (.int .i64 i) w) : CK Tryz.prog 102 [dp bX, sv s] w K := by
 obtain ⟨a, c, rfl⟩ := hv.r.choose_spec.form
 have hYn := hO.n
 refine call_k Tryz.func102 k102 Tryz.ntmps102 (Nat.le_of_ble_eq_true rfl) ?_
 refine gW ?_
 refine g_lp (ι := Nat) (fun i => [(0, dp bX), (1, sv s), (5, .int .i64 i)]) (fun i w' => i ≤ Y.length ∧ (∀ j (hj : j < Y.length), j < i → Y[j].s ≠ s) ∧ w' = w) (fun i => Y.length - i) 0 ⟨rfl, rfl, rfl, trivial⟩ ⟨Nat.zero_le _, fun j _ h => absurd h (Nat.not_lt_zero j), rfl⟩ ?_
 rintro i w1 ⟨hi, hI, rfl⟩
 obtain ⟨E, hb⟩ := hv.t
 refine gW ?_
 refine g_l1r rfl rfl hb (v := .slice a Y.length c) (u4_16 hx _) ?_
 refine gW ?_
 (generalize hlt : cmv _ _ _ = q; cases q <;> simp only [cmv, arv, Bool.not_eq_true', Bool.not_eq_false', decide_eq_true_eq, decide_eq_false_iff_not] at hlt <;> first | (exfalso; omega) | skip)
 ·refine gW ?_
  exact g_ret (q_1 rfl (h i hi hI fun h => absurd h (by omega)))
 have hlt : i < Y.length := by omega
 obtain ⟨b2, off, c2, l2, E2, e, hb2, hl2⟩ := hv.blk hlt
 cases e
 obtain ⟨⟨E3, hz⟩, _⟩ := hv.z _ (List.getElem_mem hlt)
 refine gW ?_
 refine g_l1r rfl rfl hb (v := .slice (some ⟨b2, off, none⟩) Y.length c) (u4_16 hx _) ?_
 refine gW ?_
 refine g_rq rfl rfl ⟨by omega, by omega⟩ ?_
 refine gW ?_
 refine g_l1r rfl rfl hb2 (v := dp Y[i].b) (by rw [Int.toNat_natCast]; exact hl2) ?_
 refine gW ?_
 refine g_l1r rfl rfl hz (v := sv Y[i].s) rfl ?_
 refine gW ?_
 rw [lss_blt]
 cases hlb : blt Y[i].s s
 ·refine gW ?_
  exact g_ret (q_1 rfl (h i hi hI fun _ => by rw [hlb]; decide))
 ·refine gW ?_
  refine g_rq rfl rfl (in64 (by simp only [arv]; omega)) ?_
  refine gW ?_
  refine g_l (i + 1) ⟨rfl, rfl, rfl, trivial⟩ ⟨hlt, fun j hj hji => ?_, rfl⟩ (by omega)
  by_cases e : j = i
  ·subst e; exact blt_ne hlb
  ·exact hI j hj (by omega)
theorem r_ofT (hO : TabOk Y) (hv : TabW bX vL x Y w) (hx : x.length = 16) (h : ∀ z w' L, St w (fun _ => False) w' L → SbV z w' → z.l = sibT (gps Y) s → K (dp z.b) w') : CK Tryz.prog 66 [dp bX, sv s] w K := by
 have hS := St.nil w (fun _ => False)
 obtain ⟨a, c, rfl⟩ := hv.r.choose_spec.form
 have hYn := hO.n
 have new : lkT Y s = none → ∀ b w', St w (fun _ => False) w' [cel b [sv s, .slice none 0 0] 116] → K (dp b) w' := fun e b w' hS =>
  h ⟨b, .slice none 0 0, s, []⟩ w' _ hS ⟨⟨_, (hS.b 0 rfl).r⟩, 0, .inl ⟨⟨_, rfl⟩, rfl, rfl⟩⟩ (by rw [sibT_lk, e]; rfl)
 refine call_k Tryz.func66 k66 Tryz.ntmps66 (Nat.le_of_ble_eq_true rfl) ?_
 refine gW ?_
 refine g_cl rfl rfl (r_atT (s := s) hO hv hx fun i hi hI hJ => ?_)
 obtain ⟨hf1, hf2⟩ := at_find (gps_pw hO.P) hI hJ
 obtain ⟨E, hb⟩ := hv.t
 refine gW ?_
 refine g_l1r rfl rfl hb (v := .slice a Y.length c) (u4_16 hx _) ?_
 refine gW ?_
 (generalize hlt : cmv _ _ _ = q; cases q <;> simp only [cmv, arv, Bool.not_eq_true', Bool.not_eq_false', decide_eq_true_eq, decide_eq_false_iff_not] at hlt <;> first | (exfalso; omega) | skip)
 ·refine gW ?_
  refine g_ef rfl (ef_bx hS rfl fun b w1 hS => ?_)
  refine gW ?_
  exact g_ret (q_1 rfl (new (hf2 fun hi => absurd hi (by omega)) _ _ hS))
 have hlt : i < Y.length := by omega
 obtain ⟨b2, off, c2, l2, E2, e, hb2, hl2⟩ := hv.blk hlt
 cases e
 obtain ⟨⟨E3, hz⟩, hzr⟩ := hv.z _ (List.getElem_mem hlt)
 refine gW ?_
 refine g_l1r rfl rfl hb (v := .slice (some ⟨b2, off, none⟩) Y.length c) (u4_16 hx _) ?_
 refine gW ?_
 refine g_rq rfl rfl ⟨by omega, by omega⟩ ?_
 refine gW ?_
 refine g_l1r rfl rfl hb2 (v := dp Y[i].b) (by rw [Int.toNat_natCast]; exact hl2) ?_
 refine gW ?_
 refine g_l1r rfl rfl hz (v := sv Y[i].s) rfl ?_
 refine gW ?_
 rw [dec_svr]
 by_cases e : Y[i].s = s
 ·rw [decide_eq_true e]
  refine gW ?_
  refine g_l1r rfl rfl hb (v := .slice (some ⟨b2, off, none⟩) Y.length c) (u4_16 hx _) ?_
  refine gW ?_
  refine g_rq rfl rfl ⟨by omega, by omega⟩ ?_
  refine gW ?_
  refine g_l1r rfl rfl hb2 (v := dp Y[i].b) (by rw [Int.toNat_natCast]; exact hl2) ?_
  refine gW ?_
  exact g_ret (q_1 rfl (h Y[i] _ _ hS ⟨⟨_, hz⟩, hzr⟩ (by rw [sibT_lk, hf1 hlt e]; rfl)))
 ·rw [decide_eq_false e]
  refine gW ?_
  refine g_ef rfl (ef_bx hS rfl fun b w1 hS => ?_)
  refine gW ?_
  exact g_ret (q_1 rfl (new (hf2 fun _ => e) _ _ hS))
theorem r_SibT (hO : TabOk Y) (hv : TabW bX vL x Y w) (hx : x.length = 16) (h : ∀ v' w' L E, St w (fun _ => False) w' L → Rd v' E 52 (sibT (gps Y) s).length (fl rc (sibT (gps Y) s)) w' → K v' w') : CK Tryz.prog 37 [dp bX, sv s] w K := by
 refine call_k Tryz.func37 k37 Tryz.ntmps37 (Nat.le_of_ble_eq_true rfl) ?_
 refine gW ?_
 refine g_cl rfl rfl (r_ofT (s := s) hO hv hx fun z w1 L hS hz hl => ?_)
 obtain ⟨⟨E, hb⟩, E', hr⟩ := hz
 rw [hl] at hr
 refine gW ?_
 refine g_l1r rfl rfl hb (v := z.v) rfl ?_
 refine gW ?_
 exact g_ret (q_1 rfl (h _ _ _ _ hS hr))
theorem r_TipsT (hO : TabOk Y) (hv : TabW bX vL x Y w) (hx : x.length = 16) (h : ∀ v' w' L, St w (fun _ => False) w' (L ++ [rowI v' (tipR (sibT (gps Y) s))]) → K v' w') : CK Tryz.prog 33 [dp bX, .pointer none, sv s] w K := by
 have hsl := sib_len hO s
 have htl := tipR_len (sibT (gps Y) s)
 refine call_k Tryz.func33 k33 Tryz.ntmps33 (Nat.le_of_ble_eq_true rfl) ?_
 refine gW ?_
 refine g_cl rfl rfl (r_ofT (s := s) hO hv hx fun z w1 L hS hz hl => ?_)
 refine g_cl rfl rfl (r_TipsSb hz (by rw [hl]; omega) fun v2 w2 h' => ?_)
 replace hS := hS.call0.2 _ _ h'
 clear h'
 rw [hl] at hS
 refine gW ?_
 refine g_cl rfl rfl (r_SurvN (by omega) (Ow.rd (hS.ok L.length _ getL)) fun v3 w3 h' => ?_)
 replace hS := hS.call0.2 _ _ h'
 rw [tipR_iset] at hS
 refine gW ?_
 exact g_ret (q_1 rfl (h _ _ _ hS))
set_option maxHeartbeats 1000000 in
theorem r_RefsT (hO : TabOk Y) (hv : TabW bX vL x Y w) (hx : x.length = 16) (h : ∀ v' w', St w (fun _ => False) w' [row v' 9 1 Y.length ((Y.map (·.s)).map sv)] → K v' w') : CK Tryz.prog 38 [dp bX] w K := by
 have hS := St.nil w (fun _ => False)
 obtain ⟨a, c, rfl⟩ := hv.r.choose_spec.form
 have hYn := hO.n
 replace hS := hS.nilrow 9 1
 refine call_k Tryz.func38 k38 Tryz.ntmps38 (Nat.le_of_ble_eq_true rfl) ?_
 refine gW ?_
 refine g_lp (ι := Nat × Option Addr × Nat) (fun y => [(0, dp bX), (3, .slice y.2.1 y.1 y.2.2), (4, .int .i64 y.1)]) (fun y w' => y.1 ≤ Y.length ∧ St w (fun _ => False) w' [row (.slice y.2.1 y.1 y.2.2) 9 1 y.1 (((Y.take y.1).map (·.s)).map sv)]) (fun y => Y.length - y.1) (0, none, 0) ⟨rfl, rfl, rfl, trivial⟩ ⟨Nat.zero_le _, hS⟩ ?_
 clear hS
 rintro ⟨k, a1, c1⟩ w1 ⟨hk, hS⟩
 dsimp only at hk hS ⊢
 have hv' := hv.in hS
 obtain ⟨E, hb⟩ := hv'.t
 refine gW ?_
 refine g_l1r rfl rfl hb (v := .slice a Y.length c) (u4_16 hx _) ?_
 refine gW ?_
 (generalize hlt : cmv _ _ _ = q; cases q <;> simp only [cmv, arv, Bool.not_eq_true', Bool.not_eq_false', decide_eq_true_eq, decide_eq_false_iff_not] at hlt <;> first | (exfalso; omega) | skip)
 ·have ek : k = Y.length := by omega
  subst ek
  rw [List.take_length] at hS
  refine gW ?_
  exact g_ret (q_1 rfl (h _ _ hS))
 have hlt : k < Y.length := by omega
 obtain ⟨b2, off, c2, l2, E2, e, hb2, hl2⟩ := hv'.blk hlt
 cases e
 obtain ⟨⟨E3, hz⟩, E4, hzr⟩ := hv'.z _ (List.getElem_mem hlt)
 have hp0 := List.length_pos_iff.2 (hO.ne _ (List.getElem_mem hlt))
 obtain ⟨a3, c3, e3⟩ := hzr.form
 refine gW ?_
 refine g_l1r rfl rfl hb (v := .slice (some ⟨b2, off, none⟩) Y.length c) (u4_16 hx _) ?_
 refine gW ?_
 refine g_rq rfl rfl ⟨by omega, by omega⟩ ?_
 refine gW ?_
 refine g_l1r rfl rfl hb2 (v := dp Y[k].b) (by rw [Int.toNat_natCast]; exact hl2) ?_
 refine gW ?_
 refine g_l1r rfl rfl hz (v := .slice a3 Y[k].l.length c3) (by rw [e3]; rfl) ?_
 refine gW ?_
 rw [show cmv BinOp.gtr (Y[k].l.length : Int) 0 = true from decide_eq_true (by omega)]
 refine gW ?_
 refine g_l1r rfl rfl hb (v := .slice (some ⟨b2, off, none⟩) Y.length c) (u4_16 hx _) ?_
 refine gW ?_
 refine g_rq rfl rfl ⟨by omega, by omega⟩ ?_
 refine gW ?_
 refine g_l1r rfl rfl hb2 (v := dp Y[k].b) (by rw [Int.toNat_natCast]; exact hl2) ?_
 refine gW ?_
 refine g_l1r rfl rfl hz (v := sv Y[k].s) rfl ?_
 refine gW ?_
 refine g_ef rfl (ef_bl (rs := [sv Y[k].s]) hS rfl fun g w1 hS => ?_)
 refine gW ?_
 refine g_ef rfl (ef_ap (n := k) (m := 1) (ys := [sv Y[k].s]) hS 0 rfl rfl rfl (.inl ⟨9, .inr ⟨g, 0, 1, _, rfl, Nat.le_refl _, Nat.le_refl _, rfl, (hS.b 1 rfl).r⟩⟩) rfl (by omega) (by omega) fun v1 w1 hS => ?_)
 obtain ⟨a2, c2, rfl⟩ := hS.rlen 0 rfl
 have e1 : ((Y.take k).map (·.s)).map sv ++ [sv Y[k].s] = ((Y.take (k + 1)).map (·.s)).map sv := by rw [List.take_succ_eq_append_getElem hlt, List.map_append, List.map_append]; rfl
 rw [e1] at hS
 refine gW ?_
 refine g_rq rfl rfl (in64 (by simp only [arv]; omega)) ?_
 refine gW ?_
 exact g_l (k + 1, a2, c2) ⟨rfl, rfl, rfl, trivial⟩ ⟨hlt, hS.sel [0] rfl rfl⟩ (by simp only; omega)
set_option maxHeartbeats 1000000 in
theorem r_AllT (hO : TabOk Y) (hv : TabW bX vL x Y w) (hx : x.length = 16) (h : ∀ v' w', St w (fun _ => False) w' [rowR v' (flt Y)] → K v' w') : CK Tryz.prog 32 [dp bX] w K := by
 have hS := St.nil w (fun _ => False)
 obtain ⟨a, c, rfl⟩ := hv.r.choose_spec.form
 have hYn := hO.n
 have hln := hO.len
 replace hS := hS.nilrow 40 52
 refine call_k Tryz.func32 k32 Tryz.ntmps32 (Nat.le_of_ble_eq_true rfl) ?_
 refine gW ?_
 refine g_lp (ι := Nat × Option Addr × Nat) (fun y => [(0, dp bX), (3, .slice y.2.1 (flt (Y.take y.1)).length y.2.2), (4, .int .i64 y.1)]) (fun y w' => y.1 ≤ Y.length ∧ St w (fun _ => False) w' [row (.slice y.2.1 (flt (Y.take y.1)).length y.2.2) 40 52 (flt (Y.take y.1)).length (fl rc (flt (Y.take y.1)))]) (fun y => Y.length - y.1) (0, none, 0) ⟨rfl, rfl, rfl, trivial⟩ ⟨Nat.zero_le _, hS⟩ ?_
 clear hS
 rintro ⟨k, a1, c1⟩ w1 ⟨hk, hS⟩
 dsimp only at hk hS ⊢
 have hv' := hv.in hS
 obtain ⟨E, hb⟩ := hv'.t
 refine gW ?_
 refine g_l1r rfl rfl hb (v := .slice a Y.length c) (u4_16 hx _) ?_
 refine gW ?_
 (generalize hlt : cmv _ _ _ = q; cases q <;> simp only [cmv, arv, Bool.not_eq_true', Bool.not_eq_false', decide_eq_true_eq, decide_eq_false_iff_not] at hlt <;> first | (exfalso; omega) | skip)
 ·have ek : k = Y.length := by omega
  subst ek
  rw [List.take_length] at hS ⊢
  refine gW ?_
  exact g_ret (q_1 rfl (h _ _ hS))
 have hlt : k < Y.length := by omega
 have hft := flt_take Y (k + 1)
 have e1 := take_flt hlt
 rw [e1, List.length_append] at hft
 obtain ⟨b2, off, c2, l2, E2, e, hb2, hl2⟩ := hv'.blk hlt
 cases e
 obtain ⟨⟨E3, hz⟩, E4, hzr⟩ := hv'.z _ (List.getElem_mem hlt)
 obtain ⟨a3, c3, e3⟩ := hzr.form
 rw [e3] at hzr
 refine gW ?_
 refine g_l1r rfl rfl hb (v := .slice (some ⟨b2, off, none⟩) Y.length c) (u4_16 hx _) ?_
 refine gW ?_
 refine g_rq rfl rfl ⟨by omega, by omega⟩ ?_
 refine gW ?_
 refine g_l1r rfl rfl hb2 (v := dp Y[k].b) (by rw [Int.toNat_natCast]; exact hl2) ?_
 refine gW ?_
 refine g_l1r rfl rfl hz (v := .slice a3 Y[k].l.length c3) (by rw [e3]; rfl) ?_
 refine gW ?_
 refine g_ef rfl (ef_ap (n := (flt (Y.take k)).length) (m := Y[k].l.length) (ys := fl rc Y[k].l) hS 0 rfl rfl rfl (.inl ⟨_, hzr⟩) (fl_one rc_one _) (by omega) (by omega) fun v1 w1 hS => ?_)
 obtain ⟨a2, c2, rfl⟩ := hS.rlen 0 rfl
 rw [← fl_app, ← List.length_append, ← e1] at hS
 refine gW ?_
 refine g_rq rfl rfl (in64 (by simp only [arv]; omega)) ?_
 refine gW ?_
 rw [← List.length_append, ← e1]
 exact g_l (k + 1, a2, c2) ⟨rfl, rfl, rfl, trivial⟩ ⟨hlt, hS⟩ (by simp only; omega)
set_option maxHeartbeats 1000000 in
theorem r_AliveT (hO : TabOk Y) (hv : TabW bX vL x Y w) (hx : x.length = 16) (h : ∀ v' w', St w (fun _ => False) w' [rowI v' (alvT (gps Y))] → K v' w') : CK Tryz.prog 34 [dp bX] w K := by
 have hS := St.nil w (fun _ => False)
 obtain ⟨a, c, rfl⟩ := hv.r.choose_spec.form
 have hYn := hO.n
 have hln := hO.len
 replace hS := hS.nilrow 38 32
 refine call_k Tryz.func34 k34 Tryz.ntmps34 (Nat.le_of_ble_eq_true rfl) ?_
 refine gW ?_
 refine g_lp (ι := Nat × Option Addr × Nat) (fun y => [(0, dp bX), (3, .slice y.2.1 (tps (Y.take y.1)).length y.2.2), (4, .int .i64 y.1)]) (fun y w' => y.1 ≤ Y.length ∧ St w (fun _ => False) w' [row (.slice y.2.1 (tps (Y.take y.1)).length y.2.2) 38 32 (tps (Y.take y.1)).length (fl ic (tps (Y.take y.1)))]) (fun y => Y.length - y.1) (0, none, 0) ⟨rfl, rfl, rfl, trivial⟩ ⟨Nat.zero_le _, hS⟩ ?_
 clear hS
 rintro ⟨k, a1, c1⟩ w1 ⟨hk, hS⟩
 dsimp only at hk hS ⊢
 have hv' := hv.in hS
 obtain ⟨E, hb⟩ := hv'.t
 refine gW ?_
 refine g_l1r rfl rfl hb (v := .slice a Y.length c) (u4_16 hx _) ?_
 refine gW ?_
 (generalize hlt : cmv _ _ _ = q; cases q <;> simp only [cmv, arv, Bool.not_eq_true', Bool.not_eq_false', decide_eq_true_eq, decide_eq_false_iff_not] at hlt <;> first | (exfalso; omega) | skip)
 ·have ek : k = Y.length := by omega
  subst ek
  rw [List.take_length] at hS ⊢
  have htl := tps_len Y
  refine gW ?_
  refine g_cl rfl rfl (r_Set (d := tps Y) rfl (by omega) (Ow.rd (hS.ok 0 _ rfl)) fun v2 w2 h' => ?_)
  replace hS := hS.call0.2 _ _ h'
  rw [tps_alv] at hS
  refine gW ?_
  exact g_ret (q_1 rfl (h _ _ (hS.sel [1] rfl rfl)))
 have hlt : k < Y.length := by omega
 have hft := tps_take Y (k + 1)
 have e1 := take_tps hlt
 have ho := hO.one (List.getElem_mem hlt)
 rw [e1, List.length_append] at hft
 obtain ⟨b2, off, c2, l2, E2, e, hb2, hl2⟩ := hv'.blk hlt
 cases e
 refine gW ?_
 refine g_l1r rfl rfl hb (v := .slice (some ⟨b2, off, none⟩) Y.length c) (u4_16 hx _) ?_
 refine gW ?_
 refine g_rq rfl rfl ⟨by omega, by omega⟩ ?_
 refine gW ?_
 refine g_l1r rfl rfl hb2 (v := dp Y[k].b) (by rw [Int.toNat_natCast]; exact hl2) ?_
 refine gW ?_
 refine g_cl rfl rfl (r_TipsSb (hv'.z _ (List.getElem_mem hlt)) (by omega) fun v3 w3 h' => ?_)
 replace hS := hS.call0.2 _ _ h'
 clear h'
 obtain ⟨a3, c3, rfl⟩ := hS.rlen 1 rfl
 refine gW ?_
 refine g_ef rfl (ef_ap (n := (tps (Y.take k)).length) (m := (tipR Y[k].l).length) (ys := fl ic (tipR Y[k].l)) hS 0 rfl rfl rfl (.inl ⟨_, Ow.rd (hS.ok 1 _ rfl)⟩) (fl_one ic_one _) (by omega) (by omega) fun v1 w1 hS => ?_)
 obtain ⟨a2, c2, rfl⟩ := hS.rlen 0 rfl
 rw [← fl_app, ← List.length_append, ← e1] at hS
 refine gW ?_
 refine g_rq rfl rfl (in64 (by simp only [arv]; omega)) ?_
 refine gW ?_
 rw [← List.length_append, ← e1]
 exact g_l (k + 1, a2, c2) ⟨rfl, rfl, rfl, trivial⟩ ⟨hlt, hS.sel [0] rfl rfl⟩ (by simp only; omega)
set_option maxHeartbeats 2000000 in
theorem r_ListT (hO : TabOk Y) (hv : TabW bX vL x Y w) (hx : x.length = 16) (h : ∀ v' w' L, St w (fun _ => False) w' (L ++ [rowL (v', lstT (gps Y))]) → K v' w') : CK Tryz.prog 36 [dp bX, .pointer none] w K := by
 have hS := St.nil w (fun _ => False)
 obtain ⟨a, c, rfl⟩ := hv.r.choose_spec.form
 have hYn := hO.n
 have hln := hO.len
 replace hS := hS.nilrow 56 1
 replace hS := St.ows_nil rowL hS
 refine call_k Tryz.func36 k36 Tryz.ntmps36 (Nat.le_of_ble_eq_true rfl) ?_
 refine gW ?_
 refine g_lp (ι := Nat × Option Addr × Nat × List Lv1) (fun y => [(0, dp bX), (1, .pointer none), (5, .slice y.2.1 y.2.2.2.length y.2.2.1), (6, .int .i64 y.1)]) (fun y w' => y.1 ≤ Y.length ∧ y.2.2.2.map (·.2) = lsY (Y.take y.1) ∧ St w (fun _ => False) w' [ows rowL y.2.2.2, row (.slice y.2.1 y.2.2.2.length y.2.2.1) 56 1 y.2.2.2.length (y.2.2.2.map (·.1))]) (fun y => Y.length - y.1) (0, none, 0, []) ⟨rfl, rfl, rfl, rfl, trivial⟩ ⟨Nat.zero_le _, rfl, hS⟩ ?_
 clear hS
 rintro ⟨k, a1, c1, ps⟩ w1 ⟨hk, hI, hS⟩
 dsimp only at hk hI hS ⊢
 have hv' := hv.in hS
 obtain ⟨E, hb⟩ := hv'.t
 refine gW ?_
 refine g_l1r rfl rfl hb (v := .slice a Y.length c) (u4_16 hx _) ?_
 refine gW ?_
 (generalize hlt : cmv _ _ _ = q; cases q <;> simp only [cmv, arv, Bool.not_eq_true', Bool.not_eq_false', decide_eq_true_eq, decide_eq_false_iff_not] at hlt <;> first | (exfalso; omega) | skip)
 ·have ek : k = Y.length := by omega
  subst ek
  rw [List.take_length] at hI
  have hfl := flat_lsY hI
  have hpl : ps.length = Y.length := by
   have := congrArg List.length hI
   unfold lsY at this
   rwa [List.length_map, List.length_map] at this
  refine gW ?_
  refine g_cl rfl rfl (r_Join20 (ps := ps) rfl (by omega) (by omega) (flat_name hO hI) (Ow.rd (hS.ok 1 _ rfl)) (lvr hS (i := 0) rfl) fun v2 w2 h' => ?_)
  replace hS := hS.call0.2 _ _ h'
  clear h'
  rw [hI, lsY_lst] at hS
  refine gW ?_
  exact g_ret (q_1 rfl (h _ _ [_, _] hS))
 have hlt : k < Y.length := by omega
 have hpl : ps.length = k := by
  have := congrArg List.length hI
  unfold lsY at this
  rw [List.length_map, List.length_map, List.length_take] at this
  omega
 have hz := hO.s (List.getElem_mem hlt)
 have ho := hO.one (List.getElem_mem hlt)
 have hsb : sibT (gps Y) Y[k].s = Y[k].l := by rw [sibT_lk, lk_in (gps_pw hO.P) hlt]; rfl
 have htl := tipR_len Y[k].l
 have at0 : ∀ {L : List Res} {w' : World}, St w (fun _ => False) w' L → ∃ b2 off c2 l2 E2 E3, Value.slice a Y.length c = .slice (some ⟨b2, off, none⟩) Y.length c2 ∧ Blr w' b2 l2 E2 ∧ l2[off + (k : Int).toNat * 1]? = some (dp Y[k].b) ∧ Blr w' Y[k].b [sv Y[k].s, Y[k].v] E3 := fun hS => by
  obtain ⟨b2, off, c2, l2, E2, e, hb2, hl2⟩ := (hv.in hS).blk hlt
  obtain ⟨⟨E3, hz⟩, _⟩ := (hv.in hS).z _ (List.getElem_mem hlt)
  exact ⟨b2, off, c2, l2, E2, E3, e, hb2, by rw [Int.toNat_natCast]; exact hl2, hz⟩
 obtain ⟨b2, off, c2, l2, E2, E3, e, hb2, hl2, hz2⟩ := at0 hS.drew
 cases e
 refine gW ?_
 refine g_dr mixed ?_
 replace hS := hS.drew
 obtain ⟨E, hb⟩ := (hv.in hS).t
 refine gD ?_
 refine d_l1r rfl rfl rfl hb (v := .slice (some ⟨b2, off, none⟩) Y.length c) (u4_16 hx _) ?_
 refine gD ?_
 refine d_rq rfl rfl rfl ⟨by omega, by omega⟩ ?_
 refine gD ?_
 refine d_l1r rfl rfl rfl hb2 (v := dp Y[k].b) hl2 ?_
 refine gD ?_
 refine d_l1r rfl rfl rfl hz2 (v := sv Y[k].s) rfl ?_
 refine gD ?_
 refine d_l1r rfl rfl rfl hb (v := .slice (some ⟨b2, off, none⟩) Y.length c) (u4_16 hx _) ?_
 refine gD ?_
 refine d_rq rfl rfl rfl ⟨by omega, by omega⟩ ?_
 refine gD ?_
 refine d_l1r rfl rfl rfl hb2 (v := dp Y[k].b) hl2 ?_
 refine gD ?_
 refine d_l1r rfl rfl rfl hz2 (v := sv Y[k].s) rfl ?_
 refine d_cl rfl rfl rfl (r_TipsT (s := Y[k].s) hO (hv.in hS) hx fun v3 w3 L3 h' => ?_)
 rw [hsb] at h'
 have hl := h'.last
 replace hS := hS.call0.2 _ _ h'
 clear h'
 obtain ⟨E5, hb5⟩ := (hv.in hS).t
 obtain ⟨b6, off6, c6, l6, E6, E7, e, hb6, hl6, hz6⟩ := at0 hS
 cases e
 refine ⟨rc_1r rfl rfl rfl rfl hb5 (u4_16 hx _) (rc_1r rfl rfl rfl rfl hb6 hl6 (rc_1r rfl rfl rfl rfl hz6 rfl rc_0)), ?_⟩
 obtain ⟨E8, h3⟩ : LvI w3 v3 (tipR Y[k].l) := ⟨_, Ow.rd hl⟩
 refine d_cl rfl rfl rfl (r_Names20 (s := Y[k].s) (ids := tipR Y[k].l) rfl (by omega) h3 (fun h0 => absurd hz.1 h0) fun _ v4 w4 h' => ?_)
 replace hS := hS.call0.2 _ _ h'
 clear h'
 replace hS : St w (fun _ => False) w4 ([ows rowL ps, row (.slice a1 ps.length c1) 56 1 ps.length (ps.map (·.1))] ++ (L3 ++ [rowI v3 (tipR Y[k].l)]) ++ [rowL (v4, nmL Y[k].s (tipR Y[k].l))]) := hS
 replace hS := hS.front
 replace hS := St.selB (A := [rowL (v4, nmL Y[k].s (tipR Y[k].l)), ows rowL ps, row (.slice a1 ps.length c1) 56 1 ps.length (ps.map (·.1))]) (B := L3 ++ [rowI v3 (tipR Y[k].l)]) hS [1, 0, 2] rfl rfl
 replace hS := hS.only3
 obtain ⟨a4, c4, e4⟩ := hS.rlen 1 rfl
 have e4 : v4 = .slice a4 (nmL Y[k].s (tipR Y[k].l)).length c4 := e4
 have o1 : v4.cells.toList = [v4] := by rw [e4]; rfl
 have o2 : v4.oneCell' = true := by rw [e4]; rfl
 refine ⟨rc_0, ?_⟩
 refine gD ?_
 refine d_fin ?_
 refine gW ?_
 refine g_ef rfl (ef_bl (rs := [v4]) hS (evcs_v rfl o1 e4) fun g w1 hS => ?_)
 refine gW ?_
 refine g_ef rfl (ef_ap (n := ps.length) (m := 1) (ys := [v4]) hS 2 rfl rfl rfl (.inl ⟨56, .inr ⟨g, 0, 1, _, rfl, Nat.le_refl _, Nat.le_refl _, rfl, (hS.b 3 rfl).r⟩⟩) (by simp [o2]) (by omega) (by omega) fun v1 w1 hS => ?_)
 obtain ⟨a2, c2, rfl⟩ := hS.rlen 2 rfl
 replace hS := St.ows_app (hS.sel [0, 1, 2] rfl rfl)
 have e1 : ps.map (·.1) ++ [v4] = (ps ++ [(v4, nmL Y[k].s (tipR Y[k].l))]).map (·.1) := by simp
 have e2 : ps.length + 1 = (ps ++ [(v4, nmL Y[k].s (tipR Y[k].l))]).length := by simp
 rw [e1, e2] at hS
 refine gW ?_
 refine g_rq rfl rfl (in64 (by simp only [arv]; omega)) ?_
 refine gW ?_
 rw [e2]
 refine g_l (k + 1, a2, c2, ps ++ [(v4, nmL Y[k].s (tipR Y[k].l))]) ⟨rfl, rfl, rfl, rfl, trivial⟩ ⟨hlt, ?_, hS⟩ (by simp only; omega)
 dsimp only
 rw [List.map_append, hI, List.take_succ_eq_append_getElem hlt, lsY, lsY, List.map_append]
 rfl
end
def U8s (xs : List Value) : Prop := ∀ v ∈ xs, ∃ n : Int, v = .int .u8 n
theorem u8_bys : ∀ l : Bs, U8s (bys l)
 | [], v, hv => nomatch hv
 | a :: l, v, hv => by
  rcases List.mem_cons.1 (show v ∈ .int .u8 (a.toNat : Int) :: bys l from hv) with rfl | hv
  ·exact ⟨_, rfl⟩
  ·exact u8_bys l v hv
theorem u8_ids : ∀ l : List Id, U8s (fl ic l)
 | [], v, hv => nomatch hv
 | a :: l, v, hv => by
  rw [fl_cons] at hv
  rcases List.mem_append.1 hv with hv | hv
  ·exact u8_bys a.1 v hv
  ·exact u8_ids l v hv
theorem u8_spl {xs : List Value} (h : U8s xs) (i : Nat) (n : Int) : U8s (spl xs i [.int .u8 n]) := fun v hv => by
 unfold spl at hv
 rcases List.mem_append.1 hv with hv | hv
 ·rcases List.mem_append.1 hv with hv | hv
  ·exact h v (List.mem_of_mem_take hv)
  ·rw [List.mem_singleton.1 hv]; exact ⟨_, rfl⟩
 ·exact h v (List.mem_of_mem_drop hv)
theorem spl_left {l rest vs : List Value} {i : Nat} (h : i + vs.length ≤ l.length) : spl (l ++ rest) i vs = spl l i vs ++ rest := by
 unfold spl
 rw [List.take_append_of_le_length (by omega), List.drop_append_of_le_length h]
 simp
section
variable {E : Env} {ks : List KI} {T : TT} {w w0 : World} {S0 : Nat → Prop} {L : List Res}
theorem rc_mr {l : List MOp} {j d n : Nat} {g : Option (Nat × Bool)} {x : Operand} {b off : Nat} {cs : List Value} {ty : TypeId} {rc : List Nat} {T' : TT} {u : List Value} (hl : l[j]? = some ⟨some d, g, .ld x (some n)⟩) (hv : lk T d = some (.agg ⟨u⟩)) (hg : gv T' ⟨some d, g, .ld x (some n)⟩ = some true) (hx : ev T' x = some (.pointer (some ⟨b, off, none⟩))) (hb : Blr w b cs ty) (hn : off + n ≤ cs.length) (hu : (cs.drop off).take n = u)
  (h : RC E l rc T T' w) : RC E l (j :: rc) T T' w := rc_qt hl hv hg rfl (hu ▸ qt_ldmr hx hb hn) h
end
section
variable {w w0 : World} {S0 : Nat → Prop} {L B : List Res} {K : Value → World → Prop} {s : Bs} {E0 E1 : Nat} {bT bm bX : Nat} {vL : Value} {x : List Nat} {Y Z : List Sb}
theorem flt_gps (h : gps Y = gps Z) : flt Y = flt Z := by
 have e : ∀ Y : List Sb, flt Y = ((gps Y).map (·.2)).flatten := fun Y => by unfold flt gps; rw [List.map_map]; rfl
 rw [e, e, h]
theorem ref_gps (h : gps Y = gps Z) : Y.map (·.s) = Z.map (·.s) := by
 have e : ∀ Y : List Sb, Y.map (·.s) = (gps Y).map (·.1) := fun Y => by unfold gps; rw [List.map_map]; rfl
 rw [e, e, h]
theorem b_great {d : List Rec} {v : Value} {n : Nat} (hd : d.length = n) (hn : n ≤ 9223372036854775807) (hr : Rd v E0 52 n (fl rc d) w) (h : ∀ q : Bool, (q = false → n ≤ 40) → K (.bool q) w) : CK Tryz.prog 5 [v] w K := by
 subst hd
 obtain ⟨a, c, rfl⟩ := hr.form
 refine call_k Tryz.func5 k5 Tryz.ntmps5 (Nat.le_of_ble_eq_true rfl) ?_
 refine gW ?_
 refine g_lp (ι := Nat) (fun k => [(0, .slice a d.length c), (5, .int .i64 d.length), (6, .int .i64 k)]) (fun k w' => k ≤ d.length ∧ w' = w) (fun k => d.length - k) 0 ⟨rfl, rfl, rfl, trivial⟩ ⟨Nat.zero_le _, rfl⟩ ?_
 rintro k w1 ⟨hk, rfl⟩
 refine gW ?_
 (generalize hlt : cmv _ _ _ = q; cases q <;> simp only [cmv, arv, Bool.not_eq_true', Bool.not_eq_false', decide_eq_true_eq, decide_eq_false_iff_not] at hlt <;> first | (exfalso; omega) | skip)
 ·refine gW ?_
  refine g_ret (q_1 rfl (h _ fun e => ?_))
  have e : decide ((d.length : Int) > 40) = false := e
  have := of_decide_eq_false e
  omega
 have hlt : k < d.length := by omega
 obtain ⟨b, off, c2, l2, e, hcap, hbd, hb, hx, hj⟩ := rdk hr hlt
 cases e
 refine gW ?_
 refine g_rq rfl rfl ⟨by omega, by omega⟩ ?_
 refine gW ?_
 refine g_l1r rfl rfl hb (v := sv d[k].ref) (by rw [Int.toNat_natCast, hj 18 (by decide)]; exact rc_18 _) ?_
 refine gW ?_
 refine g_cd rfl (fun hq => ?_) (fun hq => ?_)
 ·refine gW ?_
  exact g_ret (q_1 rfl (h true fun e => nomatch e))
 ·refine gW ?_
  refine g_rq rfl rfl (in64 (by simp only [arv]; omega)) ?_
  refine gW ?_
  exact g_l (k + 1) ⟨rfl, rfl, rfl, trivial⟩ ⟨hlt, rfl⟩ (by omega)
set_option maxHeartbeats 4000000 in
theorem b_sameT (hg : Gl w) (hO : TabOk Y) (hO2 : TabOk Z) (hYZ : gps Y = gps Z) (hv : TabV bT bm x Y w) (hw : TabW bX vL x Z w) (hx : x.length = 16) (h : ∀ w', St w (fun _ => False) w' [] → K (.bool true) w') : CK Tryz.prog 9 [dp bT, dp bX, .pointer none, .pointer none, sv [97]] w K := by
 have hS := St.nil w (fun _ => False)
 have hln := hO.len
 have hYn := hO.n
 have hZn := hO2.n
 have eF := flt_gps hYZ
 have eR := ref_gps hYZ
 have hsl := sib_len hO [97]
 have htl := tipR_len (sibT (gps Y) [97])
 have lx : (u4 x).length = 16 := by rw [u4_len, hx]
 have hal : (alvT (gps Y)).length < 400000 := by
  rw [← tps_alv]
  have h1 := kset_len (fun x : Id => x.1) (tps Y)
  have h2 := tps_len Y
  unfold iset
  omega
 have hll : (lstT (gps Y)).length < 2000000 := by
  rw [← lsY_lst]
  unfold jnL joinS
  split
  ·show (srtN (lsY Y).flatten).length < _
   rw [srtN_len]
   have := flat_lsY (Y := Y) (ps := (lsY Y).map fun l => (undef, l)) (by rw [List.map_map]; exact List.map_id _)
   unfold flat at this
   rw [List.map_map] at this
   have e : ((fun p : Lv1 => p.2) ∘ fun l => (undef, l)) = id := rfl
   rw [e, List.map_id] at this
   omega
  ·exact Nat.zero_lt_succ _
 refine call_k Tryz.func9 k9 Tryz.ntmps9 (Nat.le_of_ble_eq_true rfl) ?_
 refine gW ?_
 refine g_cl rfl rfl (b_AllT hO hv hx fun v1 w1 hS => ?_)
 refine gW ?_
 refine g_cl rfl rfl (b_TipsT (s := [97]) hO (hv.in hS) hx fun v2 w1 h' => ?_)
 replace hS := hS.call0.2 _ _ h'
 clear h'
 obtain ⟨a1, c1, rfl⟩ := hS.rlen 0 rfl
 obtain ⟨a2, c2, rfl⟩ := hS.rlen 1 rfl
 replace hS : St w (fun _ => False) w1 [rowR (.slice a1 (flt Y).length c1) (flt Y), rowI (.slice a2 (tipR (sibT (gps Y) [97])).length c2) (tipR (sibT (gps Y) [97]))] := hS
 refine gW ?_
 refine g_dr mixed ?_
 replace hS := hS.drew
 refine gD ?_
 refine d_cl rfl rfl rfl (r_AllT hO2 (hw.in hS) hx fun v3 w3 h' => ⟨rc_0, ?_⟩)
 replace hS := hS.call0.2 _ _ h'
 clear h'
 refine d_cl rfl rfl rfl (r_SameR rfl rfl (by omega) (by rw [← eF]; omega) (Ow.rd (hS.ok 0 _ rfl)) (Ow.rd (hS.ok 2 _ rfl)) fun q hq w3 h' => ⟨rc_0, ?_⟩)
 rw [hq.2 eF]
 clear hq
 replace hS := (hS.call0.2 _ _ h').only2
 clear h'
 refine gD ?_
 refine d_cl rfl rfl rfl (r_TipsT (s := [97]) hO2 (hw.in hS) hx fun v3 w3 L3 h' => ⟨rc_0, ?_⟩)
 rw [← hYZ] at h'
 replace hS := hS.call0.2 _ _ h'
 have hl := h'.last
 clear h'
 refine d_cl rfl rfl rfl (r_SameI rfl rfl (by omega) (by omega) (Ow.rd (hS.ok 1 _ rfl)) (Ow.rd hl) fun w4 h' => ⟨rc_0, ?_⟩)
 replace hS := hS.call0.2 _ _ h'
 rw [List.append_nil] at hS
 replace hS := hS.only2
 clear h' hl
 rw [decide_eq_true rfl]
 refine gD ?_
 obtain ⟨E5, hb5⟩ := (hw.in hS).t
 refine d_qt rfl rfl rfl (qt_ldmr rfl hb5 (by rw [List.length_append, lx]; exact Nat.le_add_right 16 _)) ?_
 rw [u4_h16 hx]
 refine d_cl rfl rfl rfl (b_Vec (hv.in hS) hx fun w4 h' => ?_)
 replace hS := hS.call0.2 _ _ h'
 rw [List.append_nil] at hS
 clear h'
 obtain ⟨E6, hb6⟩ := (hw.in hS).t
 refine ⟨rc_mr rfl rfl rfl rfl hb6 (by rw [List.length_append, lx]; exact Nat.le_add_right 16 _) (u4_h16 hx _) rc_0, ?_⟩
 refine d_qt rfl rfl rfl (qt_eqd (a := u4 x) (b := u4 x) rfl rfl (u4_fit hx) (u4_fit hx)) ?_
 rw [show eqdv .eql (deqv (u4 x) (u4 x)) = true from deqv_eq ⟨fun _ => rfl, fun _ => rfl⟩]
 refine gD ?_
 refine d_cl rfl rfl rfl (b_AliveT hO (hv.in hS) hx fun v3 w3 h' => ⟨rc_0, ?_⟩)
 replace hS := hS.call0.2 _ _ h'
 clear h'
 refine d_cl rfl rfl rfl (r_AliveT hO2 (hw.in hS) hx fun v4 w3 h' => ⟨rc_0, ?_⟩)
 rw [← hYZ] at h'
 replace hS := hS.call0.2 _ _ h'
 clear h'
 refine d_cl rfl rfl rfl (r_SameI rfl rfl (by omega) (by omega) (Ow.rd (hS.ok 2 _ rfl)) (Ow.rd (hS.ok 3 _ rfl)) fun w4 h' => ⟨rc_0, ?_⟩)
 replace hS := (hS.call0.2 _ _ h').only2
 clear h'
 rw [decide_eq_true rfl]
 refine gD ?_
 refine d_cl rfl rfl rfl (b_ListT hO (hg.in hS) (hv.in hS) hx fun v3 w3 h' => ⟨rc_0, ?_⟩)
 replace hS := hS.call0.2 _ _ h'
 clear h'
 refine d_cl rfl rfl rfl (r_ListT hO2 (hw.in hS) hx fun v4 w3 L4 h' => ⟨rc_0, ?_⟩)
 rw [← hYZ] at h'
 replace hS := hS.call0.2 _ _ h'
 have hl := h'.last
 clear h'
 refine d_cl rfl rfl rfl (r_Same rfl rfl (by omega) (by omega) (Ow.rd (hS.ok 2 _ rfl)) (Ow.rd hl) fun w4 h' => ⟨rc_0, ?_⟩)
 replace hS := hS.call0.2 _ _ h'
 rw [List.append_nil] at hS
 replace hS := hS.only2
 clear h' hl
 rw [decide_eq_true rfl]
 refine gD ?_
 refine d_cl rfl rfl rfl (b_SibT (s := [97]) hO (hv.in hS) hx fun v3 w3 h' => ⟨rc_0, ?_⟩)
 replace hS := hS.call0.2 _ _ h'
 clear h'
 refine d_cl rfl rfl rfl (r_SibT (s := [97]) hO2 (hw.in hS) hx fun v4 w3 L4 E4 h' hl => ⟨rc_0, ?_⟩)
 rw [← hYZ] at hl
 replace hS := hS.call0.2 _ _ h'
 clear h'
 refine d_cl rfl rfl rfl (r_SameR rfl rfl (by omega) (by omega) (Ow.rd (hS.ok 2 _ rfl)) hl fun q hq w3 h' => ⟨rc_0, ?_⟩)
 rw [hq.2 rfl]
 clear hq hl
 replace hS := hS.call0.2 _ _ h'
 rw [List.append_nil] at hS
 replace hS := hS.only2
 clear h'
 refine gD ?_
 refine d_cl rfl rfl rfl (b_RefsT hO (hv.in hS) hx fun v3 w3 h' => ⟨rc_0, ?_⟩)
 replace hS := hS.call0.2 _ _ h'
 clear h'
 refine d_cl rfl rfl rfl (r_RefsT hO2 (hw.in hS) hx fun v4 w3 h' => ⟨rc_0, ?_⟩)
 replace hS := hS.call0.2 _ _ h'
 clear h'
 refine d_cl rfl rfl rfl (r_Texts20 (d := Y.map Sb.s) (e := Z.map Sb.s) (by rw [List.length_map]) (by rw [List.length_map]) (by omega) (by omega) (Ow.rd (hS.ok 2 _ rfl)) (Ow.rd (hS.ok 3 _ rfl)) fun w4 h' => ⟨rc_0, ?_⟩)
 replace hS := (hS.call0.2 _ _ h').only2
 clear h'
 rw [decide_eq_true eR]
 refine gD ?_
 refine d_fin ?_
 replace hS : ∃ xs, St w (fun _ => False) w4 [row (.slice a1 (flt Y).length c1) 40 52 (flt Y).length xs, rowI (.slice a2 (tipR (sibT (gps Y) [97])).length c2) (tipR (sibT (gps Y) [97]))] := ⟨_, hS⟩
 obtain ⟨xs0, hS⟩ := hS
 generalize hI : tipR (sibT (gps Y) [97]) = I at hS htl ⊢
 have hFl : (flt Y).length < 400000 := hln
 generalize hF : (flt Y).length = n at hS hFl ⊢
 refine gW ?_
 refine g_atx (ι := Unit) 2 (fun _ => [(12, .slice a2 I.length c2), (13, .bool true)]) (fun _ w' => ∃ xs, St w (fun _ => False) w' [row (.slice a1 n c1) 40 52 n xs, rowI (.slice a2 I.length c2) I]) rfl ?_ ?_
 ·refine g_lp (ι := Nat × List Value) (fun y => [(11, .slice a1 n c1), (12, .slice a2 I.length c2), (13, .bool true), (76, .int .i64 n), (77, .int .i64 y.1)]) (fun y w' => y.1 ≤ n ∧ St w (fun _ => False) w' [row (.slice a1 n c1) 40 52 n y.2, rowI (.slice a2 I.length c2) I]) (fun y => n - y.1) (0, xs0) ⟨rfl, rfl, rfl, rfl, rfl, trivial⟩ ⟨Nat.zero_le _, hS⟩ ?_
  clear hS
  rintro ⟨k, xs⟩ w1 ⟨hk, hS⟩
  dsimp only at hk hS ⊢
  refine gW ?_
  (generalize hlt : cmv _ _ _ = q; cases q <;> simp only [cmv, arv, Bool.not_eq_true', Bool.not_eq_false', decide_eq_true_eq, decide_eq_false_iff_not] at hlt <;> first | (exfalso; omega) | skip)
  ·refine gW ?_
   exact g_jx () ⟨rfl, rfl, trivial⟩ ⟨_, hS⟩
  obtain ⟨b, cap, rest, e, hcap, hl, hS⟩ := hS.open_row 0 rfl (hS.rowb 0 rfl (by omega))
  cases e
  have hbd : (k + 1) * 52 ≤ c1 * 52 := Nat.mul_le_mul_right 52 (by omega)
  have hbd2 : n * 52 ≤ c1 * 52 := Nat.mul_le_mul_right 52 hcap
  refine gW ?_
  refine g_rq rfl rfl ⟨by omega, by omega⟩ ?_
  refine gW ?_
  refine g_ef0 rfl (ef_st (u := .string ⟨#[120]⟩) hS 0 rfl rfl rfl rfl (by rw [hl, Int.toNat_natCast]; show 0 + k * 52 + 18 + 1 ≤ _; omega) rfl fun w1 hS => ?_)
  rw [Int.toNat_natCast] at hS
  have hl2 : (spl (xs ++ rest) (0 + k * 52 + 18) [.string ⟨#[120]⟩]).length = c1 * 52 := by rw [spl_length (by rw [hl]; show 0 + k * 52 + 18 + 1 ≤ _; omega), hl]
  replace hS := hS.close_row (n := n) (cap := c1) (sz := 52) (xs := (spl (xs ++ rest) (0 + k * 52 + 18) [.string ⟨#[120]⟩]).take (n * 52)) 0 rfl hcap (by rw [List.length_take, hl2]; omega) (List.take_prefix _ _) hl2
  refine gW ?_
  refine g_rq rfl rfl (in64 (by simp only [arv]; omega)) ?_
  refine gW ?_
  exact g_l (k + 1, _) ⟨rfl, rfl, rfl, rfl, rfl, trivial⟩ ⟨by simp only; omega, hS⟩ (by simp only; omega)
 clear hS
 rintro _ T w1 hT ⟨xs1, hS⟩
 refine g_wkc hT ?_
 have hI2 := fl_len ic_len I
 have hU := u8_ids I
 refine gW ?_
 refine g_atx (ι := Unit) 2 (fun _ => [(13, .bool true)]) (fun _ w' => St w (fun _ => False) w' []) rfl ?_ ?_
 ·refine g_lp (ι := Nat × List Value) (fun y => [(12, .slice a2 I.length c2), (13, .bool true), (86, .int .i64 I.length), (87, .int .i64 y.1)]) (fun y w' => y.1 ≤ I.length ∧ y.2.length = I.length * 32 ∧ U8s y.2 ∧ St w (fun _ => False) w' [row (.slice a1 n c1) 40 52 n xs1, row (.slice a2 I.length c2) 38 32 I.length y.2]) (fun y => I.length - y.1) (0, fl ic I) ⟨rfl, rfl, rfl, rfl, trivial⟩ ⟨Nat.zero_le _, hI2, hU, hS⟩ ?_
  clear hS
  rintro ⟨k, xs⟩ w1 ⟨hk, hxl, hxu, hS⟩
  dsimp only at hk hxl hxu hS ⊢
  refine gW ?_
  (generalize hlt : cmv _ _ _ = q; cases q <;> simp only [cmv, arv, Bool.not_eq_true', Bool.not_eq_false', decide_eq_true_eq, decide_eq_false_iff_not] at hlt <;> first | (exfalso; omega) | skip)
  ·refine gW ?_
   exact g_jx () ⟨rfl, trivial⟩ (hS.sel [] rfl rfl)
  have hlt : k < I.length := by omega
  obtain ⟨b, cap, rest, e, hcap, hl, hS⟩ := hS.open_row 1 rfl (hS.rowb 1 rfl (by omega))
  cases e
  have hbd : (k + 1) * 32 ≤ I.length * 32 := Nat.mul_le_mul_right 32 (by omega)
  have hbd2 : I.length * 32 ≤ c2 * 32 := Nat.mul_le_mul_right 32 hcap
  have hkx : k * 32 < xs.length := by omega
  obtain ⟨q, hq⟩ := hxu _ (List.getElem_mem hkx)
  have hrd : (xs ++ rest)[0 + (k : Int).toNat * 32 + Int.toNat 0 * 1]? = some (.int .u8 q) := by
   rw [Int.toNat_natCast, show 0 + k * 32 + Int.toNat 0 * 1 = k * 32 by simp, List.getElem?_append_left hkx, List.getElem?_eq_getElem hkx, hq]
  refine gW ?_
  refine g_dr mixed ?_
  replace hS := hS.drew
  refine gD ?_
  refine d_rq rfl rfl rfl ⟨by omega, by omega⟩ ?_
  refine gD ?_
  refine d_rq rfl rfl rfl (by decide) ?_
  refine gD ?_
  refine d_l1 rfl rfl rfl (hS.b 1 rfl) hrd ?_
  refine gD ?_
  refine d_rq rfl rfl rfl ⟨by omega, by omega⟩ ?_
  refine gD ?_
  refine d_rq rfl rfl rfl (by decide) ?_
  refine gD ?_
  refine d_e0 rfl rfl (ef_st hS 1 rfl rfl rfl rfl (by rw [hl, Int.toNat_natCast]; show 0 + k * 32 + 0 * 1 + 1 ≤ _; omega) rfl fun w2 hS => ⟨rc_0, ?_⟩)
  refine d_fin ?_
  rw [Int.toNat_natCast, show 0 + k * 32 + Int.toNat 0 * 1 = k * 32 by simp] at hS
  generalize hv8 : IntKind.u8.wrap _ = m8 at hS
  have e2 : spl (xs ++ rest) (k * 32) [.int .u8 m8] = spl xs (k * 32) [.int .u8 m8] ++ rest := spl_left (by rw [hxl]; show k * 32 + 1 ≤ _; omega)
  have hl3 : (spl xs (k * 32) [.int .u8 m8]).length = I.length * 32 := by rw [spl_length (by rw [hxl]; show k * 32 + 1 ≤ _; omega), hxl]
  replace hS := hS.ceq (l' := spl xs (k * 32) [.int .u8 m8] ++ rest) 1 rfl e2
  replace hS := hS.close_row (n := I.length) (cap := c2) (sz := 32) (xs := spl xs (k * 32) [.int .u8 m8]) 1 rfl hcap hl3 (List.prefix_append _ _) (by rw [List.length_append, hl3]; rw [List.length_append, hxl] at hl; exact hl)
  refine gW ?_
  refine g_rq rfl rfl (in64 (by simp only [arv]; omega)) ?_
  refine gW ?_
  exact g_l (k + 1, spl xs (k * 32) [.int .u8 m8]) ⟨rfl, rfl, rfl, rfl, trivial⟩ ⟨hlt, hl3, u8_spl hxu _ _, hS⟩ (by simp only; omega)
 clear hS
 rintro _ T w1 hT hS
 refine g_wkc hT ?_
 refine gW ?_
 exact g_ret (q_1 rfl (h _ hS))
end
end Go.Proofs.YtfffdhafbbbpcaaGreatDoor
