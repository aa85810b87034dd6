/- Na6 Na7 Na8 Sf Na9 Nb1 Nb2 Oa6 Nb3 Nb4 Nb5 Nb6 -/
import Derived.Test.YtfffdhafbbbpcaaGreatDoorPt5
import Derived.Shelf.Spec.SlicesGrow
import Derived.Shelf.SlSortCmp.NoneTotal
import Derived.Test.YtfffdhafbbbpcaaGreatDoorProg
import Derived.Test.YtfffdhafbbbpcaaGreatDoorChecked
import Derived.KernelRfl
set_option linter.unusedSimpArgs false
set_option linter.unusedVariables false
namespace Go.Proofs.YtfffdhafbbbpcaaGreatDoor
open Go.En
theorem bytesOf_bys (l : Bs) : Lib.bytesOf (l.map fun c => (c.toNat : Int)) = l := by
 unfold Lib.bytesOf
 rw [List.map_map]
 conv => rhs; rw [← List.map_id l]
 refine List.map_congr_left fun c _ => ?_
 simp
theorem brk_le {s : Bs} (h : brk s = 0) : s.length ≤ 255 := by
 have := brkF_0 s 8 0 h 0 (by omega) (by omega)
 simp only [rul, Bool.or_eq_false_iff, decide_eq_false_iff_not] at this
 omega
theorem spl_full (l m : List Value) (h : m.length = l.length) : spl l 0 m = m := by
 simp [spl, h]
theorem wr16 {n : Nat} (h : n < 16) : IntKind.u8.wrap (n : Int) = (n : Int) := by
 have key : ∀ a : Fin 16, IntKind.u8.wrap (a.val : Int) = (a.val : Int) := by decide
 exact key ⟨n, h⟩
section
variable {w w0 : World} {S0 : Nat → Prop} {L B : List Res} {K : Value → World → Prop} {s : Bs}
theorem c_IndexByte {b E n c : Nat} {l : Bs} {x : UInt8} (hb : Blk w b (bys l) E) (hn : l.length = n) (h : K (.int .i64 (Lib.indexByte l x)) w) : CK Tryz.prog 250 [.slice (some ⟨b, 0, none⟩) n c, .int .u8 (x.toNat : Int)] w K := by
 have hc := Tryz.bytes_IndexByte b 0 n c (l.map fun c => (c.toNat : Int)) (x.toNat : Int) w (by simp [hn]) (fun i hi => by
  rw [Nat.zero_add]
  refine (hb.r.cell i).trans ?_
  simp [bys, show i < l.length by omega])
 rw [bytesOf_bys, Int.toNat_natCast, show x.toNat.toUInt8 = x by simp] at hc
 exact ck_of hc h
theorem b_Conflict {id : Bs} (hl : id.length = 32) (hg : Gl w) (h : ∀ w', St w (fun _ => False) w' [] → K (.tuple ⟨[sv (if brk s = 0 then s ++ 126 :: hex id else []), .int .i64 (nmE s)]⟩) w') : CK Tryz.prog 87 [sv s, .agg ⟨bys id⟩] w K := by
 have hS := St.nil w (fun _ => False)
 refine call_k Tryz.func87 k87 Tryz.ntmps87 (Nat.le_of_ble_eq_true rfl) ?_
 refine gW ?_
 refine g_ef rfl (ef_bx hS rfl fun b1 w1 hS => ?_)
 have hS : St w (fun _ => False) w1 [cel b1 (bys id) 38] := hS
 refine gW ?_
 refine g_cl rfl rfl (c_Check (hg.in hS) hS fun w' hS => ?_)
 refine gW ?_
 (refine g_cd rfl (fun hc => ?_) (fun hc => ?_) <;> simp only [cmv, arv, Bool.not_eq_true', Bool.not_eq_false', decide_eq_true_eq, decide_eq_false_iff_not] at hc)
 ·refine gW ?_
  have e : ¬ brk s = 0 := fun e => hc (by unfold nmE; rw [if_pos e])
  rw [if_neg e] at h
  exact g_ret (q_2 rfl rfl (h _ (hS.sel [] rfl rfl)))
 ·have e : brk s = 0 := by
   by_cases e : brk s = 0
   ·exact e
   ·unfold nmE at hc; rw [if_neg e] at hc; omega
  have hle := brk_le e
  rw [if_pos e] at h
  refine gW ?_
  refine g_rq rfl rfl (by rw [Lib.size_eq, Lib.size_eq]; simp; omega) ?_
  refine g_lm rfl rfl (hS.b 0 rfl) (by show 0 + 32 ≤ (bys id).length; rw [bys_length]; omega) ?_
  rw [List.drop_zero, List.take_of_length_le (by rw [bys_length]; omega)]
  refine g_cl rfl rfl (b_Text hl fun w' h' => ?_)
  have hS := by have := hS.call0.2 _ _ h'; rwa [List.append_nil] at this
  refine g_rq rfl rfl (by simp [Lib.size_eq, hex_len]; omega) ?_
  refine gW ?_
  have e0 : nmE s = 0 := by unfold nmE; rw [if_pos e]
  rw [e0] at h
  refine g_ret (q_2 rfl rfl ?_)
  have e1 : sv (s ++ 126 :: hex id) = .string ((⟨s.toArray⟩ : ByteArray) ++ ⟨#[126]⟩ ++ ⟨(hex id).toArray⟩) := by
   rw [← sv_of]; congr 1; simp
  have := h _ (hS.sel [] rfl rfl)
  rw [e1] at this
  exact this
def unhV (s : Bs) : Bs := (unhex s).getD (List.replicate 32 0)
def unhE (s : Bs) : Int := if (unhex s).isSome then 0 else 30
set_option maxRecDepth 100000 in
theorem b_Parse (h : ∀ w', St w (fun _ => False) w' [] → K (.tuple ⟨[.agg ⟨bys (unhV s)⟩, .int .i64 (unhE s)]⟩) w') : CK Tryz.prog 223 [sv s] w K := by
 have hS := St.nil w (fun _ => False)
 refine call_k Tryz.func223 k223 Tryz.ntmps223 (Nat.le_of_ble_eq_true rfl) ?_
 refine gW ?_
 refine g_ef rfl (ef_al hS fun b1 w1 hS => ?_)
 refine gW ?_
 refine g_ef rfl (ef_al hS fun b2 w1 hS => ?_)
 have hS : St w (fun _ => False) w1 [cel b1 (bys (List.replicate 32 0)) 38, cel b2 (bys (List.replicate 32 0)) 38] := hS
 refine gW ?_
 (refine g_cd rfl (fun hc => ?_) (fun hc => ?_) <;> simp only [cmv, arv, Bool.not_eq_true', Bool.not_eq_false', decide_eq_true_eq, decide_eq_false_iff_not] at hc)
 ·refine gW ?_
  have l0 : (bys (List.replicate 32 0)).length = 32 := by rw [bys_length, List.length_replicate]
  refine g_lm rfl rfl (hS.b 1 rfl) (Nat.le_of_eq (l0.symm)) ?_
  rw [List.drop_zero, List.take_of_length_le (Nat.le_of_eq l0)]
  refine g_ef0 rfl (ef_st hS 0 rfl rfl rfl l0 (Nat.le_of_eq l0.symm) (by decide) fun w1 hS => ?_)
  have hS := hS.ceq (l' := bys (List.replicate 32 0)) 0 rfl (spl_full _ _ rfl)
  refine gW ?_
  have e : unhex s = none := by
   unfold unhex
   rw [if_neg]
   rintro ⟨h1, -⟩
   rw [Lib.size_eq] at hc
   exact hc (by exact_mod_cast h1)
  unfold unhV unhE at h
  rw [e] at h
  refine g_ret (q_c2 (n := 32) rfl (by kernel_rfl) (hS.b 0 rfl) (Nat.le_of_eq l0.symm) rfl ?_)
  exact h _ (hS.sel [] rfl rfl)
 ·have hl : s.length = 64 := by rw [Lib.size_eq] at hc; simp at hc; omega
  refine gW ?_
  refine g_lp (ι := Nat) (fun k => [(0, sv s), (2, dp b1), (3, .int .i64 0), (4, dp b2), (12, .int .i64 64), (13, .int .i64 k)])
   (fun k w' => k ≤ 64 ∧ (∀ j, j < k → isD (s.getD j 0) = true) ∧ St w (fun _ => False) w' [cel b1 (bys (List.replicate 32 0)) 38, cel b2 (bys (idst s k)) 38]) (fun k => 64 - k) 0
   ⟨rfl, rfl, rfl, rfl, by show some (Value.int .i64 ((⟨s.toArray⟩ : ByteArray).size : Int)) = _; rw [Lib.size_eq]; simp [hl], rfl, trivial⟩ ⟨Nat.zero_le _, fun j h => absurd h (Nat.not_lt_zero j), by rw [idst_0]; exact hS⟩ ?_
  clear hS
  rintro k w1 ⟨hk, hd, hS⟩
  refine gW ?_
  (refine g_cd rfl (fun hlt => ?_) (fun hlt => ?_) <;> simp only [cmv, arv, Bool.not_eq_true', Bool.not_eq_false', decide_eq_true_eq, decide_eq_false_iff_not] at hlt)
  ·have hlt : k < 64 := by omega
   have hgd : (⟨s.toArray⟩ : ByteArray).data.toList.getD k 0 = s.getD k 0 := rfl
   refine gW ?_
   refine g_ef rfl (ef_bl (rs := bys dig) hS rfl fun g w1 hS => ?_)
   refine g_ef rfl (ef_mb hS 2 rfl rfl fun w1 hS => ?_)
   refine gW ?_
   refine g_rq rfl rfl ⟨by omega, by show (k : Int) < (s.length : Int); omega⟩ ?_
   rw [Int.toNat_natCast, hgd]
   refine g_cl rfl rfl (c_IndexByte (hS.b 2 rfl) rfl ?_)
   refine gW ?_
   have hge := Lib.indexByte_ge dig (s.getD k 0)
   have hlb := ib_lt dig (s.getD k 0)
   (refine g_cd rfl (fun hn => ?_) (fun hn => ?_) <;> simp only [cmv, arv, Bool.not_eq_true', Bool.not_eq_false', decide_eq_true_eq, decide_eq_false_iff_not] at hn)
   ·have e : unhex s = none := by
     unfold unhex
     rw [if_neg]
     rintro ⟨-, h2⟩
     have := List.all_eq_true.1 h2 (s.getD k 0) (by rw [List.getD_eq_getElem?_getD, List.getElem?_eq_getElem (by omega)]; exact List.getElem_mem _)
     unfold isD at this
     rw [decide_eq_true_eq] at this
     omega
    unfold unhV unhE at h
    rw [e] at h
    have l0 : (bys (List.replicate 32 0)).length = 32 := by rw [bys_length, List.length_replicate]
    refine gW ?_
    refine g_ef0 rfl (ef_st (u := .agg ⟨bys (List.replicate 32 0)⟩) hS 0 rfl rfl rfl l0 (Nat.le_of_eq l0.symm) (by decide) fun w1 hS => ?_)
    have hS := hS.ceq (l' := bys (List.replicate 32 0)) 0 rfl (spl_full _ _ rfl)
    refine gW ?_
    refine g_ret (q_c2 (n := 32) rfl (by kernel_rfl) (hS.b 0 rfl) (Nat.le_of_eq l0.symm) rfl ?_)
    exact h _ (hS.sel [] rfl rfl)
   ·have hD : isD (s.getD k 0) = true := by unfold isD; exact decide_eq_true (by omega)
    have hdv : Lib.indexByte dig (s.getD k 0) = ((dgv (s.getD k 0) : Nat) : Int) := by unfold dgv; omega
    have hdl := dgv_lt hD
    have hq : IntKind.i64.wrap ((k : Int).tdiv 2) = ((k / 2 : Nat) : Int) := by
     rw [Int.tdiv_eq_ediv_of_nonneg (by omega), wrap_in (in64 (by omega))]; omega
    refine gW ?_
    refine g_rq rfl rfl (by decide) ?_
    rw [hq]
    refine gW ?_
    refine g_rq rfl rfl (by decide) ?_
    rw [hq]
    refine g_rq rfl rfl ⟨by omega, by omega⟩ ?_
    rw [Int.toNat_natCast]
    have hg2 : (bys (idst s k))[0 + k / 2 * 1]? = some (.int .u8 (((idst s k).getD (k / 2) 0).toNat : Int)) := by
     rw [Nat.zero_add, Nat.mul_one]
     simp [bys, List.getElem?_map, idst_get s (show k / 2 < 32 by omega)]
    refine g_l1 rfl rfl (hS.b 1 rfl) hg2 ?_
    refine g_rq rfl rfl (by decide) ?_
    have hst := idst_step s hlt
    have hv : btv .or .u8 (shv .shl .u8 (((idst s k).getD (k / 2) 0).toNat : Int) 4) (IntKind.u8.wrap (Lib.indexByte dig (s.getD k 0))) = ((if k % 2 = 0 then UInt8.ofNat (dgv (s.getD k 0)) else UInt8.ofNat (16 * dgv (s.getD (k - 1) 0) + dgv (s.getD k 0))).toNat : Int) := by
     rw [hdv, wr16 hdl]
     rw [List.getD_eq_getElem?_getD, idst_get s (show k / 2 < 32 by omega), Option.getD_some]
     by_cases hp : k % 2 = 0
     ·rw [if_neg (by omega), if_neg (by omega), if_pos hp]
      have := put4 (a := 0) (b := dgv (s.getD k 0)) (by decide) hdl
      rw [Nat.mul_zero, Nat.zero_add] at this
      exact this
     ·have hD1 := dgv_lt (hd (k - 1) (by omega))
      rw [if_neg (by omega), if_pos (by omega), if_neg hp, show 2 * (k / 2) = k - 1 by omega]
      have e1 : ((UInt8.ofNat (dgv (s.getD (k - 1) 0))).toNat : Int) = ((dgv (s.getD (k - 1) 0) : Nat) : Int) := by
       rw [UInt8.toNat_ofNat', Nat.mod_eq_of_lt (by omega)]
      rw [e1]
      exact put4 hD1 hdl
    refine gW ?_
    rw [hv]
    refine g_rq rfl rfl ⟨by omega, by omega⟩ ?_
    rw [Int.toNat_natCast]
    refine g_ef0 rfl (ef_st hS 1 rfl rfl rfl rfl (by rw [bys_length, idst_len]; show 0 + k / 2 * 1 + 1 ≤ 32; omega) rfl fun w1 hS => ?_)
    have hS := hS.ceq (l' := bys (idst s (k + 1))) 1 rfl (by
     have := bys_set (idst s k) [] (k / 2) (if k % 2 = 0 then UInt8.ofNat (dgv (s.getD k 0)) else UInt8.ofNat (16 * dgv (s.getD (k - 1) 0) + dgv (s.getD k 0))) (by rw [idst_len]; omega)
     rw [List.append_nil, List.append_nil] at this
     rw [hst]
     exact this)
    refine gW ?_
    refine g_rq rfl rfl (in64 (by simp only [arv]; omega)) ?_
    refine gW ?_
    refine g_l (k + 1) ⟨rfl, rfl, rfl, rfl, rfl, rfl, trivial⟩ ⟨by omega, fun j hj => ?_, hS.sel [0, 1] rfl rfl⟩ (by omega)
    rcases Nat.lt_succ_iff_lt_or_eq.1 hj with hj | rfl
    ·exact hd j hj
    ·exact hD
  ·have e : k = 64 := by omega
   subst e
   have e : unhex s = some (unh s) := by
    unfold unhex
    rw [if_pos]
    refine ⟨hl, List.all_eq_true.2 fun x hx => ?_⟩
    obtain ⟨j, hj, rfl⟩ := List.getElem_of_mem hx
    have := hd j (by omega)
    rwa [List.getD_eq_getElem?_getD, List.getElem?_eq_getElem hj] at this
   unfold unhV unhE at h
   rw [e] at h
   rw [idst_64] at hS
   have l0 : (bys (List.replicate 32 0)).length = 32 := by rw [bys_length, List.length_replicate]
   have l1 : (bys (unh s)).length = 32 := by rw [bys_length, ← idst_64, idst_len]
   refine gW ?_
   refine g_lm rfl rfl (hS.b 1 rfl) (Nat.le_of_eq (l1.symm)) ?_
   rw [List.drop_zero, List.take_of_length_le (Nat.le_of_eq l1)]
   refine g_ef0 rfl (ef_st hS 0 rfl rfl rfl l1 (Nat.le_of_eq l0.symm) (bys_one _) fun w1 hS => ?_)
   have hS := hS.ceq (l' := bys (unh s)) 0 rfl (spl_full _ _ (l1.trans l0.symm))
   refine gW ?_
   refine g_ret (q_c2 (n := 32) rfl (by kernel_rfl) (hS.b 0 rfl) (Nat.le_of_eq l1.symm) rfl ?_)
   rw [List.drop_zero, List.take_of_length_le (Nat.le_of_eq l1)]
   exact h _ (hS.sel [] rfl rfl)
end
def zid : Bs := List.replicate 32 0
def spN (s : Bs) : Bs × Bs × Bool × Int :=
 if ((Lib.cut s [126]).2.2 = true ∧ unhE (Lib.cut s [126]).2.1 ≠ 0) ∨ nmE (Lib.cut s [126]).1 ≠ 0 then ([], zid, false, 40)
 else ((Lib.cut s [126]).1, if (Lib.cut s [126]).2.2 = true then unhV (Lib.cut s [126]).2.1 else zid, (Lib.cut s [126]).2.2, 0)
theorem zid_len : zid.length = 32 := by decide
theorem unhV_len (s : Bs) : (unhV s).length = 32 := by
 unfold unhV unhex
 split
 ·rw [Option.getD_some, ← idst_64, idst_len]
 ·rfl
theorem spN_len (s : Bs) : (spN s).2.1.length = 32 := by
 unfold spN
 split
 ·rfl
 ·split
  ·exact unhV_len _
  ·rfl
theorem q_c4 {P : Program} {a ty n b off t t1 t2 : Nat} {l : List Value} {E : TypeId} {T : TT} {w : World} {K : Value → World → Prop} {u u1 u2 : Value} (hu1 : lk T t1 = some u1) (ht : lk T a = some (.pointer (some ⟨b, off, none⟩))) (h1 : rdAs P ty (some n) = true) (hb : Blk w b l E) (hn : off + n ≤ l.length) (hu2 : lk T t2 = some u2) (hu : lk T t = some u) (h : K (.tuple ⟨[u1, .agg ⟨(l.drop off).take n⟩, u2, u]⟩) w) : QF P [.tmp t1, .cell a ty, .tmp t2, .tmp t] K .ret T [] w :=
 ⟨[_, _, _, _], ⟨_, _, hu1, ⟨_, _, [u2, u], ht, run_loadm h1 hb.r hn, ⟨_, [u], hu2, ⟨_, [], hu, rfl, rfl⟩, rfl⟩, rfl⟩, rfl⟩, h⟩
section
variable {w w0 : World} {S0 : Nat → Prop} {L B : List Res} {K : Value → World → Prop} {s : Bs}
set_option maxRecDepth 100000 in
theorem b_Split (hg : Gl w) (hs : s.length < 4294967281) (h : ∀ w', St w (fun _ => False) w' [] → K (.tuple ⟨[sv (spN s).1, .agg ⟨bys (spN s).2.1⟩, .bool (spN s).2.2.1, .int .i64 (spN s).2.2.2]⟩) w') : CK Tryz.prog 183 [sv s] w K := by
 have hS := St.nil w (fun _ => False)
 have l0 : (bys zid).length = 32 := by rw [bys_length, zid_len]
 refine call_k Tryz.func183 k183 Tryz.ntmps183 (Nat.le_of_ble_eq_true rfl) ?_
 refine gW ?_
 refine g_ef rfl (ef_al hS fun b1 w1 hS => ?_)
 have hS : St w (fun _ => False) w1 [cel b1 (bys zid) 38] := hS
 refine gW ?_
 refine g_cl rfl rfl (c_Cut (hg.in hS) hs hS fun w1 hS => ?_)
 refine gW ?_
 refine g_at 1 [(0, sv s), (2, sv (Lib.cut s [126]).1), (3, dp b1), (4, .bool (Lib.cut s [126]).2.2), (5, .int .i64 (if (Lib.cut s [126]).2.2 = true then unhE (Lib.cut s [126]).2.1 else 0))] (fun w' => St w (fun _ => False) w' [cel b1 (bys (if (Lib.cut s [126]).2.2 = true then unhV (Lib.cut s [126]).2.1 else zid)) 38]) rfl ?_ ?_
 ·refine g_cd rfl (fun hc => ?_) (fun hc => ?_)
  ·rw [if_pos hc, if_pos hc]
   refine gW ?_
   refine g_cl rfl rfl (b_Parse fun w' h' => ?_)
   have hS := by have := hS.call0.2 _ _ h'; rwa [List.append_nil] at this
   refine gW ?_
   refine g_ef0 rfl (ef_st hS 0 rfl rfl rfl (by show (bys _).length = 32; rw [bys_length, unhV_len]) (by rw [l0]; exact Nat.le_refl 32) (bys_one _) fun w1 hS => ?_)
   have hS := hS.ceq (l' := bys (unhV (Lib.cut s [126]).2.1)) 0 rfl (spl_full _ _ (by rw [l0]; show (bys _).length = 32; rw [bys_length, unhV_len]))
   refine gW ?_
   exact g_j ⟨rfl, rfl, rfl, rfl, rfl, trivial⟩ hS
  ·rw [if_neg (by rw [hc]; decide), if_neg (by rw [hc]; decide)]
   refine gW ?_
   exact g_j ⟨rfl, rfl, rfl, rfl, rfl, trivial⟩ hS
 ·clear hS
  generalize hidl : (if (Lib.cut s [126]).2.2 = true then unhV (Lib.cut s [126]).2.1 else zid) = idv
  have l1 : (bys idv).length = 32 := by
   rw [bys_length, ← hidl]; split
   ·exact unhV_len _
   ·rfl
  generalize hee : (if (Lib.cut s [126]).2.2 = true then unhE (Lib.cut s [126]).2.1 else 0) = ee
  intro T w1 hT hS
  refine g_wkc hT ?_
  refine gW ?_
  by_cases he : ee = 0
  ·subst he
   refine gW ?_
   refine g_cl rfl rfl (c_Check (hg.in hS) hS fun w' hS => ?_)
   refine gW ?_
   (refine g_cd rfl (fun hc => ?_) (fun hc => ?_) <;> simp only [cmv, arv, Bool.not_eq_true', Bool.not_eq_false', decide_eq_true_eq, decide_eq_false_iff_not] at hc)
   ·have e : spN s = ([], zid, false, 40) := by
     unfold spN
     rw [if_pos (.inr hc)]
    rw [e] at h
    refine gW ?_
    refine g_ef0 rfl (ef_st (u := .agg ⟨bys zid⟩) hS 0 rfl rfl rfl l0 (by rw [l1]; exact Nat.le_refl 32) (by decide) fun w1 hS => ?_)
    have hS := hS.ceq (l' := bys zid) 0 rfl (spl_full _ _ (l0.trans l1.symm))
    refine gW ?_
    refine g_ret (q_c4 (n := 32) rfl rfl (by kernel_rfl) (hS.b 0 rfl) (Nat.le_of_eq l0.symm) rfl rfl ?_)
    rw [List.drop_zero, List.take_of_length_le (Nat.le_of_eq l0)]
    exact h _ (hS.sel [] rfl rfl)
   ·have e : spN s = ((Lib.cut s [126]).1, idv, (Lib.cut s [126]).2.2, 0) := by
     unfold spN
     rw [if_neg, hidl]
     rintro (⟨h1, h2⟩ | h2)
     ·rw [if_pos h1] at hee
      exact h2 hee
     ·exact h2 hc
    rw [e] at h
    refine gW ?_
    refine g_dr mixed ?_
    have hS := hS.drew
    refine gD ?_
    refine d_lm rfl rfl rfl (hS.b 0 rfl) (Nat.le_of_eq l1.symm) ?_
    rw [List.drop_zero, List.take_of_length_le (Nat.le_of_eq l1)]
    refine gD ?_
    refine d_e rfl rfl ?_
    refine ef_qt ((pev_ok rfl).2 _) ⟨rc_m rfl rfl rfl rfl (hS.b 0 rfl) (Nat.le_of_eq l1.symm) (by rw [List.drop_zero, List.take_of_length_le (Nat.le_of_eq l1)]) rc_0, ?_⟩
    refine d_e0 rfl rfl ?_
    refine ef_st hS 0 rfl rfl rfl l1 (Nat.le_of_eq l1.symm) (bys_one _) fun w1 hS => ⟨rc_0, ?_⟩
    have hS := hS.ceq (l' := bys idv) 0 rfl (spl_full _ _ rfl)
    refine d_e rfl rfl ?_
    refine ef_qt ((pev_ok rfl).2 _) ⟨rc_0, ?_⟩
    refine gD ?_
    refine d_fin ?_
    refine gW ?_
    refine g_ret (q_c4 (n := 32) rfl rfl (by kernel_rfl) (hS.b 0 rfl) (Nat.le_of_eq l1.symm) rfl rfl ?_)
    rw [List.drop_zero, List.take_of_length_le (Nat.le_of_eq l1)]
    exact h _ (hS.sel [] rfl rfl)
  ·have hcm : cmv .neq ee 0 = true := by simp [cmv, he]
   rw [hcm]
   refine gW ?_
   have e : spN s = ([], zid, false, 40) := by
    unfold spN
    rw [if_pos]
    by_cases h1 : (Lib.cut s [126]).2.2 = true
    ·rw [if_pos h1] at hee
     exact .inl ⟨h1, fun h2 => he (by rw [← hee]; exact h2)⟩
    ·rw [if_neg h1] at hee
     exact absurd hee.symm he
   rw [e] at h
   refine gW ?_
   refine g_ef0 rfl (ef_st (u := .agg ⟨bys zid⟩) hS 0 rfl rfl rfl l0 (by rw [l1]; exact Nat.le_refl 32) (by decide) fun w1 hS => ?_)
   have hS := hS.ceq (l' := bys zid) 0 rfl (spl_full _ _ (l0.trans l1.symm))
   refine gW ?_
   refine g_ret (q_c4 (n := 32) rfl rfl (by kernel_rfl) (hS.b 0 rfl) (Nat.le_of_eq l0.symm) rfl rfl ?_)
   rw [List.drop_zero, List.take_of_length_le (Nat.le_of_eq l0)]
   exact h _ (hS.sel [] rfl rfl)
end
abbrev Id := {b : Bs // b.length = 32}
instance : Inhabited Id := ⟨⟨zid, zid_len⟩⟩
def ic (x : Id) : List Value := bys x.1
theorem ic_len (x : Id) : (ic x).length = 32 := by rw [ic, bys_length, x.2]
theorem ic_one (x : Id) : ∀ v ∈ ic x, v.oneCell' = true := fun v hv => by
 have := bys_one x.1
 rw [List.all_eq_true] at this
 exact this v hv
section
variable {w w0 : World} {S0 : Nat → Prop} {L B : List Res} {K : Value → World → Prop} {s : Bs}
theorem fl_set (d : List Id) (rest : List Value) (i : Nat) (x : Id) (h : i < d.length) : spl (fl ic d ++ rest) (i * 32) (ic x) = fl ic (d.set i x) ++ rest := by
 have e1 : fl ic d ++ rest = fl ic (d.take i) ++ (ic (d[i]) ++ (fl ic (d.drop (i + 1)) ++ rest)) := by
  conv => lhs; rw [← List.take_append_drop i d, List.drop_eq_getElem_cons h, fl_app, fl_cons]
  simp
 have e2 : fl ic (d.set i x) ++ rest = fl ic (d.take i) ++ (ic x ++ (fl ic (d.drop (i + 1)) ++ rest)) := by
  rw [List.set_eq_take_append_cons_drop, if_pos h, fl_app, fl_cons]
  simp
 rw [e1, e2]
 have l1 : (fl ic (d.take i)).length = i * 32 := by rw [fl_len ic_len, List.length_take, Nat.min_eq_left (by omega)]
 have := spl_app (fl ic (d.take i)) (ic d[i]) (fl ic (d.drop (i + 1)) ++ rest) (ic x) (by rw [ic_len, ic_len]; exact Nat.le_refl _)
 rw [l1] at this
 rw [this, List.drop_of_length_le (by rw [ic_len, ic_len]; exact Nat.le_refl _), List.append_nil]
theorem fl_atr (d : List Id) (rest : List Value) (i : Nat) (h : i < d.length) : ((fl ic d ++ rest).drop (i * 32)).take 32 = ic d[i] := by
 have l1 := fl_len ic_len d
 rw [List.drop_append_of_le_length (by rw [l1]; omega), List.take_append_of_le_length (by rw [List.length_drop, l1]; omega)]
 exact fl_at ic_len d i _ (List.getElem?_eq_getElem h)
set_option maxRecDepth 100000 in
theorem b_Compact {v : Value} {n : Nat} {d : List Id} (hd : d.length = n) (hn : n < 2000000) (hS : St w0 S0 w [row v 38 32 n (fl ic d)])
  (h : ∀ v' n' w', (ddn d n).length = n' → St w0 S0 w' [row v' 38 32 n' (fl ic (ddn d n))] → K v' w') : CK Tryz.prog 85 [v] w K := by
 obtain ⟨a, c, rfl⟩ := hS.rlen 0 rfl
 refine call_k Tryz.func85 k85 Tryz.ntmps85 (Nat.le_of_ble_eq_true rfl) ?_
 refine gW ?_
 (refine g_cd rfl (fun hc => ?_) (fun hc => ?_) <;> simp only [cmv, arv, Bool.not_eq_true', Bool.not_eq_false', decide_eq_true_eq, decide_eq_false_iff_not] at hc)
 ·refine gW ?_
  have e : ddn d n = d := by
   have : n < 2 := by omega
   match d, n, hd, this with
   | [], 0, _, _ => rfl
   | [x], 1, _, _ => rfl
  rw [e] at h
  exact g_ret (q_1 rfl (h _ _ _ hd hS))
 ·have h2 : 2 ≤ n := by omega
  have hT := hS
  clear hS
  obtain ⟨b, cap, rest, e, hnc, hlc, hS⟩ := hT.open_row 0 rfl (hT.rowb 0 rfl (by omega))
  clear hT
  cases e
  replace hS : St w0 S0 w [cel b (fl ic d ++ rest) 38] := hS
  have hfl := fl_len ic_len d
  refine gW ?_
  refine g_lp (ι := Nat) (fun k => [(0, .slice (some ⟨b, 0, none⟩) n c), (3, .int .i64 k)]) (fun k w' => 1 ≤ k ∧ k ≤ n ∧ ddn d k = d.take k ∧ St w0 S0 w' [cel b (fl ic d ++ rest) 38]) (fun k => n - k) 1 ⟨rfl, rfl, trivial⟩ ⟨Nat.le_refl _, by omega, ?_, hS⟩ ?_
  ·cases d with
   | nil => simp at hd; omega
   | cons x d => simp [ddn]
  clear hS
  rintro k w1 ⟨hk1, hk, hdk, hS⟩
  refine gW ?_
  (refine g_cd rfl (fun hlt => ?_) (fun hlt => ?_) <;> simp only [cmv, arv, Bool.not_eq_true', Bool.not_eq_false', decide_eq_true_eq, decide_eq_false_iff_not] at hlt)
  ·have hlt : k < n := by omega
   refine gW ?_
   refine g_dr mixed ?_
   have hS := hS.drew
   refine gD ?_
   refine d_rq rfl rfl rfl ⟨by omega, by omega⟩ ?_
   refine d_lm rfl rfl rfl (hS.b 0 rfl) (by rw [List.length_append, hfl, hd]; omega) ?_
   rw [Int.toNat_natCast, Nat.zero_add, fl_atr d rest k (by omega)]
   refine gD ?_
   refine d_rq rfl rfl rfl (in64 (by simp only [arv]; omega)) ?_
   rw [show arv BinOp.sub (k : Int) 1 = ((k - 1 : Nat) : Int) by simp only [arv]; omega]
   refine d_rq rfl rfl rfl ⟨by omega, by omega⟩ ?_
   refine d_lm rfl rfl rfl (hS.b 0 rfl) (by rw [List.length_append, hfl, hd]; omega) ?_
   rw [Int.toNat_natCast, Nat.zero_add, fl_atr d rest (k - 1) (by omega)]
   refine d_qt rfl rfl rfl (qt_aq (a := d[k].1) (b := d[k - 1].1) rfl rfl d[k].2 d[k - 1].2) ?_
   refine d_fin ?_
   refine g_cd rfl (fun hc => ?_) (fun hc => ?_)
   ·have he : d[k] = d[k - 1] := by
     have : d[k].1 = d[k - 1].1 := by simpa [aqv] using hc
     exact Subtype.ext this
    have hslo : ∀ x : Operand, slo (some x) 0 ((c : Int)).toNat ((k : Int)).toNat 32 = k * 32 := fun x => by
     simp only [slo, Int.toNat_natCast]
     rw [if_neg (by omega)]
     omega
    refine gW ?_
    refine g_rq rfl rfl ⟨by omega, by omega, by omega, by omega⟩ ?_
    rw [hslo]
    simp only [Int.toNat_natCast]
    refine gW ?_
    refine g_lp (ι := Nat × Nat × List Id) (fun x => [(0, .slice (some ⟨b, 0, none⟩) n c), (3, .int .i64 x.2.1), (4, .slice (some ⟨b, k * 32, none⟩) (n - k) (c - k)), (5, .int .i64 x.1)])
     (fun x w' => 1 ≤ x.1 ∧ k + x.1 ≤ n ∧ x.2.2.length = n ∧ x.2.1 + 1 ≤ k + x.1 ∧ x.2.2.take x.2.1 = ddn d (k + x.1) ∧ x.2.2.drop (k + x.1 - 1) = d.drop (k + x.1 - 1) ∧ St w0 S0 w' [cel b (fl ic x.2.2 ++ rest) 38]) (fun x => n - x.1) (1, k, d) ⟨rfl, rfl, rfl, rfl, trivial⟩ ⟨Nat.le_refl _, by omega, hd, Nat.le_refl _, ?_, rfl, hS⟩ ?_
    ·show d.take k = ddn d (k + 1)
     unfold ddn
     rw [if_neg, hdk]
     rintro (h0 | h0)
     ·omega
     ·exact h0 (by rw [List.getElem?_eq_getElem (by omega), List.getElem?_eq_getElem (by omega), he])
    clear hS
    rintro ⟨j, q, cur⟩ w1 ⟨hj1, hj, hcl, hq, hct, hcd, hS⟩
    dsimp only at hj1 hj hcl hq hct hcd hS ⊢
    have hcf := fl_len ic_len cur
    refine gW ?_
    (refine g_cd rfl (fun hlj => ?_) (fun hlj => ?_) <;> simp only [cmv, arv, Bool.not_eq_true', Bool.not_eq_false', decide_eq_true_eq, decide_eq_false_iff_not] at hlj)
    ·have hlj : k + j < n := by omega
     have hde : ∀ x (h1 : k + j - 1 ≤ x) (h2 : x < n), cur[x]'(by omega) = d[x]'(by omega) := fun x h1 h2 => by
      have e1 : (cur.drop (k + j - 1))[x - (k + j - 1)]? = (d.drop (k + j - 1))[x - (k + j - 1)]? := by rw [hcd]
      rw [List.getElem?_drop, List.getElem?_drop, show k + j - 1 + (x - (k + j - 1)) = x by omega, List.getElem?_eq_getElem (by omega), List.getElem?_eq_getElem (by omega)] at e1
      exact Option.some.inj e1
     refine gW ?_
     refine g_dr mixed ?_
     have hS := hS.drew
     refine gD ?_
     refine d_rq rfl rfl rfl ⟨by omega, by omega⟩ ?_
     refine d_lm rfl rfl rfl (hS.b 0 rfl) (by rw [List.length_append, hcf, hcl]; omega) ?_
     rw [Int.toNat_natCast, show k * 32 + j * 32 = (k + j) * 32 by omega, fl_atr cur rest (k + j) (by omega), hde (k + j) (by omega) hlj]
     refine gD ?_
     refine d_rq rfl rfl rfl (in64 (by simp only [arv]; omega)) ?_
     rw [show arv BinOp.sub (j : Int) 1 = ((j - 1 : Nat) : Int) by simp only [arv]; omega]
     refine d_rq rfl rfl rfl ⟨by omega, by omega⟩ ?_
     refine d_lm rfl rfl rfl (hS.b 0 rfl) (by rw [List.length_append, hcf, hcl]; omega) ?_
     rw [Int.toNat_natCast, show k * 32 + (j - 1) * 32 = (k + j - 1) * 32 by omega, fl_atr cur rest (k + j - 1) (by omega), hde (k + j - 1) (by omega) (by omega)]
     refine d_qt rfl rfl rfl (qt_aq (a := d[k + j].1) (b := d[k + j - 1].1) rfl rfl d[k + j].2 d[k + j - 1].2) ?_
     refine d_fin ?_
     refine g_cd rfl (fun hc => ?_) (fun hc => ?_)
     ·have hne : d[k + j] ≠ d[k + j - 1] := by
       intro e
       rw [e] at hc
       simp [aqv] at hc
      refine gW ?_
      refine g_rq rfl rfl ⟨by omega, by omega⟩ ?_
      refine g_lm rfl rfl (hS.b 0 rfl) (by rw [List.length_append, hcf, hcl]; omega) ?_
      rw [Int.toNat_natCast, show k * 32 + j * 32 = (k + j) * 32 by omega, fl_atr cur rest (k + j) (by omega), hde (k + j) (by omega) hlj]
      refine g_rq rfl rfl ⟨by omega, by omega⟩ ?_
      rw [Int.toNat_natCast, Nat.zero_add]
      refine g_ef0 rfl (ef_st hS 0 rfl rfl rfl (ic_len _) (by rw [List.length_append, hcf, hcl]; omega) (bys_one _) fun w1 hS => ?_)
      have hS := hS.ceq (l' := fl ic (cur.set q d[k + j]) ++ rest) 0 rfl (fl_set cur rest q _ (by omega))
      refine gW ?_
      refine g_rq rfl rfl (in64 (by simp only [arv]; omega)) ?_
      refine gW ?_
      refine g_rq rfl rfl (in64 (by simp only [arv]; omega)) ?_
      refine gW ?_
      refine g_l (j + 1, q + 1, cur.set q d[k + j]) ⟨rfl, rfl, rfl, rfl, trivial⟩ ⟨by simp only; omega, by simp only; omega, by simp only [List.length_set]; exact hcl, by simp only; omega, ?_, ?_, hS⟩ (by simp only; omega)
      ·show (cur.set q d[k + j]).take (q + 1) = ddn d (k + j + 1)
       unfold ddn
       rw [if_pos (.inr (by rw [List.getElem?_eq_getElem (by omega), List.getElem?_eq_getElem (by omega)]; simpa using hne)), ← hct, List.getElem?_eq_getElem (by omega)]
       rw [List.take_succ_eq_append_getElem (by rw [List.length_set]; omega), List.getElem_set_self, List.take_set_of_le (Nat.le_refl _)]
       rfl
      ·show (cur.set q d[k + j]).drop (k + j + 1 - 1) = d.drop (k + j + 1 - 1)
       rw [List.drop_set_of_lt (by omega)]
       have := congrArg (List.drop 1) hcd
       rw [List.drop_drop, List.drop_drop] at this
       rwa [show k + j - 1 + 1 = k + j + 1 - 1 by omega] at this
     ·have he2 : d[k + j] = d[k + j - 1] := by
       have : d[k + j].1 = d[k + j - 1].1 := by simpa [aqv] using hc
       exact Subtype.ext this
      refine gW ?_
      refine g_rq rfl rfl (in64 (by simp only [arv]; omega)) ?_
      refine gW ?_
      refine g_l (j + 1, q, cur) ⟨rfl, rfl, rfl, rfl, trivial⟩ ⟨by simp only; omega, by simp only; omega, hcl, by simp only; omega, ?_, ?_, hS⟩ (by simp only; omega)
      ·show cur.take q = ddn d (k + j + 1)
       unfold ddn
       rw [if_neg, hct]
       rintro (h0 | h0)
       ·omega
       ·exact h0 (by rw [List.getElem?_eq_getElem (by omega), List.getElem?_eq_getElem (by omega), he2])
      ·show cur.drop (k + j + 1 - 1) = d.drop (k + j + 1 - 1)
       have := congrArg (List.drop 1) hcd
       rw [List.drop_drop, List.drop_drop] at this
       rwa [show k + j - 1 + 1 = k + j + 1 - 1 by omega] at this
    ·have hjn : k + j = n := by omega
     have hslo2 : ∀ x : Operand, slo (some x) 0 ((c : Int)).toNat ((q : Int)).toNat 32 = q * 32 := fun x => by
      simp only [slo, Int.toNat_natCast]
      rw [if_neg (by omega)]
      omega
     refine gW ?_
     refine g_rq rfl rfl ⟨by omega, by omega, by omega, by omega⟩ ?_
     rw [hslo2]
     simp only [Int.toNat_natCast]
     refine g_ef0 rfl (ef_clr hS 0 rfl rfl (by rw [List.length_append, hcf, hcl]; omega) (by decide) fun w1 hS => ?_)
     have hdq : ddn d n = cur.take q := by rw [hct, hjn]
     have hql : (ddn d n).length = q := by rw [hdq, List.length_take, Nat.min_eq_left (by omega)]
     refine gW ?_
     refine g_qt rfl (qt_slh (h := q) rfl (fun h => by cases h) rfl (by omega) hnc) ?_
     refine gW ?_
     have hrl : (rep (n - q) [(32, Value.int .u8 0)]).length = (n - q) * 32 := by rw [rep_length]; rfl
     refine g_ret (q_1 rfl (h _ _ _ hql (hS.close_row (n := q) 0 rfl (by omega) (by rw [fl_len ic_len, hql]) ?_ ?_)))
     ·have e1 : (fl ic cur ++ rest).take (q * 32) = fl ic (ddn d n) := by
       rw [List.take_append_of_le_length (by rw [hcf, hcl]; omega), fl_take ic_len, hdq]
      refine ⟨rep (n - q) [(32, Value.int .u8 0)] ++ (fl ic cur ++ rest).drop (q * 32 + (rep (n - q) [(32, Value.int .u8 0)]).length), ?_⟩
      rw [← e1]
      simp [spl]
     ·refine (spl_length ?_).trans ?_
      ·rw [hrl, List.length_append, hcf, hcl]; omega
      ·rw [List.length_append, hcf, hcl]
       rw [List.length_append, hfl, hd] at hlc
       exact hlc
   ·have he : d[k] ≠ d[k - 1] := by
     intro e
     rw [e] at hc
     simp [aqv] at hc
    refine gW ?_
    refine g_rq rfl rfl (in64 (by simp only [arv]; omega)) ?_
    refine gW ?_
    refine g_l (k + 1) ⟨rfl, rfl, trivial⟩ ⟨by omega, by omega, ?_, hS⟩ (by omega)
    unfold ddn
    rw [if_pos (.inr (by rw [List.getElem?_eq_getElem (by omega), List.getElem?_eq_getElem (by omega)]; simpa using he)), hdk, List.getElem?_eq_getElem (by omega), List.take_succ_eq_append_getElem (by omega)]
    rfl
  ·have e : k = n := by omega
   subst e
   have e : ddn d k = d := by rw [hdk, List.take_of_length_le (by omega)]
   rw [e] at h
   refine gW ?_
   exact g_ret (q_1 rfl (h _ _ _ hd (hS.close_row 0 rfl hnc (by rw [hfl, hd]) (List.prefix_append _ _) hlc)))
end
end Go.Proofs.YtfffdhafbbbpcaaGreatDoor
namespace Go.Proofs
open Go.Shelf
def Tryz.sortId_ren : Go.Shelf.Ren := ⟨fun | 6 => 83 | 15 => 93 | 14 => 115 | 28 => 137 | 29 => 138 | 20 => 153 | 21 => 154 | 22 => 155 | 23 => 156 | 24 => 157 | 25 => 158 | 26 => 159 | 27 => 160 | 46 => 208 | 47 => 185 | 48 => 186 | 49 => 209 | 50 => 210 | 57 => 234 | n => n, fun | 22 => 51 | 24 => 38 | 25 => 134 | 3 => 3 | 39 => 143 | 0 => 0 | 53 => 22 | 55 => 189 | 4 => 4 | 46 => 180 | 45 => 179 | 50 => 185 | 5 => 5 | 9 => 9 | 66 => 248 | 70 => 252 | 76 => 284 | 77 => 285 | n => n, fun | n => n⟩
theorem Tryz.sortId : Go.Proofs.SlLaysF0.n6 Tryz.prog Tryz.sortId_ren := {
 mixed := by kernel_rfl
 f6 := ⟨Tryz.f83.name, by decide, Tryz.func83.trans (congrArg some (by kernel_rfl))⟩
 f14 := ⟨Tryz.f115.name, by decide, Tryz.func115.trans (congrArg some (by kernel_rfl))⟩
 f15 := Tryz.func93.trans (congrArg some (by kernel_rfl))
 f20 := ⟨Tryz.f153.name, by decide, Tryz.func153.trans (congrArg some (by kernel_rfl))⟩
 f21 := ⟨Tryz.f154.name, by decide, Tryz.func154.trans (congrArg some (by kernel_rfl))⟩
 f22 := ⟨Tryz.f155.name, by decide, Tryz.func155.trans (congrArg some (by kernel_rfl))⟩
 f23 := ⟨Tryz.f156.name, by decide, Tryz.func156.trans (congrArg some (by kernel_rfl))⟩
 f24 := ⟨Tryz.f157.name, by decide, Tryz.func157.trans (congrArg some (by kernel_rfl))⟩
 f25 := ⟨Tryz.f158.name, by decide, Tryz.func158.trans (congrArg some (by kernel_rfl))⟩
 f26 := ⟨Tryz.f159.name, by decide, Tryz.func159.trans (congrArg some (by kernel_rfl))⟩
 f27 := ⟨Tryz.f160.name, by decide, Tryz.func160.trans (congrArg some (by kernel_rfl))⟩
 f28 := Tryz.func137.trans (congrArg some (by kernel_rfl))
 f29 := Tryz.func138.trans (congrArg some (by kernel_rfl))
 f46 := ⟨Tryz.f208.name, by decide, Tryz.func208.trans (congrArg some (by kernel_rfl))⟩
 f47 := Tryz.func185.trans (congrArg some (by kernel_rfl))
 f48 := Tryz.func186.trans (congrArg some (by kernel_rfl))
 f49 := ⟨Tryz.f209.name, by decide, Tryz.func209.trans (congrArg some (by kernel_rfl))⟩
 f50 := ⟨Tryz.f210.name, by decide, Tryz.func210.trans (congrArg some (by kernel_rfl))⟩
 f57 := ⟨Tryz.f234.name, by decide, Tryz.func234.trans (congrArg some (by kernel_rfl))⟩
 t0 := Tryz.underlying0
 a0 := Tryz.isAgg0
 z0 := Tryz.sizeOf0
 v0 := Tryz.zeroValue0
 t3 := Tryz.underlying3
 a3 := Tryz.isAgg3
 z3 := Tryz.sizeOf3
 v3 := Tryz.zeroValue3
 t4 := Tryz.underlying4
 a4 := Tryz.isAgg4
 z4 := Tryz.sizeOf4
 v4 := Tryz.zeroValue4
 t5 := Tryz.underlying5
 a5 := Tryz.isAgg5
 z5 := Tryz.sizeOf5
 v5 := Tryz.zeroValue5
 t9 := Tryz.underlying9
 a9 := Tryz.isAgg9
 z9 := Tryz.sizeOf9
 v9 := Tryz.zeroValue9
 t22 := Tryz.underlying51
 a22 := Tryz.isAgg51
 z22 := Tryz.sizeOf51
 v22 := Tryz.zeroValue51
 t25 := Tryz.underlying134
 a25 := Tryz.isAgg134
 z25 := Tryz.sizeOf134
 v25 := Tryz.zeroValue134
 t39 := Tryz.underlying143
 a39 := Tryz.isAgg143
 z39 := Tryz.sizeOf143
 v39 := Tryz.zeroValue143
 t45 := Tryz.underlying179
 a45 := Tryz.isAgg179
 z45 := Tryz.sizeOf179
 v45 := Tryz.zeroValue179
 t46 := Tryz.underlying180
 a46 := Tryz.isAgg180
 z46 := Tryz.sizeOf180
 v46 := Tryz.zeroValue180
 t50 := Tryz.underlying185
 a50 := Tryz.isAgg185
 z50 := Tryz.sizeOf185
 v50 := Tryz.zeroValue185
 t53 := Tryz.underlying22
 a53 := Tryz.isAgg22
 z53 := Tryz.sizeOf22
 v53 := Tryz.zeroValue22
 t55 := Tryz.underlying189
 a55 := Tryz.isAgg189
 z55 := Tryz.sizeOf189
 v55 := Tryz.zeroValue189
 t66 := Tryz.underlying248
 a66 := Tryz.isAgg248
 z66 := Tryz.sizeOf248
 v66 := Tryz.zeroValue248
 t70 := Tryz.underlying252
 a70 := Tryz.isAgg252
 z70 := Tryz.sizeOf252
 v70 := Tryz.zeroValue252
 t76 := Tryz.underlying284
 a76 := Tryz.isAgg284
 z76 := Tryz.sizeOf284
 v76 := Tryz.zeroValue284
 t77 := Tryz.underlying285
 a77 := Tryz.isAgg285
 z77 := Tryz.sizeOf285
 v77 := Tryz.zeroValue285 }
def Tryz.sortLi_ren : Go.Shelf.Ren := ⟨fun | 6 => 88 | 15 => 93 | 14 => 123 | 28 => 137 | 29 => 138 | 20 => 173 | 21 => 174 | 22 => 175 | 23 => 176 | 24 => 177 | 25 => 178 | 26 => 179 | 27 => 180 | 46 => 219 | 47 => 185 | 48 => 186 | 49 => 220 | 50 => 221 | 57 => 248 | n => n, fun | 22 => 56 | 24 => 59 | 25 => 138 | 3 => 3 | 39 => 143 | 0 => 0 | 53 => 22 | 55 => 189 | 4 => 4 | 46 => 180 | 45 => 179 | 50 => 185 | 5 => 5 | 9 => 9 | 66 => 248 | 70 => 252 | 76 => 284 | 77 => 285 | n => n, fun | n => n⟩
theorem Tryz.sortLi : Go.Proofs.SlLaysF0.n6 Tryz.prog Tryz.sortLi_ren := {
 mixed := by kernel_rfl
 f6 := ⟨Tryz.f88.name, by decide, Tryz.func88.trans (congrArg some (by kernel_rfl))⟩
 f14 := ⟨Tryz.f123.name, by decide, Tryz.func123.trans (congrArg some (by kernel_rfl))⟩
 f15 := Tryz.func93.trans (congrArg some (by kernel_rfl))
 f20 := ⟨Tryz.f173.name, by decide, Tryz.func173.trans (congrArg some (by kernel_rfl))⟩
 f21 := ⟨Tryz.f174.name, by decide, Tryz.func174.trans (congrArg some (by kernel_rfl))⟩
 f22 := ⟨Tryz.f175.name, by decide, Tryz.func175.trans (congrArg some (by kernel_rfl))⟩
 f23 := ⟨Tryz.f176.name, by decide, Tryz.func176.trans (congrArg some (by kernel_rfl))⟩
 f24 := ⟨Tryz.f177.name, by decide, Tryz.func177.trans (congrArg some (by kernel_rfl))⟩
 f25 := ⟨Tryz.f178.name, by decide, Tryz.func178.trans (congrArg some (by kernel_rfl))⟩
 f26 := ⟨Tryz.f179.name, by decide, Tryz.func179.trans (congrArg some (by kernel_rfl))⟩
 f27 := ⟨Tryz.f180.name, by decide, Tryz.func180.trans (congrArg some (by kernel_rfl))⟩
 f28 := Tryz.func137.trans (congrArg some (by kernel_rfl))
 f29 := Tryz.func138.trans (congrArg some (by kernel_rfl))
 f46 := ⟨Tryz.f219.name, by decide, Tryz.func219.trans (congrArg some (by kernel_rfl))⟩
 f47 := Tryz.func185.trans (congrArg some (by kernel_rfl))
 f48 := Tryz.func186.trans (congrArg some (by kernel_rfl))
 f49 := ⟨Tryz.f220.name, by decide, Tryz.func220.trans (congrArg some (by kernel_rfl))⟩
 f50 := ⟨Tryz.f221.name, by decide, Tryz.func221.trans (congrArg some (by kernel_rfl))⟩
 f57 := ⟨Tryz.f248.name, by decide, Tryz.func248.trans (congrArg some (by kernel_rfl))⟩
 t0 := Tryz.underlying0
 a0 := Tryz.isAgg0
 z0 := Tryz.sizeOf0
 v0 := Tryz.zeroValue0
 t3 := Tryz.underlying3
 a3 := Tryz.isAgg3
 z3 := Tryz.sizeOf3
 v3 := Tryz.zeroValue3
 t4 := Tryz.underlying4
 a4 := Tryz.isAgg4
 z4 := Tryz.sizeOf4
 v4 := Tryz.zeroValue4
 t5 := Tryz.underlying5
 a5 := Tryz.isAgg5
 z5 := Tryz.sizeOf5
 v5 := Tryz.zeroValue5
 t9 := Tryz.underlying9
 a9 := Tryz.isAgg9
 z9 := Tryz.sizeOf9
 v9 := Tryz.zeroValue9
 t22 := Tryz.underlying56
 a22 := Tryz.isAgg56
 z22 := Tryz.sizeOf56
 v22 := Tryz.zeroValue56
 t25 := Tryz.underlying138
 a25 := Tryz.isAgg138
 z25 := Tryz.sizeOf138
 v25 := Tryz.zeroValue138
 t39 := Tryz.underlying143
 a39 := Tryz.isAgg143
 z39 := Tryz.sizeOf143
 v39 := Tryz.zeroValue143
 t45 := Tryz.underlying179
 a45 := Tryz.isAgg179
 z45 := Tryz.sizeOf179
 v45 := Tryz.zeroValue179
 t46 := Tryz.underlying180
 a46 := Tryz.isAgg180
 z46 := Tryz.sizeOf180
 v46 := Tryz.zeroValue180
 t50 := Tryz.underlying185
 a50 := Tryz.isAgg185
 z50 := Tryz.sizeOf185
 v50 := Tryz.zeroValue185
 t53 := Tryz.underlying22
 a53 := Tryz.isAgg22
 z53 := Tryz.sizeOf22
 v53 := Tryz.zeroValue22
 t55 := Tryz.underlying189
 a55 := Tryz.isAgg189
 z55 := Tryz.sizeOf189
 v55 := Tryz.zeroValue189
 t66 := Tryz.underlying248
 a66 := Tryz.isAgg248
 z66 := Tryz.sizeOf248
 v66 := Tryz.zeroValue248
 t70 := Tryz.underlying252
 a70 := Tryz.isAgg252
 z70 := Tryz.sizeOf252
 v70 := Tryz.zeroValue252
 t76 := Tryz.underlying284
 a76 := Tryz.isAgg284
 z76 := Tryz.sizeOf284
 v76 := Tryz.zeroValue284
 t77 := Tryz.underlying285
 a77 := Tryz.isAgg285
 z77 := Tryz.sizeOf285
 v77 := Tryz.zeroValue285 }
def Tryz.growLi_ren : Go.Shelf.Ren := ⟨fun | 4 => 127 | n => n, fun | 22 => 56 | 25 => 59 | 3 => 3 | 4 => 4 | 9 => 9 | 20 => 20 | 0 => 0 | n => n, fun | n => n⟩
theorem Tryz.growLi : Go.Proofs.Lays8.n4 Tryz.prog Tryz.growLi_ren := {
 mixed := by kernel_rfl
 f4 := ⟨Tryz.f127.name, by decide, Tryz.func127.trans (congrArg some (by kernel_rfl))⟩
 t0 := Tryz.underlying0
 a0 := Tryz.isAgg0
 z0 := Tryz.sizeOf0
 v0 := Tryz.zeroValue0
 t3 := Tryz.underlying3
 a3 := Tryz.isAgg3
 z3 := Tryz.sizeOf3
 v3 := Tryz.zeroValue3
 t4 := Tryz.underlying4
 a4 := Tryz.isAgg4
 z4 := Tryz.sizeOf4
 v4 := Tryz.zeroValue4
 t9 := Tryz.underlying9
 a9 := Tryz.isAgg9
 z9 := Tryz.sizeOf9
 v9 := Tryz.zeroValue9
 t20 := Tryz.underlying20
 a20 := Tryz.isAgg20
 z20 := Tryz.sizeOf20
 v20 := Tryz.zeroValue20
 t22 := Tryz.underlying56
 a22 := Tryz.isAgg56
 z22 := Tryz.sizeOf56
 v22 := Tryz.zeroValue56 }
end Go.Proofs
namespace Go.Proofs.YtfffdhafbbbpcaaGreatDoor
open Go.En
def iset (l : List Id) : List Id := kset (fun x : Id => x.1) l
theorem id_inj (x y : Id) (h : x.1 = y.1) : x = y := Subtype.ext h
section
variable {w w0 : World} {S0 : Nat → Prop} {L B : List Res} {K : Value → World → Prop} {s : Bs} {E0 E1 : Nat}
theorem b_CloneI {v : Value} {n : Nat} {d : List Id} (hd : d.length = n) (hn : n < 2000000) (hr : Rd v E0 32 n (fl ic d) w) (h : ∀ v' w', St w (fun _ => False) w' [row v' 38 32 n (fl ic d)] → K v' w') : CK Tryz.prog 82 [v] w K := by
 have hS := St.nil w (fun _ => False)
 obtain ⟨a, c, rfl⟩ := hr.form
 refine call_k Tryz.func82 k82 Tryz.ntmps82 (Nat.le_of_ble_eq_true rfl) ?_
 refine gW ?_
 refine g_cd rfl (fun hc => ?_) (fun hc => ?_)
 ·have e : a = none := by cases a <;> simp_all [nilv]
  subst e
  have e0 : n = 0 ∧ fl ic d = [] := by
   rcases hr with ⟨⟨a, h1⟩, h2, h3⟩ | ⟨b, off, cap, l, h1, _⟩
   ·exact ⟨h2, h3⟩
   ·cases h1
  rw [e0.2, e0.1] at h
  refine gW ?_
  exact g_ret (q_1 rfl (h _ _ (hS.nilrow 38 32)))
 ·refine gW ?_
  refine g_ef rfl (ef_bl hS rfl fun b w1 hS => ?_)
  have hS := hS.conv (r' := row (.slice (some ⟨b, 0, none⟩) 0 0) 38 32 0 []) 0 rfl (fun b' h => h) (.inr ⟨b, 0, [], rfl, Nat.le_refl _, rfl, rfl, hS.b 0 rfl⟩)
  refine gW ?_
  refine g_ef rfl (ef_ap (n := 0) (m := n) hS 0 rfl rfl rfl (.inl ⟨_, hr.same fun b' hb' => hS.fr.kept b' ?_ (fun h => h)⟩) (fl_one ic_one d) (by omega) (by omega) fun v1 w1 hS => ?_)
  ·exact hr.lt b' hb'
  ·rw [Nat.zero_add, List.nil_append] at hS
   refine gW ?_
   exact g_ret (q_1 rfl (h _ _ hS))
theorem b_SortI {v : Value} {n : Nat} {d : List Id} (hd : d.length = n) (hn : n < 2000000) (hS : St w0 S0 w [row v 38 32 n (fl ic d)]) (h : ∀ w', St w0 S0 w' [row v 38 32 n (fl ic (srt (fun x : Id => x.1) d))] → K (.tuple ⟨[]⟩) w') : CK Tryz.prog 83 [v, .func (.func 84) ⟨[]⟩ ⟨[]⟩] w K := by
 rcases hS.ok 0 _ rfl with ⟨rfl, rfl, h3⟩ | ⟨b, cap, rest, rfl, _⟩
 ·have e : d = [] := List.eq_nil_of_length_eq_zero hd
  subst e
  refine (AnyF.slices_SortFunc_none Tryz.sortId none 0 (.func (.func 84) ⟨[]⟩ ⟨[]⟩) w).mono ?_
  rintro e w' ⟨rfl, rfl⟩
  refine ⟨_, rfl, h _ ?_⟩
  have : srt (fun x : Id => x.1) [] = [] := List.eq_nil_of_length_eq_zero (srt_len _ [])
  rw [this]
  exact hS
 ·refine ck_sortF (i := 0) Tryz.sortId Tryz.isAgg38 Tryz.sizeOf38 ic_len ic_one (fun x y : Id => Lib.compareBytes x.1 y.1) (swo_key fun x : Id => x.1) (enters_of Tryz.func84 (by kernel_rfl) rfl) (fun W x y K h => b_Compare x.2 y.2 h) hS rfl hd (by omega) fun d' w' hp hs hS => ?_
  have e : d' = srt (fun x : Id => x.1) d := srt_unique _ id_inj hp (hs.imp fun h => (lt_ble (fun x : Id => x.1) _ _).1 h)
  rw [e] at hS
  exact h _ hS
theorem b_Set {v : Value} {n : Nat} {d : List Id} (hd : d.length = n) (hn : n < 2000000) (hr : Rd v E0 32 n (fl ic d) w) (h : ∀ v' w', St w (fun _ => False) w' [row v' 38 32 (iset d).length (fl ic (iset d))] → K v' w') : CK Tryz.prog 46 [v] w K := by
 refine call_k Tryz.func46 k46 Tryz.ntmps46 (Nat.le_of_ble_eq_true rfl) ?_
 refine gW ?_
 refine g_cl rfl rfl (b_CloneI hd hn hr fun v1 w1 hS => ?_)
 refine gW ?_
 refine g_cl rfl rfl (b_SortI hd hn hS fun w1 hS => ?_)
 refine gW ?_
 refine g_cl rfl rfl (b_Compact (by rw [srt_len, hd]) hn hS fun v2 n2 w1 hn2 hS => ?_)
 refine gW ?_
 refine g_ret (q_1 rfl (h _ _ ?_))
 have e : iset d = ddn (srt (fun x : Id => x.1) d) n := by rw [← hd]; rfl
 rw [e, hn2]
 exact hS
end
def m89 : MC := .sq (.rg [.o 2 (.bx 59 (.tmp 0)), .o 3 (.bx 59 (.tmp 1)), .c 4 (.int .i64 0)]) (.sq (.rg [.o 5 (.fa (.tmp 2) 0), .o 6 (.ld (.tmp 5) none), .o 7 (.fa (.tmp 3) 0), .o 8 (.ld (.tmp 7) none), .o 9 (.cl 124 [.tmp 6, .tmp 8]), .t 4 9]) (.rt))
theorem k89 : Tryz.f89.body.any (fun c => chkC Tryz.prog c m89 && allD (dlt 10) m89) = true := by kernel_rfl
def m50 : MC := .sq (.rg [.c 4 (.slice none 0 0), .c 5 (.int .i64 0)]) (.sq (.sq (.rg [.t 12 0, .o 13 (.cl 72 [.tmp 12]), .t 6 13]) (.sq (.rg [.t 14 6, .o 15 (.cm .neq (.tmp 14) (.const (.int .i64 0)))]) (.cd (.tmp 15) (.sq (.rg [.t 16 6, .c 4 (.slice none 0 0), .t 5 16]) (.rt)) (.sk)))) (.sq (.rg [.t 17 1, .o 18 (.cl 46 [.tmp 17]), .t 7 18]) (.sq (.rg [.c 8 (.slice none 0 0)]) (.sq (.sq (.rg [.t 19 7, .o 20 (.ln false (.tmp 19)), .c 21 (.int .i64 0)]) (.bk 0 (.lp (.sq (.rg [.o 22 (.cm .lss (.tmp 21) (.tmp 20))]) (.sq (.cd (.tmp 22) (.sk) (.xt 0)) (.sq (.bk 1 (.sq (.rg [.o 23 (.ias (.tmp 19) (.tmp 21) 32), .o 24 (.ld (.tmp 23) (some 32)), .o 10 (.al [(32, .int .u8 0)] 38), .e (.st (.tmp 10) (.tmp 24) 32)]) (.sq (.rg [.t 25 0, .t 11 25]) (.sq (.sq (.rg [.t 26 7, .o 27 (.ln false (.tmp 26)), .o 28 (.cm .gtr (.tmp 27) (.const (.int .i64 1)))]) (.cd (.tmp 28) (.rg [.t 30 0, .o 31 (.ld (.tmp 10) (some 32)), .o 32 (.cl 87 [.tmp 30, .tmp 31]), .t 29 32, .o 33 (.ex (.tmp 29) 0), .o 34 (.ex (.tmp 29) 1), .t 11 33]) (.sk))) (.rg [.t 35 8, .t 36 11, .o 37 (.ld (.tmp 10) (some 32)), .o 38 (.bd [(1, .string ⟨#[]⟩), (32, .int .u8 0)] [(0, 1, .tmp 36), (1, 32, .tmp 37)]), .o 39 (.bl 59 33 [.tmp 38]), .o 40 (.ap 59 33 48 [(1, .string ⟨#[]⟩), (32, .int .u8 0)] (.tmp 35) (.tmp 39)), .t 8 40]))))) (.rg [.o 41 (.ar .add .i64 (.tmp 21) (.const (.int .i64 1)) true), .t 21 41]))))))) (.sq (.rg [.t 42 8, .o 43 (.cl 88 [.tmp 42, .func 89])]) (.sq (.rg [.t 44 8, .t 4 44, .c 5 (.int .i64 0)]) (.rt)))))))
theorem k50 : Tryz.f50.body.any (fun c => chkC Tryz.prog c m50 && allD (dlt 45) m50) = true := by kernel_rfl
def m48 : MC := .sq (.rg [.c 4 (.slice none 0 0)]) (.sq (.rg [.t 5 0, .t 6 1, .o 7 (.cl 86 [.tmp 5, .tmp 6]), .o 8 (.cl 46 [.tmp 7]), .t 4 8]) (.rt))
theorem k48 : Tryz.f48.body.any (fun c => chkC Tryz.prog c m48 && allD (dlt 9) m48) = true := by kernel_rfl
def m126 : MC := .sq (.rg [.o 1 (.bx 56 (.tmp 0)), .c 2 (.nilFunc)]) (.sq (.rg [.o 3 (.mf 182 [] [.tmp 1]), .t 2 3]) (.rt))
theorem k126 : Tryz.f126.body.any (fun c => chkC Tryz.prog c m126 && allD (dlt 4) m126) = true := by kernel_rfl
def m182 : MC := .sq (.rg [.o 9 (.ld (.tmp 1) none), .o 10 (.ln false (.tmp 9)), .c 11 (.int .i64 0)]) (.bk 0 (.lp (.sq (.rg [.o 12 (.cm .lss (.tmp 11) (.tmp 10))]) (.sq (.cd (.tmp 12) (.sk) (.xt 0)) (.sq (.bk 1 (.sq (.rg [.o 13 (.ias (.tmp 9) (.tmp 11) 33), .o 14 (.ld (.tmp 13) (some 33)), .o 4 (.al [(1, .string ⟨#[]⟩), (32, .int .u8 0)] 59), .e (.st (.tmp 4) (.tmp 14) 33)]) (.sq (.rg [.o 16 (.fa (.tmp 4) 0), .o 17 (.ld (.tmp 16) none), .o 18 (.cl 183 [.tmp 17]), .t 15 18, .o 19 (.ex (.tmp 15) 0), .o 20 (.ex (.tmp 15) 1), .o 21 (.ex (.tmp 15) 2), .o 22 (.ex (.tmp 15) 3), .o 6 (.al [(32, .int .u8 0)] 38), .t 5 19, .e (.st (.tmp 6) (.tmp 20) 32), .t 7 21, .t 8 22]) (.sq (.dr [.t 23 0, .o 24 (.ld (.tmp 4) (some 33)), .t 25 5, .t 26 7, .t 27 8, .o 28 (.cm .eql (.tmp 27) (.const (.int .i64 0))), .t 29 28, .q 30 29 true (.mv (.tmp 7)), .q 31 29 true (.nt (.tmp 30)), .q 32 29 true (.mv (.tmp 31)), .q 33 32 false (.ld (.tmp 6) (some 32)), .q 34 32 false (.fa (.tmp 4) 1), .q 35 32 false (.ld (.tmp 34) (some 32)), .q 36 32 false (.aq .eql 32 (.tmp 33) (.tmp 35)), .q 37 29 true (.pk (.tmp 32) (.const (.bool true)) (.tmp 36)), .o 38 (.pk (.tmp 29) (.tmp 37) (.const (.bool false))), .o 39 (.bd [(1, .string ⟨#[]⟩), (2, .bool false)] [(0, 1, .tmp 25), (1, 1, .tmp 26), (2, 1, .tmp 38)]), .o 40 (.cv (.tmp 23) [.tmp 24, .tmp 39]), .o 41 (.nt (.tmp 40))] [0, 0, 0, 0, 0, 16, 48, 112, 240, 496, 1008, 1008, 3056, 8176, 16368, 32752, 65532, 131071, 262143] (.q 0 (.q 1 (.q 2 (.q 3 (.q 4 (.q 5 (.q 6 (.q 7 (.q 8 (.q 9 (.q 10 (.q 11 (.q 12 (.q 13 (.q 14 (.q 15 (.q 16 (.e 17 [] (.q 18 (.fin))))))))))))))))))))) (.cd (.tmp 41) (.rt) (.sk)))))) (.rg [.o 42 (.ar .add .i64 (.tmp 11) (.const (.int .i64 1)) true), .t 11 42]))))))
theorem k182 : Tryz.f182.body.any (fun c => chkC Tryz.prog c m182 && allD (dlt 43) m182) = true := by kernel_rfl
def m90u0 : MC := .sq (.rg [.o 6 (.al [(1, .string ⟨#[]⟩), (32, .int .u8 0)] 59), .e (.st (.tmp 6) (.tmp 15) 33)]) (.rg [.o 7 (.al [(1, .string ⟨#[]⟩), (2, .bool false)] 176), .e (.st (.tmp 7) (.tmp 16) 3)])
def m90v0 : MC := .bk 1 (.sq (.sq (.rg [.o 17 (.ld (.tmp 3) none), .t 18 17, .q 19 18 true (.fa (.tmp 7) 2), .q 20 18 true (.ld (.tmp 19) none), .o 21 (.pk (.tmp 18) (.tmp 20) (.const (.bool false))), .t 22 21, .q 23 22 true (.fa (.tmp 6) 0), .q 24 22 true (.ld (.tmp 23) none), .q 25 22 true (.ld (.tmp 5) none), .q 26 22 true (.se .neq (.tmp 24) (.tmp 25)), .o 27 (.pk (.tmp 22) (.tmp 26) (.const (.bool false))), .e (.st (.tmp 3) (.tmp 27) 1)]) (.sq (.rg [.o 28 (.ld (.tmp 3) none), .o 29 (.nt (.tmp 28))]) (.cd (.tmp 29) (.xt 0) (.sk)))) (.sq (.rg [.o 30 (.fa (.tmp 6) 0), .o 31 (.ld (.tmp 30) none), .e (.st (.tmp 5) (.tmp 31) 1)]) (.sq (.rg [.o 32 (.fa (.tmp 7) 1), .o 33 (.ld (.tmp 32) none), .o 34 (.nt (.tmp 33))]) (.cd (.tmp 34) (.rg [.o 35 (.ld (.tmp 4) none), .o 36 (.fa (.tmp 7) 0), .o 37 (.ld (.tmp 36) none), .o 38 (.mlk 9 false [(1, .int .i64 0)] false (.tmp 35) (.tmp 37)), .o 39 (.ar .add .i64 (.tmp 38) (.const (.int .i64 1)) true), .e (.mup 9 (.tmp 35) (.tmp 37) (.tmp 39))]) (.sk)))))
def m90u1 : MC := .rg [.o 9 (.al [(1, .string ⟨#[]⟩), (2, .bool false)] 176), .e (.st (.tmp 9) (.tmp 43) 3)]
def m90v1 : MC := .bk 3 (.rg [.o 44 (.ld (.tmp 3) none), .t 45 44, .q 46 45 true (.fa (.tmp 9) 1), .q 47 45 true (.ld (.tmp 46) none), .q 48 45 true (.nt (.tmp 47)), .q 49 45 true (.mv (.tmp 48)), .q 50 49 false (.ld (.tmp 4) none), .q 51 49 false (.fa (.tmp 9) 0), .q 52 49 false (.ld (.tmp 51) none), .q 53 49 false (.mlk 9 false [(1, .int .i64 0)] false (.tmp 50) (.tmp 52)), .q 54 49 false (.cm .eql (.tmp 53) (.const (.int .i64 0))), .q 55 45 true (.pk (.tmp 49) (.const (.bool true)) (.tmp 54)), .o 56 (.pk (.tmp 45) (.tmp 55) (.const (.bool false))), .e (.st (.tmp 3) (.tmp 56) 1)])
def m90 : MC := .sq (.rg [.c 2 (.int .i64 0)]) (.sc (.sq (.rg [.t 10 0, .o 11 (.cl 125 [.tmp 10, .func 89]), .o 3 (.al [(1, .bool false)] 4), .e (.st (.tmp 3) (.tmp 11) 1)]) (.sq (.rg [.o 12 (.mkm), .o 4 (.al [(1, .map none)] 171), .e (.st (.tmp 4) (.tmp 12) 1)]) (.sq (.rg [.o 5 (.al [(1, .string ⟨#[]⟩)] 9), .e (.st (.tmp 5) (.const (.string ⟨#[]⟩)) 1)]) (.sq (.lb 0) (.sq (.sq (.rg [.t 13 0, .o 14 (.cl 126 [.tmp 13])]) (.bk 0 (.rf (.tmp 14) [15, 16] m90u0 m90v0))) (.sq (.sq (.rg [.t 40 0, .o 41 (.cl 126 [.tmp 40])]) (.bk 2 (.rf (.tmp 41) [42, 43] m90u1 m90v1))) (.sq (.sq (.rg [.o 57 (.ld (.tmp 3) none), .o 58 (.nt (.tmp 57))]) (.cd (.tmp 58) (.sq (.rg [.c 2 (.int .i64 200)]) (.rt)) (.sk))) (.sq (.rg [.c 2 (.int .i64 0)]) (.rt))))))))))
theorem k90 : Tryz.f90.body.any (fun c => chkC Tryz.prog c m90 && allD (dlt 59) m90) = true := by kernel_rfl
def m51 : MC := .sq (.rg [.c 2 (.slice none 0 0), .c 3 (.int .i64 0)]) (.sq (.sq (.rg [.t 9 0, .o 10 (.ln false (.tmp 9)), .c 11 (.int .i64 0)]) (.bk 0 (.lp (.sq (.rg [.o 12 (.cm .lss (.tmp 11) (.tmp 10))]) (.sq (.cd (.tmp 12) (.sk) (.xt 0)) (.sq (.bk 1 (.sq (.rg [.o 13 (.ias (.tmp 9) (.tmp 11) 1), .o 14 (.ld (.tmp 13) none), .t 5 14]) (.sq (.rg [.t 15 5, .o 16 (.cl 90 [.tmp 15]), .t 6 16]) (.sq (.rg [.t 17 6, .o 18 (.cm .neq (.tmp 17) (.const (.int .i64 0)))]) (.cd (.tmp 18) (.sq (.rg [.t 19 6, .c 2 (.slice none 0 0), .t 3 19]) (.rt)) (.sk)))))) (.rg [.o 20 (.ar .add .i64 (.tmp 11) (.const (.int .i64 1)) true), .t 11 20]))))))) (.sq (.rg [.t 21 0, .o 22 (.cl 91 [.tmp 21]), .t 7 22]) (.sq (.rg [.t 23 7, .o 24 (.cl 88 [.tmp 23, .func 89])]) (.sq (.sq (.rg [.t 25 7, .o 26 (.cl 90 [.tmp 25]), .t 8 26]) (.sq (.rg [.t 27 8, .o 28 (.cm .neq (.tmp 27) (.const (.int .i64 0)))]) (.cd (.tmp 28) (.sq (.rg [.t 29 8, .c 2 (.slice none 0 0), .t 3 29]) (.rt)) (.sk)))) (.sq (.rg [.t 30 7, .t 2 30, .c 3 (.int .i64 0)]) (.rt))))))
theorem k51 : Tryz.f51.body.any (fun c => chkC Tryz.prog c m51 && allD (dlt 31) m51) = true := by kernel_rfl
def m124 : MC := .sq (.rg [.c 4 (.int .i64 0)]) (.sq (.rg [.t 7 0, .o 8 (.cl 181 [.tmp 7]), .t 5 8]) (.sq (.rg [.t 9 1, .o 10 (.cl 181 [.tmp 9]), .t 6 10]) (.sq (.sq (.rg [.t 11 5]) (.cd (.tmp 11) (.sq (.sq (.rg [.t 12 6]) (.cd (.tmp 12) (.sq (.rg [.c 4 (.int .i64 0)]) (.rt)) (.sk))) (.sq (.rg [.c 4 (.int .i64 (-1))]) (.rt))) (.sk))) (.sq (.sq (.rg [.t 13 6]) (.cd (.tmp 13) (.sq (.rg [.c 4 (.int .i64 1)]) (.rt)) (.sk))) (.sq (.sq (.rg [.t 14 0, .t 15 1, .o 16 (.sc .lss (.tmp 14) (.tmp 15))]) (.cd (.tmp 16) (.sq (.rg [.c 4 (.int .i64 (-1))]) (.rt)) (.sk))) (.sq (.sq (.rg [.t 17 0, .t 18 1, .o 19 (.sc .gtr (.tmp 17) (.tmp 18))]) (.cd (.tmp 19) (.sq (.rg [.c 4 (.int .i64 1)]) (.rt)) (.sk))) (.sq (.rg [.c 4 (.int .i64 0)]) (.rt))))))))
theorem k124 : Tryz.f124.body.any (fun c => chkC Tryz.prog c m124 && allD (dlt 20) m124) = true := by kernel_rfl
def m181 : MC := .sq (.rg [.c 2 (.bool false)]) (.sq (.rg [.t 3 0, .t 4 0, .o 5 (.se .neq (.tmp 3) (.tmp 4)), .t 2 5]) (.rt))
theorem k181 : Tryz.f181.body.any (fun c => chkC Tryz.prog c m181 && allD (dlt 6) m181) = true := by kernel_rfl
def m125 : MC := .sq (.rg [.c 4 (.bool false)]) (.sq (.sq (.rg [.t 6 0, .o 7 (.ln false (.tmp 6)), .o 8 (.ar .sub .i64 (.tmp 7) (.const (.int .i64 1)) true), .t 5 8]) (.bk 0 (.lp (.sq (.sq (.rg [.t 9 5, .o 10 (.cm .gtr (.tmp 9) (.const (.int .i64 0)))]) (.cd (.tmp 10) (.sk) (.xt 0))) (.sq (.bk 1 (.sq (.dr [.t 13 1, .t 14 0, .t 15 5, .o 16 (.ias (.tmp 14) (.tmp 15) 33), .o 17 (.ld (.tmp 16) (some 33)), .t 18 0, .t 19 5, .o 20 (.ar .sub .i64 (.tmp 19) (.const (.int .i64 1)) true), .o 21 (.ias (.tmp 18) (.tmp 20) 33), .o 22 (.ld (.tmp 21) (some 33)), .o 23 (.cv (.tmp 13) [.tmp 17, .tmp 22]), .o 24 (.cm .lss (.tmp 23) (.const (.int .i64 0)))] [0, 0, 0, 6, 14, 0, 0, 64, 224, 480, 1023, 2047] (.q 0 (.q 1 (.q 2 (.q 3 (.q 4 (.q 5 (.q 6 (.q 7 (.q 8 (.q 9 (.e 10 [] (.q 11 (.fin)))))))))))))) (.cd (.tmp 24) (.sq (.rg [.c 4 (.bool false)]) (.rt)) (.sk)))) (.rg [.t 11 5, .o 12 (.ar .sub .i64 (.tmp 11) (.const (.int .i64 1)) true), .t 5 12])))))) (.sq (.rg [.c 4 (.bool true)]) (.rt)))
theorem k125 : Tryz.f125.body.any (fun c => chkC Tryz.prog c m125 && allD (dlt 25) m125) = true := by kernel_rfl
def m91 : MC := .sq (.rg [.c 2 (.slice none 0 0)]) (.sq (.rg [.c 3 (.int .i64 0)]) (.sq (.sq (.rg [.t 9 0, .o 10 (.ln false (.tmp 9)), .c 11 (.int .i64 0)]) (.bk 0 (.lp (.sq (.rg [.o 12 (.cm .lss (.tmp 11) (.tmp 10))]) (.sq (.cd (.tmp 12) (.sk) (.xt 0)) (.sq (.bk 1 (.sq (.rg [.o 13 (.ias (.tmp 9) (.tmp 11) 1), .o 14 (.ld (.tmp 13) none), .t 5 14]) (.sq (.rg [.t 15 3, .t 16 5, .o 17 (.ln false (.tmp 16)), .o 18 (.ar .add .i64 (.tmp 15) (.tmp 17) true), .t 3 18]) (.sq (.rg [.t 19 3, .o 20 (.cm .lss (.tmp 19) (.const (.int .i64 0)))]) (.cd (.tmp 20) (.rg [.o 21 (.mi 9 (.const (.string ⟨#[108, 101, 110, 32, 111, 117, 116, 32, 111, 102, 32, 114, 97, 110, 103, 101]⟩))), .e (.any)]) (.sk)))))) (.rg [.o 22 (.ar .add .i64 (.tmp 11) (.const (.int .i64 1)) true), .t 11 22]))))))) (.sq (.rg [.t 23 3, .o 24 (.cl 127 [.const (.slice none 0 0), .tmp 23]), .t 6 24]) (.sq (.sq (.rg [.t 25 0, .o 26 (.ln false (.tmp 25)), .c 27 (.int .i64 0)]) (.bk 2 (.lp (.sq (.rg [.o 28 (.cm .lss (.tmp 27) (.tmp 26))]) (.sq (.cd (.tmp 28) (.sk) (.xt 2)) (.sq (.bk 3 (.sq (.rg [.o 29 (.ias (.tmp 25) (.tmp 27) 1), .o 30 (.ld (.tmp 29) none), .t 8 30]) (.rg [.t 31 6, .t 32 8, .o 33 (.ap 59 33 48 [(1, .string ⟨#[]⟩), (32, .int .u8 0)] (.tmp 31) (.tmp 32)), .t 6 33]))) (.rg [.o 34 (.ar .add .i64 (.tmp 27) (.const (.int .i64 1)) true), .t 27 34]))))))) (.sq (.rg [.t 35 6, .t 2 35]) (.rt))))))
theorem k91 : Tryz.f91.body.any (fun c => chkC Tryz.prog c m91 && allD (dlt 36) m91) = true := by kernel_rfl
abbrev Li := Bs × Id
def lc (x : Li) : List Value := sv x.1 :: bys x.2.1
theorem lc_len (x : Li) : (lc x).length = 33 := by rw [lc, List.length_cons, bys_length, x.2.2]
theorem lc_one (x : Li) : ∀ v ∈ lc x, v.oneCell' = true := fun v hv => by
 rcases List.mem_cons.1 hv with rfl | hv
 ·rfl
 ·exact ic_one x.2 v hv
section
variable {w w0 : World} {S0 : Nat → Prop} {L B : List Res} {K : Value → World → Prop} {s : Bs}
theorem fill_li {T : TT} {a b : Operand} (x : Li) (ha : ev T a = some (sv x.1)) (hb : ev T b = some (.agg ⟨bys x.2.1⟩)) : fillP T [(0, 1, a), (1, 32, b)] (zx [(1, .string ⟨#[]⟩), (32, .int .u8 0)]) = some (lc x) := by
 have l1 : (bys x.2.1).length = 32 := by rw [bys_length, x.2.2]
 have e1 : Nat.beq (bys x.2.1).length 32 = true := by rw [l1]; rfl
 have e2 : Nat.ble (1 + (bys x.2.1).length) 33 = true := by rw [l1]; rfl
 unfold fillP
 rw [ha]
 show (match Nat.beq 1 1, Nat.ble (0 + 1) 33 with | true, true => fillP T [(1, 32, b)] _ | _, _ => none) = _
 show fillP T [(1, 32, b)] (sv x.1 :: List.replicate 32 (.int .u8 0)) = _
 unfold fillP
 rw [hb]
 show (match Nat.beq (bys x.2.1).length 32, Nat.ble (1 + (bys x.2.1).length) 33 with | true, true => fillP T [] _ | _, _ => none) = _
 rw [e1, e2]
 show some (spl (sv x.1 :: List.replicate 32 (.int .u8 0)) 1 (bys x.2.1)) = _
 simp [spl, lc, x.2.2]
theorem evcs_1 {T : TT} {a : Operand} {sz : Nat} {cs : List Value} (ha : ev T a = some (.agg ⟨cs⟩)) (hl : cs.length = sz) : evcs T sz [a] = some cs := by
 subst hl
 have e : Nat.beq cs.length cs.length = true := Nat.beq_refl _
 unfold evcs evcs
 rw [ha]
 show (match Nat.beq cs.length cs.length with | true => some (cs ++ []) | false => none) = _
 rw [e, List.append_nil]
theorem b_isNaN (h : K (.bool false) w) : CK Tryz.prog 181 [sv s] w K := by
 refine call_k Tryz.func181 k181 Tryz.ntmps181 (Nat.le_of_ble_eq_true rfl) ?_
 refine gW ?_
 refine g_ret (q_1 rfl ?_)
 rw [decide_eq_true rfl]
 exact h
theorem b_cmpS {a b : Bs} (h : K (.int .i64 (Lib.compareBytes a b)) w) : CK Tryz.prog 124 [sv a, sv b] w K := by
 refine call_k Tryz.func124 k124 Tryz.ntmps124 (Nat.le_of_ble_eq_true rfl) ?_
 refine gW ?_
 refine g_cl rfl rfl (b_isNaN ?_)
 refine gW ?_
 refine g_cl rfl rfl (b_isNaN ?_)
 refine gW ?_
 have h3 := cb_three a b
 have hbl := bless_eq a b
 have hz : decide (a = b) = decide (Lib.compareBytes a b = 0) := decide_eq_decide.2 ⟨fun e => by rw [e, cb_self], cb_zero⟩
 refine g_cd rfl (fun hc => ?_) (fun hc => ?_)
 ·refine gW ?_
  have hc : Op.bytesLess a b = true := hc
  rw [hbl, decide_eq_true_eq] at hc
  have : Lib.compareBytes a b = -1 := by omega
  rw [this] at h
  exact g_ret (q_1 rfl h)
 ·refine gW ?_
  have hc : Op.bytesLess a b = false := hc
  rw [hbl, decide_eq_false_iff_not] at hc
  refine g_cd rfl (fun hd => ?_) (fun hd => ?_)
  ·refine gW ?_
   have hd : (!(Op.bytesLess a b || decide (a = b))) = true := hd
   rw [hbl, hz] at hd
   simp only [Bool.not_eq_true', Bool.or_eq_false_iff, decide_eq_false_iff_not] at hd
   have : Lib.compareBytes a b = 1 := by omega
   rw [this] at h
   exact g_ret (q_1 rfl h)
  ·refine gW ?_
   have hd : (!(Op.bytesLess a b || decide (a = b))) = false := hd
   rw [hbl, hz] at hd
   simp only [Bool.not_eq_false', Bool.or_eq_true, decide_eq_true_eq] at hd
   have : Lib.compareBytes a b = 0 := by omega
   rw [this] at h
   exact g_ret (q_1 rfl h)
theorem b_byName {x y : Li} (h : ∀ w', St w (fun _ => False) w' [] → K (.int .i64 (Lib.compareBytes x.1 y.1)) w') : CK Tryz.prog 89 [.agg ⟨lc x⟩, .agg ⟨lc y⟩] w K := by
 have hS := St.nil w (fun _ => False)
 refine call_k Tryz.func89 k89 Tryz.ntmps89 (Nat.le_of_ble_eq_true rfl) ?_
 refine gW ?_
 refine g_ef rfl (ef_bx hS rfl fun b1 w1 hS => ?_)
 refine gW ?_
 refine g_ef rfl (ef_bx hS rfl fun b2 w1 hS => ?_)
 have hS : St w (fun _ => False) w1 [cel b1 (lc x) 59, cel b2 (lc y) 59] := hS
 refine gW ?_
 refine g_l1 rfl rfl (hS.b  0 rfl) rfl ?_
 refine gW ?_
 refine g_l1 rfl rfl (hS.b  1 rfl) rfl ?_
 refine g_cl rfl rfl (b_cmpS ?_)
 refine gW ?_
 exact g_ret (q_1 rfl (h _ (hS.sel [] rfl rfl)))
theorem b_SortL {v : Value} {n : Nat} {d : List Li} (hd : d.length = n) (hn : n < 2000000) (hS : St w0 S0 w [row v 59 33 n (fl lc d)])
  (h : ∀ d' w', d'.Perm d → d'.Pairwise (fun x y => ble x.1 y.1 = true) → St w0 S0 w' [row v 59 33 n (fl lc d')] → K (.tuple ⟨[]⟩) w') : CK Tryz.prog 88 [v, .func (.func 89) ⟨[]⟩ ⟨[]⟩] w K := by
 rcases hS.ok 0 _ rfl with ⟨rfl, rfl, h3⟩ | ⟨b, cap, rest, rfl, _⟩
 ·have e : d = [] := List.eq_nil_of_length_eq_zero hd
  subst e
  refine (AnyF.slices_SortFunc_none Tryz.sortLi none 0 (.func (.func 89) ⟨[]⟩ ⟨[]⟩) w).mono ?_
  rintro e w' ⟨rfl, rfl⟩
  exact ⟨_, rfl, h _ _ List.Perm.nil List.Pairwise.nil hS⟩
 ·refine ck_sortF (i := 0) Tryz.sortLi Tryz.isAgg59 Tryz.sizeOf59 lc_len lc_one (fun x y : Li => Lib.compareBytes x.1 y.1) (swo_key fun x : Li => x.1) (enters_of Tryz.func89 (by kernel_rfl) rfl) (fun W x y K h => b_byName h) hS rfl hd (by omega) fun d' w' hp hs hS => ?_
  exact h _ _ hp (hs.imp fun h => (lt_ble (fun x : Li => x.1) _ _).1 h) hS
end
def dlt' (x y : Rec) : Prop := dotR x.site x.cnt y.site y.cnt = -1
instance (x y : Rec) : Decidable (dlt' x y) := by unfold dlt'; infer_instance
theorem dlt_iff (x y : Rec) : dlt' x y ↔ x.site < y.site ∨ (x.site = y.site ∧ x.cnt < y.cnt) := by
 unfold dlt' dotR
 constructor
 ·intro h
  split at h
  ·assumption
  ·split at h <;> omega
 ·intro h
  rw [if_pos h]
theorem dlt_trans {x y z : Rec} (h : dlt' x y) (k : dlt' y z) : dlt' x z := by
 rw [dlt_iff] at *
 omega
def ldB (d : List Rec) : Prop := (∀ x ∈ d, recB x = true) ∧ d.Pairwise dlt'
theorem ldB_next {d : List Rec} {k : Nat} (hp : ldB (d.take k)) (hk : k < d.length) (hb : recB d[k] = true) (h : ∀ h0 : 0 < k, dlt' (d[k - 1]'(by omega)) d[k]) : ldB (d.take (k + 1)) := by
 rw [List.take_succ_eq_append_getElem hk]
 refine ⟨fun x hx => ?_, ?_⟩
 ·rcases List.mem_append.1 hx with hx | hx
  ·exact hp.1 x hx
  ·rw [List.mem_singleton.1 hx]; exact hb
 ·rw [List.pairwise_append]
  refine ⟨hp.2, List.pairwise_singleton _ _, fun x hx y hy => ?_⟩
  rw [List.mem_singleton.1 hy]
  obtain ⟨i, hi, rfl⟩ := List.mem_take_iff_getElem.1 hx
  have h0 : 0 < k := by omega
  by_cases e : i = k - 1
  ·subst e; exact h h0
  ·refine dlt_trans ?_ (h h0)
   have h1 := List.pairwise_iff_getElem.1 hp.2 i (k - 1) (by rw [List.length_take]; omega) (by rw [List.length_take]; omega) (by omega)
   rw [List.getElem_take, List.getElem_take] at h1
   exact h1
theorem ldB_bad {d : List Rec} {k : Nat} (hk : k < d.length) (h : recB d[k] = false) : ¬ ldB d := fun hl => by
 have := hl.1 _ (List.getElem_mem hk)
 rw [h] at this
 cases this
theorem ldB_ord {d : List Rec} {k : Nat} (h0 : 0 < k) (hk : k < d.length) (h : ¬ dlt' (d[k - 1]'(by omega)) d[k]) : ¬ ldB d := fun hl =>
 h (List.pairwise_iff_getElem.1 hl.2 (k - 1) k (by omega) hk (by omega))
theorem rd_dot {l : List Value} {off n : Nat} {d : List Rec} (h : (l.drop off).take (n * 52) = fl rc d) (hn : d.length = n) {i : Nat} (hi : i < d.length) : (l.drop (off + i * 52)).take 2 = dc d[i].site d[i].cnt := by
 have h1 := congrArg (List.take 2) (rd_at rc_len h hn hi)
 rw [List.take_take] at h1
 exact h1
theorem dotR_3 (a b c d : Int) : dotR a b c d = -1 ∨ dotR a b c d = 0 ∨ dotR a b c d = 1 := by
 unfold dotR
 split
 ·simp
 ·split <;> simp
theorem dig_lt {i j : Nat} (hi : i < 16) (hj : j < 16) : dig.getD i 0 < dig.getD j 0 ↔ i < j := by
 have key : ∀ i j : Fin 16, dig.getD i.val 0 < dig.getD j.val 0 ↔ i.val < j.val := by decide
 exact key ⟨i, hi⟩ ⟨j, hj⟩
theorem hx_cb (c d : UInt8) (a b : Bs) : Lib.compareBytes (hx c ++ a) (hx d ++ b) = if c < d then -1 else if d < c then 1 else Lib.compareBytes a b := by
 have h1 := c.toNat_lt; have h2 := d.toNat_lt
 show (if dig.getD (c.toNat / 16) 0 < dig.getD (d.toNat / 16) 0 then (-1 : Int) else if dig.getD (d.toNat / 16) 0 < dig.getD (c.toNat / 16) 0 then 1 else
  if dig.getD (c.toNat % 16) 0 < dig.getD (d.toNat % 16) 0 then (-1 : Int) else if dig.getD (d.toNat % 16) 0 < dig.getD (c.toNat % 16) 0 then 1 else Lib.compareBytes a b) = _
 simp only [dig_lt (show c.toNat / 16 < 16 by omega) (show d.toNat / 16 < 16 by omega), dig_lt (show d.toNat / 16 < 16 by omega) (show c.toNat / 16 < 16 by omega), dig_lt (show c.toNat % 16 < 16 by omega) (show d.toNat % 16 < 16 by omega), dig_lt (show d.toNat % 16 < 16 by omega) (show c.toNat % 16 < 16 by omega), UInt8.lt_iff_toNat_lt]
 repeat' split
 all_goals first | rfl | omega
theorem hex_cb : ∀ a b : Bs, Lib.compareBytes (hex a) (hex b) = Lib.compareBytes a b
 | [], [] => rfl
 | [], d :: b => rfl
 | c :: a, [] => rfl
 | c :: a, d :: b => by
  have := hex_cb a b
  have e : ∀ c a, hex (c :: a) = hx c ++ hex a := fun c a => by simp [hex]
  rw [e, e, hx_cb, this]
  rw [Lib.compareBytes]
def cfl (s : Bs) (id : Id) : Bs := s ++ 126 :: hex id.1
def nm1 (s : Bs) (m : Bool) (id : Id) : Li := (if m then cfl s id else s, id)
def nmL (s : Bs) (ids : List Id) : List Li := (iset ids).map (nm1 s (decide (1 < (iset ids).length)))
theorem cfl_cb (s : Bs) (a b : Id) : Lib.compareBytes (cfl s a) (cfl s b) = Lib.compareBytes a.1 b.1 := by
 unfold cfl
 rw [cb_app, ← hex_cb a.1 b.1]
 rw [Lib.compareBytes, if_neg (UInt8.lt_irrefl _), if_neg (UInt8.lt_irrefl _)]
theorem nmL_inj (s : Bs) (ids : List Id) (x y : Li) (hx : x ∈ nmL s ids) (hy : y ∈ nmL s ids) (h : x.1 = y.1) : x = y := by
 unfold nmL at hx hy
 obtain ⟨a, ha, rfl⟩ := List.mem_map.1 hx
 obtain ⟨b, hb, rfl⟩ := List.mem_map.1 hy
 by_cases h1 : 1 < (iset ids).length
 ·simp only [nm1, decide_eq_true h1, if_true] at h ⊢
  have : a.1 = b.1 := cb_zero (by rw [← cfl_cb s a b, h, cb_self])
  rw [id_inj a b this]
 ·match hl : iset ids, ha, hb, h1 with
  | [], ha, _, _ => cases ha
  | [c], ha, hb, _ =>
   rw [List.mem_singleton.1 ha, List.mem_singleton.1 hb]
  | _ :: _ :: _, _, _, h1 => exact absurd (by simp) h1
theorem nmL_sorted (s : Bs) (ids : List Id) : (nmL s ids).Pairwise fun x y => ble x.1 y.1 = true := by
 unfold nmL
 rw [List.pairwise_map]
 have hs := kset_sorted (fun x : Id => x.1) id_inj ids
 by_cases h1 : 1 < (iset ids).length
 ·refine List.Pairwise.imp ?_ hs
  intro a b h
  simp only [nm1, decide_eq_true h1, if_true]
  have := h.1
  unfold ble at this ⊢
  rw [cfl_cb]; exact this
 ·match hl : iset ids, h1 with
  | [], _ => exact List.Pairwise.nil
  | [c], _ => exact List.pairwise_singleton _ _
  | _ :: _ :: _, h1 => exact absurd (by simp) h1
section
variable {w w0 : World} {S0 : Nat → Prop} {L B : List Res} {K : Value → World → Prop} {s : Bs} {E0 E1 : Nat}
theorem b_Names {v : Value} {n : Nat} {ids : List Id} (hd : ids.length = n) (hn : n < 2000000) (hg : Gl w) (hr : Rd v E0 32 n (fl ic ids) w)
  (h0 : brk s ≠ 0 → ∀ w', St w (fun _ => False) w' [] → K (.tuple ⟨[.slice none 0 0, .int .i64 40]⟩) w')
  (h : brk s = 0 → ∀ v' w', St w (fun _ => False) w' [row v' 59 33 (nmL s ids).length (fl lc (nmL s ids))] → K (.tuple ⟨[v', .int .i64 0]⟩) w') : CK Tryz.prog 50 [sv s, v] w K := by
 have hS := St.nil w (fun _ => False)
 refine call_k Tryz.func50 k50 Tryz.ntmps50 (Nat.le_of_ble_eq_true rfl) ?_
 refine gW ?_
 refine g_cl rfl rfl (c_Check (hg.in hS) hS fun w' hS => ?_)
 refine gW ?_
 (refine g_cd rfl (fun hc => ?_) (fun hc => ?_) <;> simp only [cmv, arv, Bool.not_eq_true', Bool.not_eq_false', decide_eq_true_eq, decide_eq_false_iff_not] at hc)
 ·have e : brk s ≠ 0 := fun e => hc (by unfold nmE; rw [if_pos e])
  have e1 : nmE s = 40 := by unfold nmE; rw [if_neg e]
  rw [e1]
  refine gW ?_
  exact g_ret (q_2 rfl rfl (h0 e _ hS))
 ·have e : brk s = 0 := by
   by_cases e : brk s = 0
   ·exact e
   ·unfold nmE at hc; rw [if_neg e] at hc; omega
  have hle := brk_le e
  replace h := h e
  clear h0
  refine gW ?_
  refine g_cl rfl rfl (b_Set hd hn (hr.same fun b hb => hS.fr.kept b (hr.lt b hb) (fun h => h)) fun v1 w1 h' => ?_)
  replace hS := hS.call0.2 _ _ h'
  replace hS : St w (fun _ => False) w1 [row v1 38 32 (iset ids).length (fl ic (iset ids))] := hS
  clear h'
  have hml : (iset ids).length < 2000000 := by have := kset_len (fun x : Id => x.1) ids; unfold iset; omega
  generalize hI : iset ids = I at hS hml
  obtain ⟨a, c, rfl⟩ := hS.rlen 0 rfl
  refine gW ?_
  refine g_lp (ι := Nat × Value) (fun x => [(0, sv s), (7, .slice a I.length c), (8, x.2), (19, .slice a I.length c), (20, .int .i64 I.length), (21, .int .i64 x.1)])
   (fun x w' => x.1 ≤ I.length ∧ St w (fun _ => False) w' [row (.slice a I.length c) 38 32 I.length (fl ic I), row x.2 59 33 x.1 (fl lc ((I.take x.1).map (nm1 s (decide (1 < I.length)))))]) (fun x => I.length - x.1) (0, .slice none 0 0)
   ⟨rfl, rfl, rfl, rfl, rfl, rfl, trivial⟩ ⟨Nat.zero_le _, hS.nilrow 59 33⟩ ?_
  clear hS
  rintro ⟨k, vo⟩ w1 ⟨hk, hS⟩
  dsimp only at hk hS ⊢
  refine gW ?_
  (refine g_cd rfl (fun hlt => ?_) (fun hlt => ?_) <;> simp only [cmv, arv, Bool.not_eq_true', Bool.not_eq_false', decide_eq_true_eq, decide_eq_false_iff_not] at hlt)
  ·have hlt : k < I.length := by omega
   obtain ⟨b, off, cap, l, e1, hcap, hl, hx, hb⟩ := Rd.block (Ow.rd (hS.ok 0 _ rfl)) (by omega)
   cases e1
   refine gW ?_
   refine g_rq rfl rfl ⟨by omega, by omega⟩ ?_
   have hbd : off + k * 32 + 32 ≤ l.length := by have : (k + 1) * 32 ≤ c * 32 := Nat.mul_le_mul_right 32 (by omega); omega
   refine g_lmr rfl rfl hb hbd ?_
   rw [Int.toNat_natCast, rd_at ic_len hx rfl hlt]
   refine gW ?_
   refine g_ef rfl (ef_al hS fun b2 w1 hS => ?_)
   replace hS : St w (fun _ => False) w1 [_, _, cel b2 (bys zid) 38] := hS
   refine g_ef0 rfl (ef_st hS 2 rfl rfl rfl (ic_len _) (by rw [bys_length, zid_len]; decide) (bys_one _) fun w1 hS => ?_)
   replace hS := hS.ceq (l' := ic I[k]) 2 rfl (spl_full _ _ (by show (ic _).length = _; rw [ic_len, bys_length, zid_len]))
   refine gW ?_
   refine g_at 1 [(0, sv s), (7, .slice (some ⟨b, off, none⟩) I.length c), (8, vo), (10, dp b2), (11, sv (nm1 s (decide (1 < I.length)) I[k]).1), (19, .slice (some ⟨b, off, none⟩) I.length c), (20, .int .i64 I.length), (21, .int .i64 k)]
    (fun w' => St w (fun _ => False) w' [row (.slice (some ⟨b, off, none⟩) I.length c) 38 32 I.length (fl ic I), row vo 59 33 k (fl lc ((I.take k).map (nm1 s (decide (1 < I.length))))), cel b2 (ic I[k]) 38]) rfl ?_ ?_
   ·refine g_cd rfl (fun hm => ?_) (fun hm => ?_) <;> (simp only [cmv, arv, Bool.not_eq_true', Bool.not_eq_false', decide_eq_true_eq, decide_eq_false_iff_not] at hm)
    ·refine gW ?_
     refine g_lm rfl rfl (hS.b 2 rfl) (Nat.le_of_eq (by rw [ic_len])) ?_
     rw [List.drop_zero, List.take_of_length_le (Nat.le_of_eq (ic_len _))]
     refine g_cl rfl rfl (b_Conflict I[k].2 (hg.in hS) fun w' h' => ?_)
     replace hS := hS.call0.2 _ _ h'
     rw [List.append_nil] at hS
     rw [if_pos e]
     refine gW ?_
     have e1 : (nm1 s (decide (1 < I.length)) I[k]).1 = s ++ 126 :: hex I[k].1 := by
      unfold nm1 cfl
      rw [if_pos (decide_eq_true (by omega))]
     exact g_j ⟨rfl, rfl, rfl, rfl, by rw [e1]; rfl, rfl, rfl, rfl, trivial⟩ hS
    ·refine gW ?_
     have e1 : (nm1 s (decide (1 < I.length)) I[k]).1 = s := by
      unfold nm1
      rw [if_neg (by rw [decide_eq_true_eq]; omega)]
     exact g_j ⟨rfl, rfl, rfl, rfl, by rw [e1]; rfl, rfl, rfl, rfl, trivial⟩ hS
   ·clear hS
    intro T w1 hT hS
    refine g_wkc hT ?_
    refine gW ?_
    refine g_lm rfl rfl (hS.b 2 rfl) (Nat.le_of_eq (by rw [ic_len])) ?_
    rw [List.drop_zero, List.take_of_length_le (Nat.le_of_eq (ic_len _))]
    refine g_qt rfl (qt_bd (out := lc (nm1 s (decide (1 < I.length)) I[k])) (fill_li _ rfl rfl) _) ?_
    refine g_ef rfl (ef_bl (rs := lc (nm1 s (decide (1 < I.length)) I[k])) hS (evcs_1 rfl (lc_len _)) fun g w1 hS => ?_)
    have hone : (lc (nm1 s (decide (1 < I.length)) I[k])).all (·.oneCell') = true := List.all_eq_true.2 (lc_one _)
    refine g_ef rfl (ef_ap (n := k) (m := 1) hS 1 rfl rfl rfl (.inl ⟨59, .inr ⟨g, 0, 1, _, rfl, Nat.le_refl _, Nat.le_of_eq (by rw [lc_len]), by rw [List.drop_zero, List.take_of_length_le (Nat.le_of_eq (lc_len _))], (hS.b 3 rfl).r⟩⟩) hone (by omega) (by omega) fun v1 w1 hS => ?_)
    have est : fl lc ((I.take k).map (nm1 s (decide (1 < I.length)))) ++ lc (nm1 s (decide (1 < I.length)) I[k]) = fl lc ((I.take (k + 1)).map (nm1 s (decide (1 < I.length)))) := by
     rw [List.take_succ_eq_append_getElem hlt, List.map_append, fl_app]
     simp [fl]
    rw [est] at hS
    refine gW ?_
    refine g_rq rfl rfl (in64 (by simp only [arv]; omega)) ?_
    refine gW ?_
    exact g_l (k + 1, v1) ⟨rfl, rfl, rfl, rfl, rfl, rfl, trivial⟩ ⟨by simp only; omega, hS.sel [0, 1] rfl rfl⟩ (by simp only; omega)
  ·have ek : k = I.length := by omega
   subst ek
   rw [List.take_length] at hS
   have en : I.map (nm1 s (decide (1 < I.length))) = nmL s ids := by unfold nmL; rw [hI]
   rw [en] at hS
   have enl : (nmL s ids).length = I.length := by rw [← en, List.length_map]
   refine gW ?_
   refine g_cl rfl rfl (CK.fr (A := [row vo 59 33 I.length (fl lc (nmL s ids))]) (B := []) (A' := [row vo 59 33 I.length (fl lc (nmL s ids))]) (hS.sel [1] rfl rfl) (fun hS h => b_SortL enl hml hS fun d' w' hp hs hS => h w' ?_) fun w1 hS => ?_)
   ·have ed : d' = nmL s ids := sorted_unique (nmL_inj s ids) hp hs (nmL_sorted s ids)
    rw [ed] at hS
    exact hS
   ·refine gW ?_
    rw [← enl] at hS
    exact g_ret (q_2 rfl rfl (h _ _ hS))
end
def ent (x : Li) : Bs × Bool × Bool := ((spN x.1).1, (spN x.1).2.2.1, decide ((spN x.1).2.2.2 = 0) && (!(spN x.1).2.2.1 || decide ((spN x.1).2.1 = x.2.1)))
def ec (e : Bs × Bool × Bool) : List Value := [sv e.1, .bool e.2.1, .bool e.2.2]
section
variable {w w0 : World} {S0 : Nat → Prop} {L B : List Res} {K : Value → World → Prop} {s : Bs} {E0 E1 : Nat}
theorem getL2 {r q : Res} : (L ++ [r] ++ [q])[L.length]? = some r := by rw [List.getElem?_append_left (by simp)]; exact getL
theorem b_entries {v : Value} (hv1 : v.oneCell' = true) (hvc : v.cells.toList = [v]) (h : ∀ b w', St w (fun _ => False) w' [cel b [v] 56] → K (.func (.func 182) ⟨[]⟩ ⟨[dp b]⟩) w') : CK Tryz.prog 126 [v] w K := by
 have hS := St.nil w (fun _ => False)
 refine call_k Tryz.func126 k126 Tryz.ntmps126 (Nat.le_of_ble_eq_true rfl) ?_
 refine gW ?_
 refine g_ef rfl (ef_bx hS rfl fun b1 w1 hS => ?_)
 rw [hvc] at hS
 refine gW ?_
 exact g_ret (q_1 rfl (h _ _ hS))
theorem d_entries {ι : Type} {Ls : ι → List Res} {Inv : Nat → ι → Prop} {d : List Li} {v : Value} {b l i n : Nat} (hd : d.length = n) (hn : n < 2000000) (hlen : ∀ x ∈ d, x.1.length < 4294967281)
  (hi : ∀ σ, (Ls σ)[i]? = some (cel b [v] 56)) (hr : ∀ σ w, St w0 S0 w (Ls σ) → Rd v E0 33 n (fl lc d) w) (hg : ∀ σ w, St w0 S0 w (Ls σ) → Gl w)
  {σ0 : ι} (h0 : Inv 0 σ0) (hS : St w0 S0 w (Ls σ0))
  (hy : ∀ (k : Nat) (hk : k < d.length) (σ : ι) (w : World), Inv k σ → St w0 S0 w (Ls σ) → Yd Tryz.prog l [.agg ⟨lc d[k]⟩, .agg ⟨ec (ent d[k])⟩] w fun v w' => (v = .bool true ∧ ∃ σ', Inv (k + 1) σ' ∧ St w0 S0 w' (Ls σ')) ∨ (v = .bool false ∧ K (.tuple ⟨[]⟩) w'))
  (he : ∀ σ w, Inv n σ → St w0 S0 w (Ls σ) → K (.tuple ⟨[]⟩) w) : CK Tryz.prog 182 [.func (.yield l) ⟨[]⟩ ⟨[]⟩, dp b] w K := by
 obtain ⟨a, c, rfl⟩ := (hr _ _ hS).form
 refine call_k Tryz.func182 k182 Tryz.ntmps182 (Nat.le_of_ble_eq_true rfl) ?_
 refine gW ?_
 refine g_l1 rfl rfl (hS.b i (hi σ0)) rfl ?_
 refine gW ?_
 refine g_lp (ι := Nat × ι) (fun x => [(0, .func (.yield l) ⟨[]⟩ ⟨[]⟩), (9, .slice a n c), (10, .int .i64 n), (11, .int .i64 x.1)]) (fun x w => x.1 ≤ n ∧ Inv x.1 x.2 ∧ St w0 S0 w (Ls x.2)) (fun x => n - x.1) (0, σ0) ⟨rfl, rfl, rfl, rfl, trivial⟩ ⟨Nat.zero_le _, h0, hS⟩ ?_
 clear hS h0
 rintro ⟨k, σ⟩ w ⟨hk, hI, hS⟩
 dsimp only at hk hI hS ⊢
 refine gW ?_
 (refine g_cd rfl (fun hc => ?_) (fun hc => ?_) <;> simp only [cmv, arv, Bool.not_eq_true', Bool.not_eq_false', decide_eq_true_eq, decide_eq_false_iff_not] at hc)
 ·have hlt : k < d.length := by omega
  obtain ⟨b2, off, cap, l2, e1, hcap, hl, hx, hb⟩ := Rd.block (hr _ _ hS) (by omega)
  cases e1
  refine gW ?_
  refine g_rq rfl rfl ⟨by omega, by omega⟩ ?_
  have hbd : off + k * 33 + 33 ≤ l2.length := by have : (k + 1) * 33 ≤ c * 33 := Nat.mul_le_mul_right 33 (by omega); omega
  refine g_lmr rfl rfl hb hbd ?_
  rw [Int.toNat_natCast, rd_at lc_len hx hd hlt]
  generalize hX : d[k] = X
  have hXl : X.1.length < 4294967281 := hlen X (by rw [← hX]; exact List.getElem_mem _)
  refine g_ef rfl (ef_al hS fun g4 w hS => ?_)
  have lz : (zx [(1, .string ⟨#[]⟩), (32, .int .u8 0)]).length = 33 := by decide
  refine g_ef0 rfl (ef_st hS (Ls σ).length getL rfl rfl (lc_len _) (by rw [lz]; decide) (List.all_eq_true.2 (lc_one _)) fun w hS => ?_)
  replace hS := hS.ceq (l' := lc X) (Ls σ).length (by rw [List.set_append_right _ _ (Nat.le_refl _), Nat.sub_self]; exact getL) (spl_full _ _ (by show (lc X).length = _; rw [lc_len, lz]))
  rw [List.set_append_right _ _ (Nat.le_refl _), Nat.sub_self, List.set_append_right _ _ (Nat.le_refl _), Nat.sub_self] at hS
  replace hS : St w0 S0 w (Ls σ ++ [cel g4 (lc X) 59]) := hS
  refine gW ?_
  refine g_l1 rfl rfl (hS.b _ getL) rfl ?_
  refine g_cl rfl rfl (b_Split (hg _ _ hS.init) hXl fun w' h' => ?_)
  replace hS := hS.call0.2 _ _ h'
  rw [List.append_nil] at hS
  refine gW ?_
  refine g_ef rfl (ef_al hS fun g6 w hS => ?_)
  replace hS : St w0 S0 w (Ls σ ++ [cel g4 (lc X) 59] ++ [cel g6 (bys zid) 38]) := hS
  refine gW ?_
  have lN := spN_len X.1
  have lNb : (bys (spN X.1).2.1).length = 32 := by rw [bys_length, lN]
  have lzb : (bys zid).length = 32 := by rw [bys_length, zid_len]
  refine g_ef0 rfl (ef_st hS (Ls σ ++ [cel g4 (lc X) 59]).length getL rfl rfl lNb (Nat.le_of_eq lzb.symm) (bys_one _) fun w hS => ?_)
  rw [List.set_append_right _ _ (Nat.le_refl _), Nat.sub_self] at hS
  replace hS := hS.ceq (l' := bys (spN X.1).2.1) (Ls σ ++ [cel g4 (lc X) 59]).length getL (spl_full _ _ (lNb.trans lzb.symm))
  rw [List.set_append_right _ _ (Nat.le_refl _), Nat.sub_self] at hS
  replace hS : St w0 S0 w (Ls σ ++ [cel g4 (lc X) 59] ++ [cel g6 (bys (spN X.1).2.1) 38]) := hS
  have hy' := fun w hS => hy k hlt σ w hI hS
  rw [hX] at hy'
  refine gW ?_
  refine g_dr mixed ?_
  replace hS := hS.drew
  refine gD ?_
  refine d_lm rfl rfl rfl (hS.b _ getL2) (Nat.le_of_eq (lc_len X).symm) ?_
  rw [List.drop_zero, List.take_of_length_le (Nat.le_of_eq (lc_len X))]
  refine gD ?_
  by_cases he : (spN X.1).2.2.2 = 0
  ·have hcm : cmv .eql (spN X.1).2.2.2 0 = true := by simp [cmv, he]
   rw [hcm]
   refine gD ?_
   cases hcf : (spN X.1).2.2.1
   ·refine gD ?_
    have hent : ec (ent X) = [sv (spN X.1).1, .bool false, .bool true] := by simp [ec, ent, he, hcf]
    refine d_e rfl rfl ?_
    refine ef_yd (vs := [.agg ⟨lc X⟩, .agg ⟨ec (ent X)⟩]) rfl (by rw [hent]; rfl) ((hy' _ hS.init.init).mono ?_)
    rintro v w' (⟨rfl, σ', hI', hS⟩ | ⟨rfl, hK⟩)
    ·refine ⟨rc_0, ?_⟩
     refine gD ?_
     refine d_fin ?_
     refine gW ?_
     refine g_rq rfl rfl (in64 (by simp only [arv]; omega)) ?_
     refine gW ?_
     exact g_l (k + 1, σ') ⟨rfl, rfl, rfl, rfl, trivial⟩ ⟨by simp only; omega, hI', hS⟩ (by simp only; omega)
    ·refine ⟨rc_0, ?_⟩
     refine gD ?_
     refine d_fin ?_
     refine gW ?_
     exact g_ret (q_0 hK)
   ·refine gD ?_
    refine d_lm rfl rfl rfl (hS.b _ getL) (Nat.le_of_eq lNb.symm) ?_
    rw [List.drop_zero, List.take_of_length_le (Nat.le_of_eq lNb)]
    refine gD ?_
    refine d_lm rfl rfl rfl (hS.b _ getL2) (Nat.le_of_eq (lc_len X).symm) ?_
    rw [show ((lc X).drop (0 + 1)).take 32 = bys X.2.1 by rw [Nat.zero_add]; exact List.take_of_length_le (Nat.le_of_eq (ic_len X.2))]
    refine d_qt rfl rfl rfl (qt_aq (a := (spN X.1).2.1) (b := X.2.1) rfl rfl lN X.2.2) ?_
    refine gD ?_
    have hent : ec (ent X) = [sv (spN X.1).1, .bool true, .bool (aqv .eql (spN X.1).2.1 X.2.1)] := by simp [ec, ent, he, hcf, aqv]
    refine d_e rfl rfl ?_
    refine ef_yd (vs := [.agg ⟨lc X⟩, .agg ⟨ec (ent X)⟩]) rfl (by rw [hent]; rfl) ((hy' _ hS.init.init).mono ?_)
    rintro v w' (⟨rfl, σ', hI', hS⟩ | ⟨rfl, hK⟩)
    ·refine ⟨rc_0, ?_⟩
     refine gD ?_
     refine d_fin ?_
     refine gW ?_
     refine g_rq rfl rfl (in64 (by simp only [arv]; omega)) ?_
     refine gW ?_
     exact g_l (k + 1, σ') ⟨rfl, rfl, rfl, rfl, trivial⟩ ⟨by simp only; omega, hI', hS⟩ (by simp only; omega)
    ·refine ⟨rc_0, ?_⟩
     refine gD ?_
     refine d_fin ?_
     refine gW ?_
     exact g_ret (q_0 hK)
  ·have hcm : cmv .eql (spN X.1).2.2.2 0 = false := by simp [cmv, he]
   rw [hcm]
   refine gD ?_
   have hent : ec (ent X) = [sv (spN X.1).1, .bool (spN X.1).2.2.1, .bool false] := by simp [ec, ent, he]
   refine d_e rfl rfl ?_
   refine ef_yd (vs := [.agg ⟨lc X⟩, .agg ⟨ec (ent X)⟩]) rfl (by rw [hent]; rfl) ((hy' _ hS.init.init).mono ?_)
   rintro v w' (⟨rfl, σ', hI', hS⟩ | ⟨rfl, hK⟩)
   ·refine ⟨rc_0, ?_⟩
    refine gD ?_
    refine d_fin ?_
    refine gW ?_
    refine g_rq rfl rfl (in64 (by simp only [arv]; omega)) ?_
    refine gW ?_
    exact g_l (k + 1, σ') ⟨rfl, rfl, rfl, rfl, trivial⟩ ⟨by simp only; omega, hI', hS⟩ (by simp only; omega)
   ·refine ⟨rc_0, ?_⟩
    refine gD ?_
    refine d_fin ?_
    refine gW ?_
    exact g_ret (q_0 hK)
 ·have e : k = n := by omega
  subst e
  refine gW ?_
  exact q_n (he _ _ hI hS)
end
def srtF (d : List Li) (i : Nat) : Prop := ∀ j (h : j + 1 < d.length), i ≤ j → ble d[j].1 d[j + 1].1 = true
def srtd (d : List Li) : Bool := decide (d.Pairwise fun x y => ble x.1 y.1 = true)
theorem srt_iff (d : List Li) : srtF d 0 ↔ srtd d = true := by
 unfold srtd
 rw [decide_eq_true_eq]
 constructor
 ·induction d with
  | nil => intro _; exact List.Pairwise.nil
  | cons x d ih =>
   intro h
   have hd := ih (fun j hj _ => h (j + 1) (by rw [List.length_cons]; omega) (Nat.zero_le _))
   refine List.pairwise_cons.2 ⟨?_, hd⟩
   intro y hy
   obtain ⟨j, hj, rfl⟩ := List.getElem_of_mem hy
   have h0 : ble x.1 (d[0]'(by omega)).1 = true := h 0 (by rw [List.length_cons]; omega) (Nat.le_refl _)
   by_cases e : j = 0
   ·subst e; exact h0
   ·exact ble_trans h0 (List.pairwise_iff_getElem.1 hd 0 j (by omega) hj (by omega))
 ·intro h j hj _
  exact List.pairwise_iff_getElem.1 h j (j + 1) (by omega) hj (by omega)
section
variable {w w0 : World} {S0 : Nat → Prop} {L B : List Res} {K : Value → World → Prop} {s : Bs} {E0 E1 : Nat}
theorem b_IsSorted {d : List Li} {v : Value} {n : Nat} (hd : d.length = n) (hn : n < 2000000) (hr : Rd v E0 33 n (fl lc d) w) (h : ∀ w', St w (fun _ => False) w' [] → K (.bool (srtd d)) w') : CK Tryz.prog 125 [v, .func (.func 89) ⟨[]⟩ ⟨[]⟩] w K := by
 have hS := St.nil w (fun _ => False)
 have hr' : ∀ w', St w (fun _ => False) w' [] → Rd v E0 33 n (fl lc d) w' := fun w' hS => hr.same fun b hb => hS.fr.kept b (hr.lt b hb) (fun h => h)
 obtain ⟨a, c, rfl⟩ := hr.form
 refine call_k Tryz.func125 k125 Tryz.ntmps125 (Nat.le_of_ble_eq_true rfl) ?_
 refine gW ?_
 refine g_rq rfl rfl (in64 (by simp only [arv]; omega)) ?_
 refine gW ?_
 refine g_lp (ι := Nat) (fun k => [(0, .slice a n c), (1, .func (.func 89) ⟨[]⟩ ⟨[]⟩), (5, .int .i64 ((k : Int) - 1))]) (fun k w' => k ≤ n ∧ srtF d (k - 1) ∧ St w (fun _ => False) w' []) (fun k => k) n ⟨rfl, rfl, rfl, trivial⟩ ⟨Nat.le_refl _, fun j hj hij => by omega, hS⟩ ?_
 clear hS
 rintro k w1 ⟨hk, hP, hS⟩
 refine gW ?_
 (refine g_cd rfl (fun hc => ?_) (fun hc => ?_) <;> simp only [cmv, arv, Bool.not_eq_true', Bool.not_eq_false', decide_eq_true_eq, decide_eq_false_iff_not] at hc)
 ·have hk2 : 2 ≤ k := by omega
  obtain ⟨b2, off, cap, l2, e1, hcap, hl, hx, hb⟩ := Rd.block (hr' _ hS.drew) (by omega)
  cases e1
  refine gW ?_
  refine g_dr mixed ?_
  replace hS := hS.drew
  refine gD ?_
  rw [show (k : Int) - 1 = ((k - 1 : Nat) : Int) by omega]
  refine d_rq rfl rfl rfl ⟨by omega, by omega⟩ ?_
  rw [Int.toNat_natCast]
  have hbd : ∀ i, i < n → off + i * 33 + 33 ≤ l2.length := fun i hi => by have : (i + 1) * 33 ≤ c * 33 := Nat.mul_le_mul_right 33 (by omega); omega
  refine d_qt rfl rfl rfl (qt_ldmr rfl hb (hbd (k - 1) (by omega))) ?_
  rw [rd_at lc_len hx hd (show k - 1 < d.length by omega)]
  refine gD ?_
  refine d_rq rfl rfl rfl (in64 (by simp only [arv]; omega)) ?_
  rw [show arv BinOp.sub ((k - 1 : Nat) : Int) 1 = ((k - 2 : Nat) : Int) by simp only [arv]; omega]
  refine d_rq rfl rfl rfl ⟨by omega, by omega⟩ ?_
  rw [Int.toNat_natCast]
  refine d_qt rfl rfl rfl (qt_ldmr rfl hb (hbd (k - 2) (by omega))) ?_
  rw [rd_at lc_len hx hd (show k - 2 < d.length by omega)]
  refine d_e rfl rfl ?_
  refine ef_cv (vs := [.agg ⟨lc (d[k - 1]'(by omega))⟩, .agg ⟨lc (d[k - 2]'(by omega))⟩]) rfl rfl (callFunc_of Tryz.func89 rfl rfl) (b_byName fun w' h' => ⟨rc_0, ?_⟩)
  replace hS := hS.call0.2 _ _ h'
  rw [List.append_nil] at hS
  refine gD ?_
  refine d_fin ?_
  have hng := cb_neg (d[k - 1]'(by omega)).1 (d[k - 2]'(by omega)).1
  (refine g_cd rfl (fun hq => ?_) (fun hq => ?_) <;> simp only [cmv, arv, Bool.not_eq_true', Bool.not_eq_false', decide_eq_true_eq, decide_eq_false_iff_not] at hq)
  ·have e : srtd d = false := by
    cases hsd : srtd d
    ·rfl
    ·have h1 := (srt_iff d).2 hsd (k - 2) (by omega) (Nat.zero_le _)
     have h2 : (d[k - 2]'(by omega)).1 = (d[k - 2]'(by omega)).1 := rfl
     unfold ble at h1
     rw [decide_eq_true_eq] at h1
     simp only [show k - 2 + 1 = k - 1 by omega] at h1
     omega
   rw [e] at h
   refine gW ?_
   exact g_ret (q_1 rfl (h _ hS))
  ·refine gW ?_
   refine g_rq rfl rfl (in64 (by simp only [arv]; omega)) ?_
   refine gW ?_
   refine g_l (k - 1) ⟨rfl, rfl, by show some (Value.int .i64 (arv .sub ((k - 1 : Nat) : Int) 1)) = _; simp only [arv], trivial⟩ ⟨by omega, ?_, hS⟩ (by omega)
   intro j hj hij
   by_cases e : j = k - 2
   ·subst e
    unfold ble
    rw [decide_eq_true_eq]
    simp only [show k - 2 + 1 = k - 1 by omega]
    omega
   ·exact hP j hj (by omega)
 ·have e : srtd d = true := (srt_iff d).1 fun j hj _ => hP j hj (by omega)
  rw [e] at h
  refine gW ?_
  exact g_ret (q_1 rfl (h _ hS))
end
def nbr (x y : Li) : Prop := ble x.1 y.1 = true ∧ x.1 ≠ y.1
instance (x y : Li) : Decidable (nbr x y) := by unfold nbr; infer_instance
def chk (d : List Li) : Bool := decide (d.Pairwise nbr) && (d.all (fun x => (ent x).2.2) && d.all fun x => !(ent x).2.1 || d.all fun y => (ent y).2.1 || decide ((ent y).1 ≠ (ent x).1))
def mpOk (d : List Li) (k : Nat) (es : List MapEntry) : Prop :=
 (∀ e ∈ es, strK e.key ∧ ∃ m : Nat, 1 ≤ m ∧ m ≤ k ∧ e.val = .int .i64 m) ∧ ∀ r : Bs, (∃ e ∈ es, e.key = sv r) ↔ ∃ j, ∃ h : j < d.length, j < k ∧ (ent d[j]).2.1 = false ∧ (ent d[j]).1 = r
def pre (d : List Li) (k : Nat) : Prop := (0 < k → srtd d = true) ∧ ∀ j (h : j < d.length), j < k → (ent d[j]).2.2 = true ∧ d[j].1 ≠ (if j = 0 then [] else (d[j - 1]'(by omega)).1)
def lastN (d : List Li) (k : Nat) : Bs := if k = 0 then [] else (d.getD (k - 1) default).1
structure CS where
 f : Bool
 es : List MapEntry
 c : Nat
 last : Bs
section
variable {w w0 : World} {S0 : Nat → Prop} {L B : List Res} {K : Value → World → Prop} {s : Bs} {E0 E1 : Nat}
theorem bad_srt {d : List Li} (h : srtd d = false) : chk d = false := by
 unfold chk
 rw [decide_eq_false, Bool.false_and]
 intro hp
 unfold srtd at h
 rw [decide_eq_false_iff_not] at h
 exact h (hp.imp fun h => h.1)
theorem bad_is {d : List Li} {k : Nat} (hk : k < d.length) (h : (ent d[k]).2.2 = false) : chk d = false := by
 unfold chk
 have : d.all (fun x => (ent x).2.2) = false := by
  rw [List.all_eq_false]
  exact ⟨d[k], List.getElem_mem _, by rw [h]; decide⟩
 rw [this, Bool.false_and, Bool.and_false]
theorem bad_nm {d : List Li} {k : Nat} (h0 : 0 < k) (hk : k < d.length) (h : d[k].1 = (d[k - 1]'(by omega)).1) : chk d = false := by
 unfold chk
 rw [decide_eq_false, Bool.false_and]
 intro hp
 exact (List.pairwise_iff_getElem.1 hp (k - 1) k (by omega) hk (by omega)).2 h.symm
theorem ent_nil (t : Id) : (ent ([], t)).2.2 = false := by
 have : (spN []).2.2.2 = 40 := by decide
 unfold ent
 simp [this]
theorem sv_inj {r t : Bs} (h : sv r = sv t) : r = t := by
 unfold sv at h
 simpa using h
theorem keys_app (es : List MapEntry) (x : MapEntry) {t : Bs} (hx : x.key = sv t) (r : Bs) : (∃ e ∈ es ++ [x], e.key = sv r) ↔ (∃ e ∈ es, e.key = sv r) ∨ r = t := by
 constructor
 ·rintro ⟨e, he, h⟩
  rcases List.mem_append.1 he with he | he
  ·exact .inl ⟨e, he, h⟩
  ·rw [List.mem_singleton.1 he, hx] at h
   exact .inr (sv_inj h).symm
 ·rintro (⟨e, he, h⟩ | rfl)
  ·exact ⟨e, List.mem_append_left _ he, h⟩
  ·exact ⟨x, List.mem_append_right _ (List.mem_singleton.2 rfl), hx⟩
theorem keys_set {es : List MapEntry} {j : Nat} {e0 : MapEntry} {t : Bs} (hj : es[j]? = some e0) (h0 : e0.key = sv t) (x : MapEntry) (hx : x.key = sv t) (r : Bs) : (∃ e ∈ es.set j x, e.key = sv r) ↔ (∃ e ∈ es, e.key = sv r) ∨ r = t := by
 have hlt := (List.getElem?_eq_some_iff.1 hj).1
 constructor
 ·rintro ⟨e, he, h⟩
  rcases List.mem_or_eq_of_mem_set he with he | rfl
  ·exact .inl ⟨e, he, h⟩
  ·rw [hx] at h; exact .inr (sv_inj h).symm
 ·rintro (⟨e, he, h⟩ | rfl)
  ·obtain ⟨i, hi, rfl⟩ := List.getElem_of_mem he
   by_cases e : i = j
   ·subst e
    refine ⟨x, List.mem_set hlt x, ?_⟩
    rw [hx, ← h0, ← h]
    rw [List.getElem?_eq_getElem hi] at hj
    exact (congrArg MapEntry.key (Option.some.inj hj)).symm
   ·refine ⟨es[i], ?_, h⟩
    refine List.mem_of_getElem? (i := i) ?_
    rw [List.getElem?_set_ne (fun h => e h.symm), List.getElem?_eq_getElem hi]
  ·exact ⟨x, List.mem_set hlt x, hx⟩
theorem mp_skip {d : List Li} {k : Nat} {es : List MapEntry} (hk : k < d.length) (hc : (ent d[k]).2.1 = true) (h : mpOk d k es) : mpOk d (k + 1) es := by
 refine ⟨fun e he => ⟨(h.1 e he).1, ?_⟩, fun r => (h.2 r).trans ?_⟩
 ·obtain ⟨m, h1, h2, h3⟩ := (h.1 e he).2
  exact ⟨m, h1, by omega, h3⟩
 ·constructor
  ·rintro ⟨j, hj, hjk, h1⟩
   exact ⟨j, hj, by omega, h1⟩
  ·rintro ⟨j, hj, hjk, h1, h2⟩
   by_cases e : j = k
   ·subst e; rw [hc] at h1; cases h1
   ·exact ⟨j, hj, by omega, h1, h2⟩
theorem mp_add {d : List Li} {k : Nat} {es es' : List MapEntry} (hk : k < d.length) (hc : (ent d[k]).2.1 = false) (h : mpOk d k es) (h1 : ∀ e ∈ es', strK e.key ∧ ∃ m : Nat, 1 ≤ m ∧ m ≤ k + 1 ∧ e.val = .int .i64 m)
  (h2 : ∀ r : Bs, (∃ e ∈ es', e.key = sv r) ↔ (∃ e ∈ es, e.key = sv r) ∨ r = (ent d[k]).1) : mpOk d (k + 1) es' := by
 refine ⟨h1, fun r => (h2 r).trans ?_⟩
 rw [h.2 r]
 constructor
 ·rintro (⟨j, hj, hjk, h1⟩ | rfl)
  ·exact ⟨j, hj, by omega, h1⟩
  ·exact ⟨k, hk, by omega, hc, rfl⟩
 ·rintro ⟨j, hj, hjk, h3, h4⟩
  by_cases e : j = k
  ·subst e; exact .inr h4.symm
  ·exact .inl ⟨j, hj, by omega, h3, h4⟩
theorem chk_conf {d : List Li} (h : chk d = true) {i j : Nat} (hj : j < d.length) (hc : (ent d[j]).2.1 = true) (hi : i < d.length) (hci : (ent d[i]).2.1 = false) (e : (ent d[i]).1 = (ent d[j]).1) : False := by
 unfold chk at h
 simp only [Bool.and_eq_true, List.all_eq_true, Bool.or_eq_true, Bool.not_eq_true', decide_eq_true_eq] at h
 rcases h.2.2 d[j] (List.getElem_mem _) with h1 | h1
 ·rw [hc] at h1; cases h1
 ·rcases h1 d[i] (List.getElem_mem _) with h2 | h2
  ·rw [hci] at h2; cases h2
  ·exact h2 e
theorem chk_good {d : List Li} {n : Nat} (hp : pre d n) (hc : ∀ j (hj : j < d.length), (ent d[j]).2.1 = true → ∀ i (hi : i < d.length), (ent d[i]).2.1 = false → (ent d[i]).1 = (ent d[j]).1 → False) (hn : d.length ≤ n) : chk d = true := by
 unfold chk
 simp only [Bool.and_eq_true, List.all_eq_true, Bool.or_eq_true, Bool.not_eq_true', decide_eq_true_eq]
 refine ⟨?_, ?_, ?_⟩
 ·cases hd : d with
  | nil => exact List.Pairwise.nil
  | cons x r =>
   rw [← hd]
   have hs := hp.1 (by rw [hd] at hn; simp at hn; omega)
   unfold srtd at hs
   rw [decide_eq_true_eq] at hs
   rw [List.pairwise_iff_getElem] at hs ⊢
   intro i j hi hj hij
   refine ⟨hs i j hi hj hij, fun e => ?_⟩
   have h1 := (hp.2 j hj (by omega)).2
   rw [if_neg (by omega)] at h1
   refine h1 ?_
   by_cases ei : i = j - 1
   ·subst ei; exact e.symm
   ·have h2 := hs i (j - 1) hi (by omega) (by omega)
    have h3 := hs (j - 1) j (by omega) hj (by omega)
    rw [e] at h2
    exact ble_anti h2 h3
 ·intro x hx
  obtain ⟨i, hi, rfl⟩ := List.getElem_of_mem hx
  exact (hp.2 i hi (by omega)).1
 ·intro x hx
  obtain ⟨j, hj, rfl⟩ := List.getElem_of_mem hx
  cases hcj : (ent d[j]).2.1
  ·exact .inl rfl
  ·refine .inr fun y hy => ?_
   obtain ⟨i, hi, rfl⟩ := List.getElem_of_mem hy
   cases hci : (ent d[i]).2.1
   ·exact .inr fun e => hc j hj hcj i hi hci e
   ·exact .inl rfl
def eE (d : List Li) : Int := if chk d = true then 0 else 200
set_option maxHeartbeats 4000000 in
theorem b_CheckL {d : List Li} {v : Value} {n : Nat} (hd : d.length = n) (hn : n < 2000000) (hlen : ∀ x ∈ d, x.1.length < 4294967281) (hg : Gl w) (hr : Rd v E0 33 n (fl lc d) w) (h : ∀ w', St w (fun _ => False) w' [] → K (.int .i64 (eE d)) w') : CK Tryz.prog 90 [v] w K := by
 have hS := St.nil w (fun _ => False)
 have hrr : ∀ {L : List Res} (w' : World), St w (fun _ => False) w' L → Rd v E0 33 n (fl lc d) w' := fun w' hS => hr.same fun b hb => hS.fr.kept b (hr.lt b hb) (fun h => h)
 obtain ⟨a, c, rfl⟩ := hr.form
 refine call_k Tryz.func90 k90 Tryz.ntmps90 (Nat.le_of_ble_eq_true rfl) ?_
 refine gW ?_
 refine g_sc rfl ?_
 refine gW ?_
 refine g_cl rfl rfl (b_IsSorted hd hn hr fun w1 hS => ?_)
 refine gW ?_
 refine g_ef rfl (ef_al hS fun b3 w1 hS => ?_)
 refine gW ?_
 refine g_ef0 rfl (ef_st hS 0 rfl rfl rfl rfl (Nat.le_of_ble_eq_true rfl) rfl fun w1 hS => ?_)
 refine gW ?_
 refine g_ef rfl (ef_mkm hS fun mb w1 hS => ?_)
 refine g_ef rfl (ef_al hS fun b4 w1 hS => ?_)
 refine g_ef0 rfl (ef_st hS 2 rfl rfl rfl rfl (Nat.le_of_ble_eq_true rfl) rfl fun w1 hS => ?_)
 refine gW ?_
 refine g_ef rfl (ef_al hS fun b5 w1 hS => ?_)
 refine g_ef0 rfl (ef_st hS 3 rfl rfl rfl rfl (Nat.le_of_ble_eq_true rfl) rfl fun w1 hS => ?_)
 refine gW ?_
 refine g_cl rfl rfl (b_entries rfl rfl fun b1 w1 h' => ?_)
 replace hS := hS.call0.2 _ _ h'
 replace hS : St w (fun _ => False) w1 [cel b3 [.bool (srtd d)] 4, obj mb (.map ⟨[]⟩ 0), cel b4 [.map (some mb)] 171, cel b5 [sv []] 9, cel b1 [.slice a n c] 56] := hS
 clear h'
 refine g_r0 ?_
 refine g_atd 1 [(0, .slice a n c), (3, dp b3), (4, dp b4)] (fun D1 w' => ∃ dB, D1 = [⟨.collected dB, #[]⟩] ∧ ∃ (f : Bool) (es : List MapEntry) (q : Nat), ((f = true → pre d n ∧ mpOk d n es) ∧ (f = false → chk d = false)) ∧ (∀ e ∈ es, strK e.key) ∧
  St w (fun _ => False) w' [cel b3 [.bool f] 4, obj mb (.map ⟨es⟩ q), cel b4 [.map (some mb)] 171, obj dB (.deferred (some []))]) rfl ?_ ?_
 ·refine gW ?_
  refine g_wkc (T' := [(14, .func (.func 182) ⟨[]⟩ ⟨[dp b1]⟩), (0, .slice a n c), (3, dp b3), (4, dp b4), (5, dp b5)]) ⟨rfl, rfl, rfl, rfl, rfl, trivial⟩ ?_
  refine g_rf (cap := [dp b1]) (first := []) hS rfl (callFunc_of Tryz.func182 rfl rfl) fun l dB w2 hS => ?_
  refine d_entries (ι := CS) (Ls := fun σ => [cel b3 [.bool σ.f] 4, obj mb (.map ⟨σ.es⟩ σ.c), cel b4 [.map (some mb)] 171, cel b5 [sv σ.last] 9, cel b1 [.slice a n c] 56, obj dB (.deferred (some [])), _]) (Inv := fun k σ => σ.f = (if k = 0 then srtd d else true) ∧ pre d k ∧ mpOk d k σ.es ∧ σ.last = lastN d k) (i := 4) hd hn hlen (fun σ => rfl) (fun σ w' hS => hrr w' hS) (fun σ w' hS => hg.in hS) (σ0 := ⟨srtd d, [], 0, []⟩) ?_ hS ?_ ?_
  ·exact ⟨rfl, ⟨fun h => absurd h (Nat.lt_irrefl 0), fun j hj h => absurd h (Nat.not_lt_zero j)⟩, ⟨fun e he => (nomatch he), fun r => ⟨fun ⟨e, he, _⟩ => (nomatch he), fun ⟨j, _, h, _⟩ => absurd h (Nat.not_lt_zero j)⟩⟩, rfl⟩
  ·clear hS
   rintro k hk ⟨f, es, q, la⟩ w2 ⟨hf, hp, hm, hla⟩ hS
   dsimp only at hf hp hm hla hS
   refine yd_of hS 6 rfl rfl ?_
   generalize hX : d[k] = X
   refine gW ?_
   refine g_ef rfl (ef_al hS fun b6 w2 hS => ?_)
   have lz : (zx [(1, .string ⟨#[]⟩), (32, .int .u8 0)]).length = 33 := by decide
   refine g_ef0 rfl (ef_st hS 7 rfl rfl rfl (lc_len _) (by rw [lz]; decide) (List.all_eq_true.2 (lc_one _)) fun w2 hS => ?_)
   replace hS := hS.ceq (l' := lc X) 7 rfl (spl_full _ _ (by show (lc X).length = _; rw [lc_len, lz]))
   refine gW ?_
   refine g_ef rfl (ef_al hS fun b7 w2 hS => ?_)
   refine g_ef0 rfl (ef_st hS 8 rfl rfl rfl rfl (Nat.le_of_ble_eq_true rfl) rfl fun w2 hS => ?_)
   replace hS := hS.ceq (l' := ec (ent X)) 8 rfl rfl
   refine gW ?_
   refine ⟨rfl, _, _, hS, rfl, fun w2 hS => ?_⟩
   refine gW ?_
   refine g_l1 rfl rfl (hS.b  0 rfl) rfl ?_
   refine gW ?_
   cases f
   ·have hbad : chk d = false := by
     refine bad_srt ?_
     by_cases h0 : k = 0
     ·rw [if_pos h0] at hf; exact hf.symm
     ·rw [if_neg h0] at hf; cases hf
    refine gW ?_
    refine g_ef0 rfl (ef_st hS 0 rfl rfl rfl rfl (Nat.le_of_ble_eq_true rfl) rfl fun w2 hS => ?_)
    refine gW ?_
    refine g_l1 rfl rfl (hS.b  0 rfl) rfl ?_
    refine gW ?_
    refine g_xt (k_xo rfl ?_)
    refine ⟨_, _, hS, rfl, fun w2 hS => .inr ⟨rfl, ?_⟩⟩
    refine ⟨_, 6, _, _, hS, rfl, (fun h => nomatch h), fun w2 hS => ?_⟩
    exact k_xt rfl (g_jd ⟨rfl, rfl, rfl, trivial⟩ ⟨dB, rfl, false, es, q, ⟨fun h => (nomatch h), fun _ => hbad⟩, fun e he => (hm.1 e he).1, hS.sel [0, 1, 2, 5] rfl rfl⟩)
   ·refine gW ?_
    refine g_l1 rfl rfl (hS.b  8 rfl) rfl ?_
    cases his : (ent X).2.2
    ·have hbad : chk d = false := bad_is hk (by rw [hX]; exact his)
     refine gW ?_
     refine g_ef0 rfl (ef_st hS 0 rfl rfl rfl rfl (Nat.le_of_ble_eq_true rfl) rfl fun w2 hS => ?_)
     refine gW ?_
     refine g_l1 rfl rfl (hS.b  0 rfl) rfl ?_
     refine gW ?_
     refine g_xt (k_xo rfl ?_)
     refine ⟨_, _, hS, rfl, fun w2 hS => .inr ⟨rfl, ?_⟩⟩
     refine ⟨_, 6, _, _, hS, rfl, (fun h => nomatch h), fun w2 hS => ?_⟩
     exact k_xt rfl (g_jd ⟨rfl, rfl, rfl, trivial⟩ ⟨dB, rfl, false, es, q, ⟨fun h => (nomatch h), fun _ => hbad⟩, fun e he => (hm.1 e he).1, hS.sel [0, 1, 2, 5] rfl rfl⟩)
    ·refine gW ?_
     refine g_l1 rfl rfl (hS.b  7 rfl) rfl ?_
     refine g_l1 rfl rfl (hS.b  3 rfl) rfl ?_
     refine gW ?_
     by_cases hnm : X.1 = la
     ·have hbad : chk d = false := by
       by_cases h0 : k = 0
       ·subst h0
        rw [hla] at hnm
        have : X = ([], X.2) := Prod.ext hnm rfl
        rw [this, ent_nil] at his
        cases his
       ·refine bad_nm (by omega) hk ?_
        rw [hX, hnm, hla, lastN, if_neg h0]
        rw [List.getD_eq_getElem?_getD, List.getElem?_eq_getElem (by omega)]
        rfl
      have hdn : (!decide ((⟨X.1.toArray⟩ : ByteArray).data.toList = (⟨la.toArray⟩ : ByteArray).data.toList)) = false := by rw [decide_eq_true hnm]; rfl
      rw [hdn]
      refine gW ?_
      refine g_ef0 rfl (ef_st hS 0 rfl rfl rfl rfl (Nat.le_of_ble_eq_true rfl) rfl fun w2 hS => ?_)
      refine gW ?_
      refine g_l1 rfl rfl (hS.b  0 rfl) rfl ?_
      refine gW ?_
      refine g_xt (k_xo rfl ?_)
      refine ⟨_, _, hS, rfl, fun w2 hS => .inr ⟨rfl, ?_⟩⟩
      refine ⟨_, 6, _, _, hS, rfl, (fun h => nomatch h), fun w2 hS => ?_⟩
      exact k_xt rfl (g_jd ⟨rfl, rfl, rfl, trivial⟩ ⟨dB, rfl, false, es, q, ⟨fun h => (nomatch h), fun _ => hbad⟩, fun e he => (hm.1 e he).1, hS.sel [0, 1, 2, 5] rfl rfl⟩)
     ·have hdn : (!decide ((⟨X.1.toArray⟩ : ByteArray).data.toList = (⟨la.toArray⟩ : ByteArray).data.toList)) = true := by rw [decide_eq_false hnm]; rfl
      rw [hdn]
      refine gW ?_
      refine g_ef0 rfl (ef_st hS 0 rfl rfl rfl rfl (Nat.le_of_ble_eq_true rfl) rfl fun w2 hS => ?_)
      refine gW ?_
      refine g_l1 rfl rfl (hS.b  0 rfl) rfl ?_
      refine gW ?_
      refine g_l1 rfl rfl (hS.b  7 rfl) rfl ?_
      refine g_ef0 rfl (ef_st hS 3 rfl rfl rfl rfl (Nat.le_of_ble_eq_true rfl) rfl fun w2 hS => ?_)
      refine gW ?_
      refine g_l1 rfl rfl (hS.b  8 rfl) rfl ?_
      have hp1 : pre d (k + 1) := by
       refine ⟨fun _ => ?_, fun j hj hjk => ?_⟩
       ·by_cases h0 : k = 0
        ·rw [if_pos h0] at hf; exact hf.symm
        ·exact hp.1 (by omega)
       ·by_cases ej : j = k
        ·subst ej
         rw [hX]
         refine ⟨his, fun e => hnm ?_⟩
         rw [e, hla, lastN]
         split
         ·rfl
         ·rw [List.getD_eq_getElem?_getD, List.getElem?_eq_getElem (by omega)]
          rfl
        ·exact hp.2 j hj (by omega)
      have hl1 : X.1 = lastN d (k + 1) := by
       rw [lastN, if_neg (by omega), List.getD_eq_getElem?_getD, Nat.add_sub_cancel, List.getElem?_eq_getElem hk, ← hX]
       rfl
      cases hcf : (ent X).2.1
      ·refine gW ?_
       refine g_l1 rfl rfl (hS.b  2 rfl) rfl ?_
       refine gW ?_
       refine g_l1 rfl rfl (hS.b  8 rfl) rfl ?_
       refine g_ef rfl (ef_mlk (kl_str Tryz.underlying9) (hS.ok 1 _ rfl) rfl rfl ⟨_, rfl⟩ (fun e he => (hm.1 e he).1) (fun hne => ?_) fun j e hj he => ?_)
       ·refine g_rq rfl rfl (in64 (by simp only [arv]; omega)) ?_
        refine g_ef0 rfl (ef_mup (kl_str Tryz.underlying9) hS 1 rfl rfl rfl rfl ⟨_, rfl⟩ (fun e he => (hm.1 e he).1) (fun _ w2 hS => ?_) fun j e hj he => absurd he (hne e (List.mem_of_getElem? hj)))
        refine gW ?_
        refine ⟨_, _, hS.sel [0, 1, 2, 3, 4, 5, 6] rfl rfl, rfl, fun w2 hS => .inl ⟨rfl, ⟨true, _, _, X.1⟩, ⟨by rw [if_neg (by omega)], hp1, ?_, hl1⟩, hS⟩⟩
        refine mp_add hk (by rw [hX]; exact hcf) hm ?_ ?_
        ·intro e he
         rcases List.mem_append.1 he with he | he
         ·obtain ⟨h1, m, h2, h3, h4⟩ := hm.1 e he
          exact ⟨h1, m, h2, by omega, h4⟩
         ·rw [List.mem_singleton.1 he]
          exact ⟨⟨_, rfl⟩, 1, Nat.le_refl _, by omega, rfl⟩
        ·intro r
         rw [hX]
         exact keys_app es _ rfl r
       ·obtain ⟨m, hm1, hm2, hmv⟩ := (hm.1 e (List.mem_of_getElem? hj)).2
        rw [hmv]
        show G _ _ ((38, .int .i64 m) :: _) _ _ _
        refine g_rq rfl rfl (in64 (by simp only [arv]; omega)) ?_
        refine g_ef0 rfl (ef_mup (kl_str Tryz.underlying9) hS 1 rfl rfl rfl rfl ⟨_, rfl⟩ (fun e he => (hm.1 e he).1) (fun hne => absurd he (hne e (List.mem_of_getElem? hj))) fun j2 e2 hj2 he2 w2 hS => ?_)
        refine gW ?_
        refine ⟨_, _, hS.sel [0, 1, 2, 3, 4, 5, 6] rfl rfl, rfl, fun w2 hS => .inl ⟨rfl, ⟨true, _, _, X.1⟩, ⟨by rw [if_neg (by omega)], hp1, ?_, hl1⟩, hS⟩⟩
        refine mp_add hk (by rw [hX]; exact hcf) hm ?_ ?_
        ·intro e3 he3
         rcases List.mem_or_eq_of_mem_set he3 with he3 | rfl
         ·obtain ⟨h1, m, h2, h3, h4⟩ := hm.1 e3 he3
          exact ⟨h1, m, h2, by omega, h4⟩
         ·exact ⟨⟨_, rfl⟩, m + 1, by omega, by omega, rfl⟩
        ·intro r
         rw [hX]
         exact keys_set hj2 he2 _ rfl r
      ·refine gW ?_
       exact ⟨_, _, hS.sel [0, 1, 2, 3, 4, 5, 6] rfl rfl, rfl, fun w2 hS => .inl ⟨rfl, ⟨true, es, q, X.1⟩, ⟨by rw [if_neg (by omega)], hp1, mp_skip hk (by rw [hX]; exact hcf) hm, hl1⟩, hS⟩⟩
  ·clear hS
   rintro ⟨f, es, q, la⟩ w2 ⟨hf, hp, hm, hla⟩ hS
   dsimp only at hf hp hm hla hS
   refine ⟨_, 6, _, _, hS, rfl, (fun h => nomatch h), fun w2 hS => ?_⟩
   refine g_b (g_jd ⟨rfl, rfl, rfl, trivial⟩ ⟨dB, rfl, f, es, q, ⟨fun _ => ⟨hp, hm⟩, fun h0 => bad_srt ?_⟩, fun e he => (hm.1 e he).1, hS.sel [0, 1, 2, 5] rfl rfl⟩)
   by_cases hn0 : n = 0
   ·rw [if_pos hn0, h0] at hf; exact hf.symm
   ·rw [if_neg hn0, h0] at hf; cases hf
 ·clear hS
  rintro T D1 w1 hT ⟨dB, rfl, f, es, q, ⟨hf1, hf0⟩, hes, hS⟩
  refine g_wkc hT ?_
  refine gW ?_
  refine g_cl rfl rfl (b_entries rfl rfl fun b1 w1 h' => ?_)
  replace hS := hS.call0.2 _ _ h'
  replace hS : St w (fun _ => False) w1 [cel b3 [.bool f] 4, obj mb (.map ⟨es⟩ q), cel b4 [.map (some mb)] 171, obj dB (.deferred (some [])), cel b1 [.slice a n c] 56] := hS
  clear h'
  refine g_r0 ?_
  refine g_atd 1 [(3, dp b3)] (fun D1 w' => ∃ dB2, D1 = [⟨.collected dB2, #[]⟩, ⟨.collected dB, #[]⟩] ∧
   St w (fun _ => False) w' [cel b3 [.bool (chk d)] 4, obj dB (.deferred (some [])), obj dB2 (.deferred (some []))]) rfl ?_ ?_
  ·refine gW ?_
   refine g_wkc (T' := [(41, .func (.func 182) ⟨[]⟩ ⟨[dp b1]⟩), (0, .slice a n c), (3, dp b3), (4, dp b4)]) ⟨rfl, rfl, rfl, rfl, trivial⟩ ?_
   refine g_rf (cap := [dp b1]) (first := []) hS rfl (callFunc_of Tryz.func182 rfl rfl) fun l dB2 w2 hS => ?_
   refine d_entries (ι := Bool) (Ls := fun σ => [cel b3 [.bool σ] 4, obj mb (.map ⟨es⟩ q), cel b4 [.map (some mb)] 171, obj dB (.deferred (some [])), cel b1 [.slice a n c] 56, obj dB2 (.deferred (some [])), _])
    (Inv := fun k σ => σ = true ↔ f = true ∧ ∀ j (h : j < d.length), j < k → (ent d[j]).2.1 = true → ∀ e ∈ es, e.key ≠ sv (ent d[j]).1) (i := 4) hd hn hlen (fun σ => rfl) (fun σ w' hS => hrr w' hS) (fun σ w' hS => hg.in hS) (σ0 := f) ⟨fun h => ⟨h, fun j _ h => absurd h (Nat.not_lt_zero j)⟩, fun h => h.1⟩ hS ?_ ?_
   ·clear hS
    intro k hk σ w2 hI hS
    refine yd_of hS 6 rfl rfl ?_
    generalize hX : d[k] = X
    refine gW ?_
    refine g_ef rfl (ef_al hS fun b7 w2 hS => ?_)
    refine g_ef0 rfl (ef_st hS 7 rfl rfl rfl rfl (Nat.le_of_ble_eq_true rfl) rfl fun w2 hS => ?_)
    replace hS := hS.ceq (l' := ec (ent X)) 7 rfl rfl
    refine gW ?_
    refine ⟨rfl, _, _, hS, rfl, fun w2 hS => ?_⟩
    refine gW ?_
    refine g_l1 rfl rfl (hS.b  0 rfl) rfl ?_
    refine gW ?_
    cases σ
    ·refine gW ?_
     refine g_ef0 rfl (ef_st hS 0 rfl rfl rfl rfl (Nat.le_of_ble_eq_true rfl) rfl fun w2 hS => ?_)
     refine gW ?_
     refine ⟨_, _, hS.sel [0, 1, 2, 3, 4, 5, 6] rfl rfl, rfl, fun w2 hS => .inl ⟨rfl, false, ?_, hS⟩⟩
     constructor
     ·intro h; cases h
     ·rintro ⟨h1, h2⟩
      exact hI.2 ⟨h1, fun j hj hjk => h2 j hj (by omega)⟩
    ·have hft := (hI.1 rfl).1
     obtain ⟨hp, hm⟩ := hf1 hft
     refine gW ?_
     refine g_l1 rfl rfl (hS.b  7 rfl) rfl ?_
     refine gW ?_
     cases hcf : (ent X).2.1
     ·refine gW ?_
      refine g_ef0 rfl (ef_st hS 0 rfl rfl rfl rfl (Nat.le_of_ble_eq_true rfl) rfl fun w2 hS => ?_)
      refine gW ?_
      refine ⟨_, _, hS.sel [0, 1, 2, 3, 4, 5, 6] rfl rfl, rfl, fun w2 hS => .inl ⟨rfl, true, ⟨fun _ => ⟨hft, fun j hj hjk hc => ?_⟩, fun _ => rfl⟩, hS⟩⟩
      by_cases e : j = k
      ·subst e; rw [hX, hcf] at hc; cases hc
      ·exact (hI.1 rfl).2 j hj (by omega) hc
     ·refine gW ?_
      refine g_l1 rfl rfl (hS.b  2 rfl) rfl ?_
      refine gW ?_
      refine g_l1 rfl rfl (hS.b  7 rfl) rfl ?_
      refine g_ef rfl (ef_mlk (kl_str Tryz.underlying9) (hS.ok 1 _ rfl) rfl rfl ⟨_, rfl⟩ hes (fun hne => ?_) fun j e hj he => ?_)
      ·refine gW ?_
       refine g_ef0 rfl (ef_st hS 0 rfl rfl rfl rfl (Nat.le_of_ble_eq_true rfl) rfl fun w2 hS => ?_)
       refine gW ?_
       refine ⟨_, _, hS.sel [0, 1, 2, 3, 4, 5, 6] rfl rfl, rfl, fun w2 hS => .inl ⟨rfl, true, ⟨fun _ => ⟨hft, fun j hj hjk hc => ?_⟩, fun _ => rfl⟩, hS⟩⟩
       by_cases e : j = k
       ·subst e; rw [hX]; exact hne
       ·exact (hI.1 rfl).2 j hj (by omega) hc
      ·obtain ⟨m, hm1, hm2, hmv⟩ := (hm.1 e (List.mem_of_getElem? hj)).2
       rw [hmv]
       have hcm : cmv .eql (m : Int) 0 = false := by simp [cmv]; omega
       show G _ _ ((53, .int .i64 m) :: _) _ _ _
       refine gW ?_
       rw [hcm]
       refine gW ?_
       refine g_ef0 rfl (ef_st hS 0 rfl rfl rfl rfl (Nat.le_of_ble_eq_true rfl) rfl fun w2 hS => ?_)
       refine gW ?_
       refine ⟨_, _, hS.sel [0, 1, 2, 3, 4, 5, 6] rfl rfl, rfl, fun w2 hS => .inl ⟨rfl, false, ⟨fun h => (nomatch h), fun ⟨_, h2⟩ => ?_⟩, hS⟩⟩
       exact absurd he (h2 k hk (by omega) (by rw [hX]; exact hcf) e (List.mem_of_getElem? hj) |> fun h => by rw [hX] at h; exact h)
   ·clear hS
    intro σ w2 hI hS
    refine ⟨_, 6, _, _, hS, rfl, (fun h => nomatch h), fun w2 hS => ?_⟩
    refine g_b (g_jd ⟨rfl, trivial⟩ ⟨dB2, rfl, ?_⟩)
    have e : chk d = σ := by
     cases hck : chk d
     ·cases σ
      ·rfl
      ·obtain ⟨h1, h2⟩ := hI.1 rfl
       obtain ⟨hp, hm⟩ := hf1 h1
       rw [chk_good hp (fun j hj hc i hi hci e => by
        obtain ⟨x, hx, hxk⟩ := (hm.2 (ent d[j]).1).2 ⟨i, hi, by omega, hci, e⟩
        exact h2 j hj (by omega) hc x hx hxk) (by omega)] at hck
       cases hck
     ·refine (hI.2 ⟨?_, fun j hj _ hc x hx hxk => ?_⟩).symm
      ·cases f
       ·rw [hf0 rfl] at hck; cases hck
       ·rfl
      ·have hft : f = true := by
        cases f
        ·rw [hf0 rfl] at hck; cases hck
        ·rfl
       obtain ⟨i, hi, _, hci, e⟩ := ((hf1 hft).2.2 _).1 ⟨x, hx, hxk⟩
       exact chk_conf hck hj hc hi hci e
    rw [e]
    exact hS.sel [0, 3, 5] rfl rfl
  ·clear hS
   rintro T D1 w1 hT ⟨dB2, rfl, hS⟩
   refine g_wkc hT ?_
   refine gW ?_
   refine g_l1 rfl rfl (hS.b  0 rfl) rfl ?_
   refine gW ?_
   cases hck : chk d
   ·have e : eE d = 200 := by unfold eE; rw [if_neg (by rw [hck]; decide)]
    rw [e] at h
    refine gW ?_
    exact g_ret (q_dr hS 2 rfl fun w hS => q_dr hS 1 rfl fun w hS => q_1 rfl (h _ (hS.sel [] rfl rfl)))
   ·have e : eE d = 0 := by unfold eE; rw [if_pos hck]
    rw [e] at h
    refine gW ?_
    exact g_ret (q_dr hS 2 rfl fun w hS => q_dr hS 1 rfl fun w hS => q_1 rfl (h _ (hS.sel [] rfl rfl)))
end
end Go.Proofs.YtfffdhafbbbpcaaGreatDoor
