/- What ids' texts and conflict names are made of. -/
import Derived.Test.YtibofabkpgigoaaGreatDoorNa5
set_option linter.unusedSimpArgs false
set_option linter.unusedVariables false
namespace Go.Proofs.YtibofabkpgigoaaGreatDoor
open Go.En

theorem bytesOf_bys (l : Bs) : Lib.bytesOf (l.map fun c => (c.toNat : Int)) = l := by
  unfold Lib.bytesOf
  rw [List.map_map]
  conv => rhs; rw [← List.map_id l]
  refine List.map_congr_left fun c _ => ?_
  simp
theorem brk_le {s : Bs} (h : brk s = 0) : s.length ≤ 255 := by
  have := brkF_0 s 8 0 h 0 (by omega) (by omega)
  simp only [rul, Bool.or_eq_false_iff, decide_eq_false_iff_not] at this
  omega
theorem spl_full (l m : List Value) (h : m.length = l.length) : spl l 0 m = m := by
  simp [spl, h]
theorem wr16 {n : Nat} (h : n < 16) : IntKind.u8.wrap (n : Int) = (n : Int) := by
  have key : ∀ a : Fin 16, IntKind.u8.wrap (a.val : Int) = (a.val : Int) := by decide
  exact key ⟨n, h⟩
section
variable {w w0 : World} {S0 : Nat → Prop} {L B : List Res} {K : Value → World → Prop} {s : Bs}
theorem c_IndexByte {b E n c : Nat} {l : Bs} {x : UInt8} (hb : Blk w b (bys l) E) (hn : l.length = n) (h : K (.int .i64 (Lib.indexByte l x)) w) : CK Tryz.prog 66 [.slice (some ⟨b, 0, none⟩) n c, .int .u8 (x.toNat : Int)] w K := by
  have hc := Tryz.bytes_IndexByte b 0 n c (l.map fun c => (c.toNat : Int)) (x.toNat : Int) w (by simp [hn]) (fun i hi => by
    rw [Nat.zero_add]
    refine (hb.r.cell i).trans ?_
    simp [bys, show i < l.length by omega])
  rw [bytesOf_bys, Int.toNat_natCast, show x.toNat.toUInt8 = x by simp] at hc
  exact ck_of hc h
theorem b_Conflict {id : Bs} (hl : id.length = 32) (hg : Gl w) (h : ∀ w', St w (fun _ => False) w' [] → K (.tuple ⟨[sv (if brk s = 0 then s ++ 126 :: hex id else []), .int .i64 (nmE s)]⟩) w') : CK Tryz.prog 43 [sv s, .agg ⟨bys id⟩] w K := by
  have hS := St.nil w (fun _ => False)
  refine call_k Tryz.func43 k43 Tryz.ntmps43 (Nat.le_of_ble_eq_true rfl) ?_
  (repeat (first | refine g_sq ?_ | refine g_rg ?_ | refine g_r0 ?_ | refine g_ok rfl rfl ?_ | refine g_no rfl ?_ | refine g_no0 rfl ?_ | refine g_bk ?_ | refine g_b ?_ | refine g_sk ?_ | refine g_cT rfl ?_ | refine g_cF rfl ?_ | refine g_x rfl ?_ | refine g_lb ?_))
  refine g_ef rfl (ef_bx hS rfl fun b1 w1 hS => ?_)
  have hS : St w (fun _ => False) w1 [cel b1 (bys id) 35] := hS
  (repeat (first | refine g_sq ?_ | refine g_rg ?_ | refine g_r0 ?_ | refine g_ok rfl rfl ?_ | refine g_no rfl ?_ | refine g_no0 rfl ?_ | refine g_bk ?_ | refine g_b ?_ | refine g_sk ?_ | refine g_cT rfl ?_ | refine g_cF rfl ?_ | refine g_x rfl ?_ | refine g_lb ?_))
  refine g_cl rfl rfl (c_Check (hg.in hS) hS fun w' hS => ?_)
  (repeat (first | refine g_sq ?_ | refine g_rg ?_ | refine g_r0 ?_ | refine g_ok rfl rfl ?_ | refine g_no rfl ?_ | refine g_no0 rfl ?_ | refine g_bk ?_ | refine g_b ?_ | refine g_sk ?_ | refine g_cT rfl ?_ | refine g_cF rfl ?_ | refine g_x rfl ?_ | refine g_lb ?_))
  (refine g_cd rfl (fun hc => ?_) (fun hc => ?_) <;> simp only [cmv, arv, Bool.not_eq_true', Bool.not_eq_false', decide_eq_true_eq, decide_eq_false_iff_not] at hc)
  · (repeat (first | refine g_sq ?_ | refine g_rg ?_ | refine g_r0 ?_ | refine g_ok rfl rfl ?_ | refine g_no rfl ?_ | refine g_no0 rfl ?_ | refine g_bk ?_ | refine g_b ?_ | refine g_sk ?_ | refine g_cT rfl ?_ | refine g_cF rfl ?_ | refine g_x rfl ?_ | refine g_lb ?_))
    have e : ¬ brk s = 0 := fun e => hc (by unfold nmE; rw [if_pos e])
    rw [if_neg e] at h
    exact g_ret (q_2 rfl rfl (h _ (hS.sel [] rfl rfl)))
  · have e : brk s = 0 := by
      by_cases e : brk s = 0
      · exact e
      · unfold nmE at hc; rw [if_neg e] at hc; omega
    have hle := brk_le e
    rw [if_pos e] at h
    (repeat (first | refine g_sq ?_ | refine g_rg ?_ | refine g_r0 ?_ | refine g_ok rfl rfl ?_ | refine g_no rfl ?_ | refine g_no0 rfl ?_ | refine g_bk ?_ | refine g_b ?_ | refine g_sk ?_ | refine g_cT rfl ?_ | refine g_cF rfl ?_ | refine g_x rfl ?_ | refine g_lb ?_))
    refine g_rq rfl rfl (by rw [Lib.size_eq, Lib.size_eq]; simp; omega) ?_
    refine g_lm rfl rfl (hS.b 0 rfl) (by show 0 + 32 ≤ (bys id).length; rw [bys_length]; omega) ?_
    rw [List.drop_zero, List.take_of_length_le (by rw [bys_length]; omega)]
    refine g_cl rfl rfl (b_Text hl fun w' h' => ?_)
    have hS := by have := hS.call0.2 _ _ h'; rwa [List.append_nil] at this
    refine g_rq rfl rfl (by simp [Lib.size_eq, hex_len]; omega) ?_
    (repeat (first | refine g_sq ?_ | refine g_rg ?_ | refine g_r0 ?_ | refine g_ok rfl rfl ?_ | refine g_no rfl ?_ | refine g_no0 rfl ?_ | refine g_bk ?_ | refine g_b ?_ | refine g_sk ?_ | refine g_cT rfl ?_ | refine g_cF rfl ?_ | refine g_x rfl ?_ | refine g_lb ?_))
    have e0 : nmE s = 0 := by unfold nmE; rw [if_pos e]
    rw [e0] at h
    refine g_ret (q_2 rfl rfl ?_)
    have e1 : sv (s ++ 126 :: hex id) = .string ((⟨s.toArray⟩ : ByteArray) ++ ⟨#[126]⟩ ++ ⟨(hex id).toArray⟩) := by
      rw [← sv_of]; congr 1; simp
    have := h _ (hS.sel [] rfl rfl)
    rw [e1] at this
    exact this
/-- what is read of a text: its id, or none -/
def unhV (s : Bs) : Bs := (unhex s).getD (List.replicate 32 0)
def unhE (s : Bs) : Int := if (unhex s).isSome then 0 else 30
set_option maxRecDepth 100000 in
theorem b_Parse (h : ∀ w', St w (fun _ => False) w' [] → K (.tuple ⟨[.agg ⟨bys (unhV s)⟩, .int .i64 (unhE s)]⟩) w') : CK Tryz.prog 38 [sv s] w K := by
  have hS := St.nil w (fun _ => False)
  refine call_k Tryz.func38 k38 Tryz.ntmps38 (Nat.le_of_ble_eq_true rfl) ?_
  (repeat (first | refine g_sq ?_ | refine g_rg ?_ | refine g_r0 ?_ | refine g_ok rfl rfl ?_ | refine g_no rfl ?_ | refine g_no0 rfl ?_ | refine g_bk ?_ | refine g_b ?_ | refine g_sk ?_ | refine g_cT rfl ?_ | refine g_cF rfl ?_ | refine g_x rfl ?_ | refine g_lb ?_))
  refine g_ef rfl (ef_al hS fun b1 w1 hS => ?_)
  (repeat (first | refine g_sq ?_ | refine g_rg ?_ | refine g_r0 ?_ | refine g_ok rfl rfl ?_ | refine g_no rfl ?_ | refine g_no0 rfl ?_ | refine g_bk ?_ | refine g_b ?_ | refine g_sk ?_ | refine g_cT rfl ?_ | refine g_cF rfl ?_ | refine g_x rfl ?_ | refine g_lb ?_))
  refine g_ef rfl (ef_al hS fun b2 w1 hS => ?_)
  have hS : St w (fun _ => False) w1 [cel b1 (bys (List.replicate 32 0)) 35, cel b2 (bys (List.replicate 32 0)) 35] := hS
  (repeat (first | refine g_sq ?_ | refine g_rg ?_ | refine g_r0 ?_ | refine g_ok rfl rfl ?_ | refine g_no rfl ?_ | refine g_no0 rfl ?_ | refine g_bk ?_ | refine g_b ?_ | refine g_sk ?_ | refine g_cT rfl ?_ | refine g_cF rfl ?_ | refine g_x rfl ?_ | refine g_lb ?_))
  (refine g_cd rfl (fun hc => ?_) (fun hc => ?_) <;> simp only [cmv, arv, Bool.not_eq_true', Bool.not_eq_false', decide_eq_true_eq, decide_eq_false_iff_not] at hc)
  · (repeat (first | refine g_sq ?_ | refine g_rg ?_ | refine g_r0 ?_ | refine g_ok rfl rfl ?_ | refine g_no rfl ?_ | refine g_no0 rfl ?_ | refine g_bk ?_ | refine g_b ?_ | refine g_sk ?_ | refine g_cT rfl ?_ | refine g_cF rfl ?_ | refine g_x rfl ?_ | refine g_lb ?_))
    have l0 : (bys (List.replicate 32 0)).length = 32 := by rw [bys_length, List.length_replicate]
    refine g_lm rfl rfl (hS.b 1 rfl) (Nat.le_of_eq (l0.symm)) ?_
    rw [List.drop_zero, List.take_of_length_le (Nat.le_of_eq l0)]
    refine g_ef0 rfl (ef_st hS 0 rfl rfl rfl l0 (Nat.le_of_eq l0.symm) (by decide) fun w1 hS => ?_)
    have hS := hS.ceq (l' := bys (List.replicate 32 0)) 0 rfl (spl_full _ _ rfl)
    (repeat (first | refine g_sq ?_ | refine g_rg ?_ | refine g_r0 ?_ | refine g_ok rfl rfl ?_ | refine g_no rfl ?_ | refine g_no0 rfl ?_ | refine g_bk ?_ | refine g_b ?_ | refine g_sk ?_ | refine g_cT rfl ?_ | refine g_cF rfl ?_ | refine g_x rfl ?_ | refine g_lb ?_))
    have e : unhex s = none := by
      unfold unhex
      rw [if_neg]
      rintro ⟨h1, -⟩
      rw [Lib.size_eq] at hc
      exact hc (by exact_mod_cast h1)
    unfold unhV unhE at h
    rw [e] at h
    refine g_ret (q_c2 (n := 32) rfl (by kernel_rfl) (hS.b 0 rfl) (Nat.le_of_eq l0.symm) rfl ?_)
    exact h _ (hS.sel [] rfl rfl)
  · have hl : s.length = 64 := by rw [Lib.size_eq] at hc; simp at hc; omega
    (repeat (first | refine g_sq ?_ | refine g_rg ?_ | refine g_r0 ?_ | refine g_ok rfl rfl ?_ | refine g_no rfl ?_ | refine g_no0 rfl ?_ | refine g_bk ?_ | refine g_b ?_ | refine g_sk ?_ | refine g_cT rfl ?_ | refine g_cF rfl ?_ | refine g_x rfl ?_ | refine g_lb ?_))
    refine g_lp (ι := Nat) (fun k => [(0, sv s), (2, dp b1), (3, .int .i64 0), (4, dp b2), (12, .int .i64 64), (13, .int .i64 k)])
      (fun k w' => k ≤ 64 ∧ (∀ j, j < k → isD (s.getD j 0) = true) ∧ St w (fun _ => False) w' [cel b1 (bys (List.replicate 32 0)) 35, cel b2 (bys (idst s k)) 35]) (fun k => 64 - k) 0
      ⟨rfl, rfl, rfl, rfl, by show some (Value.int .i64 ((⟨s.toArray⟩ : ByteArray).size : Int)) = _; rw [Lib.size_eq]; simp [hl], rfl, trivial⟩ ⟨Nat.zero_le _, fun j h => absurd h (Nat.not_lt_zero j), by rw [idst_0]; exact hS⟩ ?_
    clear hS
    rintro k w1 ⟨hk, hd, hS⟩
    (repeat (first | refine g_sq ?_ | refine g_rg ?_ | refine g_r0 ?_ | refine g_ok rfl rfl ?_ | refine g_no rfl ?_ | refine g_no0 rfl ?_ | refine g_bk ?_ | refine g_b ?_ | refine g_sk ?_ | refine g_cT rfl ?_ | refine g_cF rfl ?_ | refine g_x rfl ?_ | refine g_lb ?_))
    (refine g_cd rfl (fun hlt => ?_) (fun hlt => ?_) <;> simp only [cmv, arv, Bool.not_eq_true', Bool.not_eq_false', decide_eq_true_eq, decide_eq_false_iff_not] at hlt)
    · have hlt : k < 64 := by omega
      have hgd : (⟨s.toArray⟩ : ByteArray).data.toList.getD k 0 = s.getD k 0 := rfl
      (repeat (first | refine g_sq ?_ | refine g_rg ?_ | refine g_r0 ?_ | refine g_ok rfl rfl ?_ | refine g_no rfl ?_ | refine g_no0 rfl ?_ | refine g_bk ?_ | refine g_b ?_ | refine g_sk ?_ | refine g_cT rfl ?_ | refine g_cF rfl ?_ | refine g_x rfl ?_ | refine g_lb ?_))
      refine g_ef rfl (ef_bl (rs := bys dig) hS rfl fun g w1 hS => ?_)
      refine g_ef rfl (ef_mb hS 2 rfl rfl fun w1 hS => ?_)
      (repeat (first | refine g_sq ?_ | refine g_rg ?_ | refine g_r0 ?_ | refine g_ok rfl rfl ?_ | refine g_no rfl ?_ | refine g_no0 rfl ?_ | refine g_bk ?_ | refine g_b ?_ | refine g_sk ?_ | refine g_cT rfl ?_ | refine g_cF rfl ?_ | refine g_x rfl ?_ | refine g_lb ?_))
      refine g_rq rfl rfl ⟨by omega, by show (k : Int) < (s.length : Int); omega⟩ ?_
      rw [Int.toNat_natCast, hgd]
      refine g_cl rfl rfl (c_IndexByte (hS.b 2 rfl) rfl ?_)
      (repeat (first | refine g_sq ?_ | refine g_rg ?_ | refine g_r0 ?_ | refine g_ok rfl rfl ?_ | refine g_no rfl ?_ | refine g_no0 rfl ?_ | refine g_bk ?_ | refine g_b ?_ | refine g_sk ?_ | refine g_cT rfl ?_ | refine g_cF rfl ?_ | refine g_x rfl ?_ | refine g_lb ?_))
      have hge := Lib.indexByte_ge dig (s.getD k 0)
      have hlb := ib_lt dig (s.getD k 0)
      (refine g_cd rfl (fun hn => ?_) (fun hn => ?_) <;> simp only [cmv, arv, Bool.not_eq_true', Bool.not_eq_false', decide_eq_true_eq, decide_eq_false_iff_not] at hn)
      · have e : unhex s = none := by
          unfold unhex
          rw [if_neg]
          rintro ⟨-, h2⟩
          have := List.all_eq_true.1 h2 (s.getD k 0) (by rw [List.getD_eq_getElem?_getD, List.getElem?_eq_getElem (by omega)]; exact List.getElem_mem _)
          unfold isD at this
          rw [decide_eq_true_eq] at this
          omega
        unfold unhV unhE at h
        rw [e] at h
        have l0 : (bys (List.replicate 32 0)).length = 32 := by rw [bys_length, List.length_replicate]
        (repeat (first | refine g_sq ?_ | refine g_rg ?_ | refine g_r0 ?_ | refine g_ok rfl rfl ?_ | refine g_no rfl ?_ | refine g_no0 rfl ?_ | refine g_bk ?_ | refine g_b ?_ | refine g_sk ?_ | refine g_cT rfl ?_ | refine g_cF rfl ?_ | refine g_x rfl ?_ | refine g_lb ?_))
        refine g_ef0 rfl (ef_st (u := .agg ⟨bys (List.replicate 32 0)⟩) hS 0 rfl rfl rfl l0 (Nat.le_of_eq l0.symm) (by decide) fun w1 hS => ?_)
        have hS := hS.ceq (l' := bys (List.replicate 32 0)) 0 rfl (spl_full _ _ rfl)
        (repeat (first | refine g_sq ?_ | refine g_rg ?_ | refine g_r0 ?_ | refine g_ok rfl rfl ?_ | refine g_no rfl ?_ | refine g_no0 rfl ?_ | refine g_bk ?_ | refine g_b ?_ | refine g_sk ?_ | refine g_cT rfl ?_ | refine g_cF rfl ?_ | refine g_x rfl ?_ | refine g_lb ?_))
        refine g_ret (q_c2 (n := 32) rfl (by kernel_rfl) (hS.b 0 rfl) (Nat.le_of_eq l0.symm) rfl ?_)
        exact h _ (hS.sel [] rfl rfl)
      · have hD : isD (s.getD k 0) = true := by unfold isD; exact decide_eq_true (by omega)
        have hdv : Lib.indexByte dig (s.getD k 0) = ((dgv (s.getD k 0) : Nat) : Int) := by unfold dgv; omega
        have hdl := dgv_lt hD
        have hq : IntKind.i64.wrap ((k : Int).tdiv 2) = ((k / 2 : Nat) : Int) := by
          rw [Int.tdiv_eq_ediv_of_nonneg (by omega), wrap_in (in64 (by omega))]; omega
        (repeat (first | refine g_sq ?_ | refine g_rg ?_ | refine g_r0 ?_ | refine g_ok rfl rfl ?_ | refine g_no rfl ?_ | refine g_no0 rfl ?_ | refine g_bk ?_ | refine g_b ?_ | refine g_sk ?_ | refine g_cT rfl ?_ | refine g_cF rfl ?_ | refine g_x rfl ?_ | refine g_lb ?_))
        refine g_rq rfl rfl (by decide) ?_
        rw [hq]
        (repeat (first | refine g_sq ?_ | refine g_rg ?_ | refine g_r0 ?_ | refine g_ok rfl rfl ?_ | refine g_no rfl ?_ | refine g_no0 rfl ?_ | refine g_bk ?_ | refine g_b ?_ | refine g_sk ?_ | refine g_cT rfl ?_ | refine g_cF rfl ?_ | refine g_x rfl ?_ | refine g_lb ?_))
        refine g_rq rfl rfl (by decide) ?_
        rw [hq]
        refine g_rq rfl rfl ⟨by omega, by omega⟩ ?_
        rw [Int.toNat_natCast]
        have hg2 : (bys (idst s k))[0 + k / 2 * 1]? = some (.int .u8 (((idst s k).getD (k / 2) 0).toNat : Int)) := by
          rw [Nat.zero_add, Nat.mul_one]
          simp [bys, List.getElem?_map, idst_get s (show k / 2 < 32 by omega)]
        refine g_l1 rfl rfl (hS.b 1 rfl) hg2 ?_
        refine g_rq rfl rfl (by decide) ?_
        have hst := idst_step s hlt
        have hv : btv .or .u8 (shv .shl .u8 (((idst s k).getD (k / 2) 0).toNat : Int) 4) (IntKind.u8.wrap (Lib.indexByte dig (s.getD k 0))) = ((if k % 2 = 0 then UInt8.ofNat (dgv (s.getD k 0)) else UInt8.ofNat (16 * dgv (s.getD (k - 1) 0) + dgv (s.getD k 0))).toNat : Int) := by
          rw [hdv, wr16 hdl]
          rw [List.getD_eq_getElem?_getD, idst_get s (show k / 2 < 32 by omega), Option.getD_some]
          by_cases hp : k % 2 = 0
          · rw [if_neg (by omega), if_neg (by omega), if_pos hp]
            have := put4 (a := 0) (b := dgv (s.getD k 0)) (by decide) hdl
            rw [Nat.mul_zero, Nat.zero_add] at this
            exact this
          · have hD1 := dgv_lt (hd (k - 1) (by omega))
            rw [if_neg (by omega), if_pos (by omega), if_neg hp, show 2 * (k / 2) = k - 1 by omega]
            have e1 : ((UInt8.ofNat (dgv (s.getD (k - 1) 0))).toNat : Int) = ((dgv (s.getD (k - 1) 0) : Nat) : Int) := by
              rw [UInt8.toNat_ofNat', Nat.mod_eq_of_lt (by omega)]
            rw [e1]
            exact put4 hD1 hdl
        (repeat (first | refine g_sq ?_ | refine g_rg ?_ | refine g_r0 ?_ | refine g_ok rfl rfl ?_ | refine g_no rfl ?_ | refine g_no0 rfl ?_ | refine g_bk ?_ | refine g_b ?_ | refine g_sk ?_ | refine g_cT rfl ?_ | refine g_cF rfl ?_ | refine g_x rfl ?_ | refine g_lb ?_))
        rw [hv]
        refine g_rq rfl rfl ⟨by omega, by omega⟩ ?_
        rw [Int.toNat_natCast]
        refine g_ef0 rfl (ef_st hS 1 rfl rfl rfl rfl (by rw [bys_length, idst_len]; show 0 + k / 2 * 1 + 1 ≤ 32; omega) rfl fun w1 hS => ?_)
        have hS := hS.ceq (l' := bys (idst s (k + 1))) 1 rfl (by
          have := bys_set (idst s k) [] (k / 2) (if k % 2 = 0 then UInt8.ofNat (dgv (s.getD k 0)) else UInt8.ofNat (16 * dgv (s.getD (k - 1) 0) + dgv (s.getD k 0))) (by rw [idst_len]; omega)
          rw [List.append_nil, List.append_nil] at this
          rw [hst]
          exact this)
        (repeat (first | refine g_sq ?_ | refine g_rg ?_ | refine g_r0 ?_ | refine g_ok rfl rfl ?_ | refine g_no rfl ?_ | refine g_no0 rfl ?_ | refine g_bk ?_ | refine g_b ?_ | refine g_sk ?_ | refine g_cT rfl ?_ | refine g_cF rfl ?_ | refine g_x rfl ?_ | refine g_lb ?_))
        refine g_rq rfl rfl (in64 (by simp only [arv]; omega)) ?_
        (repeat (first | refine g_sq ?_ | refine g_rg ?_ | refine g_r0 ?_ | refine g_ok rfl rfl ?_ | refine g_no rfl ?_ | refine g_no0 rfl ?_ | refine g_bk ?_ | refine g_b ?_ | refine g_sk ?_ | refine g_cT rfl ?_ | refine g_cF rfl ?_ | refine g_x rfl ?_ | refine g_lb ?_))
        refine g_l (k + 1) ⟨rfl, rfl, rfl, rfl, rfl, rfl, trivial⟩ ⟨by omega, fun j hj => ?_, hS.sel [0, 1] rfl rfl⟩ (by omega)
        rcases Nat.lt_succ_iff_lt_or_eq.1 hj with hj | rfl
        · exact hd j hj
        · exact hD
    · have e : k = 64 := by omega
      subst e
      have e : unhex s = some (unh s) := by
        unfold unhex
        rw [if_pos]
        refine ⟨hl, List.all_eq_true.2 fun x hx => ?_⟩
        obtain ⟨j, hj, rfl⟩ := List.getElem_of_mem hx
        have := hd j (by omega)
        rwa [List.getD_eq_getElem?_getD, List.getElem?_eq_getElem hj] at this
      unfold unhV unhE at h
      rw [e] at h
      rw [idst_64] at hS
      have l0 : (bys (List.replicate 32 0)).length = 32 := by rw [bys_length, List.length_replicate]
      have l1 : (bys (unh s)).length = 32 := by rw [bys_length, ← idst_64, idst_len]
      (repeat (first | refine g_sq ?_ | refine g_rg ?_ | refine g_r0 ?_ | refine g_ok rfl rfl ?_ | refine g_no rfl ?_ | refine g_no0 rfl ?_ | refine g_bk ?_ | refine g_b ?_ | refine g_sk ?_ | refine g_cT rfl ?_ | refine g_cF rfl ?_ | refine g_x rfl ?_ | refine g_lb ?_))
      refine g_lm rfl rfl (hS.b 1 rfl) (Nat.le_of_eq (l1.symm)) ?_
      rw [List.drop_zero, List.take_of_length_le (Nat.le_of_eq l1)]
      refine g_ef0 rfl (ef_st hS 0 rfl rfl rfl l1 (Nat.le_of_eq l0.symm) (bys_one _) fun w1 hS => ?_)
      have hS := hS.ceq (l' := bys (unh s)) 0 rfl (spl_full _ _ (l1.trans l0.symm))
      (repeat (first | refine g_sq ?_ | refine g_rg ?_ | refine g_r0 ?_ | refine g_ok rfl rfl ?_ | refine g_no rfl ?_ | refine g_no0 rfl ?_ | refine g_bk ?_ | refine g_b ?_ | refine g_sk ?_ | refine g_cT rfl ?_ | refine g_cF rfl ?_ | refine g_x rfl ?_ | refine g_lb ?_))
      refine g_ret (q_c2 (n := 32) rfl (by kernel_rfl) (hS.b 0 rfl) (Nat.le_of_eq l1.symm) rfl ?_)
      rw [List.drop_zero, List.take_of_length_le (Nat.le_of_eq l1)]
      exact h _ (hS.sel [] rfl rfl)
end
end Go.Proofs.YtibofabkpgigoaaGreatDoor
