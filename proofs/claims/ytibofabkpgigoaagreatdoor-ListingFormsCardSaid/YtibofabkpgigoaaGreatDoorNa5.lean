/- Ids: their texts, and which stands ahead. -/
import Derived.Test.YtibofabkpgigoaaGreatDoorNa4
set_option linter.unusedSimpArgs false
set_option linter.unusedVariables false
namespace Go.Proofs.YtibofabkpgigoaaGreatDoor
open Go.En

def dig : Bs := [48, 49, 50, 51, 52, 53, 54, 55, 56, 57, 97, 98, 99, 100, 101, 102]
/-- a byte's digits -/
def hx (c : UInt8) : Bs := [dig.getD (c.toNat / 16) 0, dig.getD (c.toNat % 16) 0]
/-- an id's text -/
def hex (id : Bs) : Bs := (id.map hx).flatten
theorem hex_len : ∀ (id : Bs), (hex id).length = 2 * id.length
  | [] => rfl
  | c :: r => by
    have := hex_len r
    unfold hex at this ⊢
    simp only [List.map_cons, List.flatten_cons, List.length_append, List.length_cons, this]
    simp [hx]
    omega
theorem hex_app (a b : Bs) : hex (a ++ b) = hex a ++ hex b := by simp [hex]
/-- the number of a digit -/
def dgv (c : UInt8) : Nat := (Lib.indexByte dig c).toNat
def isD (c : UInt8) : Bool := decide (0 ≤ Lib.indexByte dig c)
def unh (s : Bs) : Bs := (List.range 32).map fun i => UInt8.ofNat (16 * dgv (s.getD (2 * i) 0) + dgv (s.getD (2 * i + 1) 0))
/-- a text's id -/
def unhex (s : Bs) : Option Bs := if s.length = 64 ∧ s.all isD = true then some (unh s) else none
theorem ib_lt : ∀ (l : Bs) (c : UInt8), Lib.indexByte l c < l.length
  | [], c => by unfold Lib.indexByte; simp
  | x :: r, c => by
    have := ib_lt r c
    unfold Lib.indexByte
    simp only [List.length_cons]
    repeat' split
    all_goals omega
theorem dgv_lt {c : UInt8} (h : isD c = true) : dgv c < 16 := by
  have hl := ib_lt dig c
  unfold isD at h
  unfold dgv
  simp only [decide_eq_true_eq] at h
  have : (dig.length : Int) = 16 := rfl
  omega
/-- an id, when so many digits were read -/
def idst (s : Bs) (k : Nat) : Bs := (List.range 32).map fun i => if 2 * i + 1 < k then UInt8.ofNat (16 * dgv (s.getD (2 * i) 0) + dgv (s.getD (2 * i + 1) 0)) else if 2 * i < k then UInt8.ofNat (dgv (s.getD (2 * i) 0)) else 0
theorem idst_0 (s : Bs) : idst s 0 = List.replicate 32 0 := by
  unfold idst
  refine List.ext_getElem? fun i => ?_
  simp only [List.getElem?_map, List.getElem?_replicate]
  by_cases h : i < 32
  · rw [List.getElem?_range h]; simp [h]
  · rw [List.getElem?_eq_none (by simp; omega)]; simp [h]
theorem idst_64 (s : Bs) : idst s 64 = unh s := by
  unfold idst unh
  refine List.map_congr_left fun i hi => ?_
  have := List.mem_range.1 hi
  rw [if_pos (by omega)]
theorem idst_len (s : Bs) (k : Nat) : (idst s k).length = 32 := by simp [idst]
theorem idst_get (s : Bs) {k i : Nat} (h : i < 32) : (idst s k)[i]? = some (if 2 * i + 1 < k then UInt8.ofNat (16 * dgv (s.getD (2 * i) 0) + dgv (s.getD (2 * i + 1) 0)) else if 2 * i < k then UInt8.ofNat (dgv (s.getD (2 * i) 0)) else 0) := by
  unfold idst
  rw [List.getElem?_map, List.getElem?_range h]
  rfl
theorem idst_step (s : Bs) {k : Nat} (hk : k < 64) : idst s (k + 1) = (idst s k).set (k / 2) (if k % 2 = 0 then UInt8.ofNat (dgv (s.getD k 0)) else UInt8.ofNat (16 * dgv (s.getD (k - 1) 0) + dgv (s.getD k 0))) := by
  refine List.ext_getElem? fun i => ?_
  by_cases h : i < 32
  · by_cases e : k / 2 = i
    · subst e
      rw [List.getElem?_set_self (by rw [idst_len]; omega), idst_get s h]
      congr 1
      by_cases hp : k % 2 = 0
      · rw [if_pos hp, if_neg (by omega), if_pos (by omega), show 2 * (k / 2) = k by omega]
      · rw [if_neg hp, if_pos (by omega), show 2 * (k / 2) = k - 1 by omega, show k - 1 + 1 = k by omega]
    · rw [List.getElem?_set_ne e, idst_get s h, idst_get s h]
      congr 1
      by_cases h1 : 2 * i + 1 < k
      · rw [if_pos h1, if_pos (by omega)]
      · rw [if_neg h1, if_neg (by omega)]
        by_cases h2 : 2 * i < k
        · rw [if_pos h2, if_pos (by omega)]
        · rw [if_neg h2, if_neg (by omega)]
  · rw [List.getElem?_eq_none (by rw [idst_len]; omega), List.getElem?_eq_none (by rw [List.length_set, idst_len]; omega)]
theorem and15 (c : UInt8) : btv .and .u8 (c.toNat : Int) 15 = ((c.toNat % 16 : Nat) : Int) := by
  have key : ∀ c : Fin 256, btv .and .u8 (c.val : Int) 15 = ((c.val % 16 : Nat) : Int) := by decide +kernel
  exact key ⟨c.toNat, c.toNat_lt⟩
theorem shr4 (c : UInt8) : shv .shr .u8 (c.toNat : Int) 4 = ((c.toNat / 16 : Nat) : Int) := by
  have key : ∀ c : Fin 256, shv .shr .u8 (c.val : Int) 4 = ((c.val / 16 : Nat) : Int) := by decide +kernel
  exact key ⟨c.toNat, c.toNat_lt⟩
theorem put4 {a b : Nat} (ha : a < 16) (hb : b < 16) : btv .or .u8 (shv .shl .u8 (a : Int) 4) (b : Int) = (((UInt8.ofNat (16 * a + b)).toNat : Nat) : Int) := by
  have key : ∀ a b : Fin 16, btv .or .u8 (shv .shl .u8 (a.val : Int) 4) (b.val : Int) = (((UInt8.ofNat (16 * a.val + b.val)).toNat : Nat) : Int) := by decide +kernel
  exact key ⟨a, ha⟩ ⟨b, hb⟩
section
variable {w w0 : World} {S0 : Nat → Prop} {L B : List Res} {K : Value → World → Prop} {s : Bs}
set_option maxRecDepth 100000 in
theorem b_Text {id : Bs} (hl : id.length = 32) (h : ∀ w', St w (fun _ => False) w' [] → K (sv (hex id)) w') : CK Tryz.prog 31 [.agg ⟨bys id⟩] w K := by
  have hS := St.nil w (fun _ => False)
  refine call_k Tryz.func31 k31 Tryz.ntmps31 (Nat.le_of_ble_eq_true rfl) ?_
  (repeat (first | refine g_sq ?_ | refine g_rg ?_ | refine g_r0 ?_ | refine g_ok rfl rfl ?_ | refine g_no rfl ?_ | refine g_no0 rfl ?_ | refine g_bk ?_ | refine g_b ?_ | refine g_sk ?_ | refine g_cT rfl ?_ | refine g_cF rfl ?_ | refine g_x rfl ?_ | refine g_lb ?_))
  refine g_ef rfl (ef_bx hS rfl fun b1 w1 hS => ?_)
  have hS : St w (fun _ => False) w1 [cel b1 (bys id) 35] := hS
  (repeat (first | refine g_sq ?_ | refine g_rg ?_ | refine g_r0 ?_ | refine g_ok rfl rfl ?_ | refine g_no rfl ?_ | refine g_no0 rfl ?_ | refine g_bk ?_ | refine g_b ?_ | refine g_sk ?_ | refine g_cT rfl ?_ | refine g_cF rfl ?_ | refine g_x rfl ?_ | refine g_lb ?_))
  refine g_lm rfl rfl (hS.b 0 rfl) (by show 0 + 32 ≤ (bys id).length; rw [bys_length]; omega) ?_
  rw [List.drop_zero, List.take_of_length_le (by rw [bys_length]; omega)]
  (repeat (first | refine g_sq ?_ | refine g_rg ?_ | refine g_r0 ?_ | refine g_ok rfl rfl ?_ | refine g_no rfl ?_ | refine g_no0 rfl ?_ | refine g_bk ?_ | refine g_b ?_ | refine g_sk ?_ | refine g_cT rfl ?_ | refine g_cF rfl ?_ | refine g_x rfl ?_ | refine g_lb ?_))
  refine g_lp (ι := Nat × Value) (fun x => [(3, x.2), (6, .agg ⟨bys id⟩), (7, .int .i64 x.1)]) (fun x w' => x.1 ≤ 32 ∧ St w (fun _ => False) w' [row x.2 5 1 (2 * x.1) (bys (hex (id.take x.1)))]) (fun x => 32 - x.1) (0, .slice none 0 0)
    ⟨rfl, rfl, rfl, trivial⟩ ⟨Nat.zero_le _, (hS.nilrow 5 1).sel [1] rfl rfl⟩ ?_
  clear hS
  rintro ⟨k, v⟩ w1 ⟨hk, hS⟩
  simp only at hk hS
  (repeat (first | refine g_sq ?_ | refine g_rg ?_ | refine g_r0 ?_ | refine g_ok rfl rfl ?_ | refine g_no rfl ?_ | refine g_no0 rfl ?_ | refine g_bk ?_ | refine g_b ?_ | refine g_sk ?_ | refine g_cT rfl ?_ | refine g_cF rfl ?_ | refine g_x rfl ?_ | refine g_lb ?_))
  (refine g_cd rfl (fun hc => ?_) (fun hc => ?_) <;> simp only [cmv, arv, Bool.not_eq_true', Bool.not_eq_false', decide_eq_true_eq, decide_eq_false_iff_not] at hc)
  · have hlt : k < id.length := by omega
    have hg : (bys id).getD k undef = .int .u8 (id[k].toNat : Int) := by simp [bys, hlt]
    have hst : hex (id.take (k + 1)) = hex (id.take k) ++ hx id[k] := by
      rw [List.take_succ_eq_append_getElem hlt, hex_app]
      simp [hex]
    obtain ⟨a, c, rfl⟩ := hS.rlen 0 rfl
    (repeat (first | refine g_sq ?_ | refine g_rg ?_ | refine g_r0 ?_ | refine g_ok rfl rfl ?_ | refine g_no rfl ?_ | refine g_no0 rfl ?_ | refine g_bk ?_ | refine g_b ?_ | refine g_sk ?_ | refine g_cT rfl ?_ | refine g_cF rfl ?_ | refine g_x rfl ?_ | refine g_lb ?_))
    refine g_rq rfl rfl ⟨by omega, by omega, by rw [bys_length]; omega⟩ ?_
    rw [Int.toNat_natCast, Nat.mul_one, hg]
    (repeat (first | refine g_sq ?_ | refine g_rg ?_ | refine g_r0 ?_ | refine g_ok rfl rfl ?_ | refine g_no rfl ?_ | refine g_no0 rfl ?_ | refine g_bk ?_ | refine g_b ?_ | refine g_sk ?_ | refine g_cT rfl ?_ | refine g_cF rfl ?_ | refine g_x rfl ?_ | refine g_lb ?_))
    refine g_dr mixed ?_
    have hS := hS.drew
    (repeat (first | refine d_ok rfl rfl rfl ?_ | refine d_no rfl rfl ?_))
    refine d_rq rfl rfl rfl (by decide) ?_
    rw [shr4]
    refine d_rq rfl rfl rfl ⟨by omega, by have := id[k].toNat_lt; show ((id[k].toNat / 16 : Nat) : Int) < 16; omega⟩ ?_
    (repeat (first | refine d_ok rfl rfl rfl ?_ | refine d_no rfl rfl ?_))
    rw [and15]
    refine d_rq rfl rfl rfl ⟨by omega, by show ((id[k].toNat % 16 : Nat) : Int) < 16; omega⟩ ?_
    refine d_e rfl rfl ?_
    refine ef_bl (rs := bys (hx id[k])) hS rfl fun g w1 hS => ⟨rc_0, ?_⟩
    refine d_e rfl rfl ?_
    refine ef_ap (n := 2 * k) (m := 2) (ys := bys (hx id[k])) hS 0 rfl rfl rfl (.inl ⟨5, .inr ⟨g, 0, 2, _, rfl, Nat.le_refl _, Nat.le_refl _, rfl, (hS.b 1 rfl).r⟩⟩) rfl (by omega) (by omega) fun v1 w1 hS => ⟨rc_0, ?_⟩
    refine d_e rfl rfl ?_
    refine ef_qt ((pev_ok rfl).2 _) ⟨rc_0, ?_⟩
    refine d_fin ?_
    rw [← bys_append, ← hst] at hS
    (repeat (first | refine g_sq ?_ | refine g_rg ?_ | refine g_r0 ?_ | refine g_ok rfl rfl ?_ | refine g_no rfl ?_ | refine g_no0 rfl ?_ | refine g_bk ?_ | refine g_b ?_ | refine g_sk ?_ | refine g_cT rfl ?_ | refine g_cF rfl ?_ | refine g_x rfl ?_ | refine g_lb ?_))
    refine g_rq rfl rfl (in64 (by simp only [arv]; omega)) ?_
    (repeat (first | refine g_sq ?_ | refine g_rg ?_ | refine g_r0 ?_ | refine g_ok rfl rfl ?_ | refine g_no rfl ?_ | refine g_no0 rfl ?_ | refine g_bk ?_ | refine g_b ?_ | refine g_sk ?_ | refine g_cT rfl ?_ | refine g_cF rfl ?_ | refine g_x rfl ?_ | refine g_lb ?_))
    exact g_l (k + 1, v1) ⟨rfl, rfl, rfl, trivial⟩ ⟨by simp only; omega, hS.sel [0] rfl rfl⟩ (by simp only; omega)
  · have e : id.take k = id := List.take_of_length_le (by omega)
    rw [e] at hS
    (repeat (first | refine g_sq ?_ | refine g_rg ?_ | refine g_r0 ?_ | refine g_ok rfl rfl ?_ | refine g_no rfl ?_ | refine g_no0 rfl ?_ | refine g_bk ?_ | refine g_b ?_ | refine g_sk ?_ | refine g_cT rfl ?_ | refine g_cF rfl ?_ | refine g_x rfl ?_ | refine g_lb ?_))
    refine g_qt rfl (qt_bsR rfl (Ow.rd (hS.ok 0 _ rfl))) ?_
    (repeat (first | refine g_sq ?_ | refine g_rg ?_ | refine g_r0 ?_ | refine g_ok rfl rfl ?_ | refine g_no rfl ?_ | refine g_no0 rfl ?_ | refine g_bk ?_ | refine g_b ?_ | refine g_sk ?_ | refine g_cT rfl ?_ | refine g_cF rfl ?_ | refine g_x rfl ?_ | refine g_lb ?_))
    exact g_ret (q_1 rfl (h _ (hS.sel [] rfl rfl)))
theorem b_bcmp {v u : Value} {E E' n m : Nat} {a b : Bs} (ha : Rd v E 1 n (bys a) w) (hb : Rd u E' 1 m (bys b) w) (h : K (.int .i64 (Lib.compareBytes a b)) w) : CK Tryz.prog 72 [v, u] w K := by
  refine call_k Tryz.func72 k72 Tryz.ntmps72 (Nat.le_of_ble_eq_true rfl) ?_
  (repeat (first | refine g_sq ?_ | refine g_rg ?_ | refine g_r0 ?_ | refine g_ok rfl rfl ?_ | refine g_no rfl ?_ | refine g_no0 rfl ?_ | refine g_bk ?_ | refine g_b ?_ | refine g_sk ?_ | refine g_cT rfl ?_ | refine g_cF rfl ?_ | refine g_x rfl ?_ | refine g_lb ?_))
  refine g_ef rfl (ef_xl (vs := [v, u]) (e := Extern.BytealgCompare.compare) Tryz.func114 (by kernel_rfl) (by kernel_rfl) rfl (run_cmpX ha hb) ?_)
  (repeat (first | refine g_sq ?_ | refine g_rg ?_ | refine g_r0 ?_ | refine g_ok rfl rfl ?_ | refine g_no rfl ?_ | refine g_no0 rfl ?_ | refine g_bk ?_ | refine g_b ?_ | refine g_sk ?_ | refine g_cT rfl ?_ | refine g_cF rfl ?_ | refine g_x rfl ?_ | refine g_lb ?_))
  exact g_ret (q_1 rfl h)
theorem b_Compare {a b : Bs} (ha : a.length = 32) (hb : b.length = 32) (h : ∀ w', St w (fun _ => False) w' [] → K (.int .i64 (Lib.compareBytes a b)) w') : CK Tryz.prog 48 [.agg ⟨bys a⟩, .agg ⟨bys b⟩] w K := by
  have hS := St.nil w (fun _ => False)
  refine call_k Tryz.func48 k48 Tryz.ntmps48 (Nat.le_of_ble_eq_true rfl) ?_
  (repeat (first | refine g_sq ?_ | refine g_rg ?_ | refine g_r0 ?_ | refine g_ok rfl rfl ?_ | refine g_no rfl ?_ | refine g_no0 rfl ?_ | refine g_bk ?_ | refine g_b ?_ | refine g_sk ?_ | refine g_cT rfl ?_ | refine g_cF rfl ?_ | refine g_x rfl ?_ | refine g_lb ?_))
  refine g_ef rfl (ef_bx hS rfl fun b1 w1 hS => ?_)
  (repeat (first | refine g_sq ?_ | refine g_rg ?_ | refine g_r0 ?_ | refine g_ok rfl rfl ?_ | refine g_no rfl ?_ | refine g_no0 rfl ?_ | refine g_bk ?_ | refine g_b ?_ | refine g_sk ?_ | refine g_cT rfl ?_ | refine g_cF rfl ?_ | refine g_x rfl ?_ | refine g_lb ?_))
  refine g_ef rfl (ef_bx hS rfl fun b2 w1 hS => ?_)
  have hS : St w (fun _ => False) w1 [cel b1 (bys a) 35, cel b2 (bys b) 35] := hS
  (repeat (first | refine g_sq ?_ | refine g_rg ?_ | refine g_r0 ?_ | refine g_ok rfl rfl ?_ | refine g_no rfl ?_ | refine g_no0 rfl ?_ | refine g_bk ?_ | refine g_b ?_ | refine g_sk ?_ | refine g_cT rfl ?_ | refine g_cF rfl ?_ | refine g_x rfl ?_ | refine g_lb ?_))
  refine g_lm rfl rfl (hS.b 0 rfl) (by show 0 + 32 ≤ (bys a).length; rw [bys_length]; omega) ?_
  refine g_lm rfl rfl (hS.b 1 rfl) (by show 0 + 32 ≤ (bys b).length; rw [bys_length]; omega) ?_
  rw [List.drop_zero, List.drop_zero, List.take_of_length_le (by rw [bys_length]; omega), List.take_of_length_le (by rw [bys_length]; omega)]
  refine g_aq a b rfl rfl rfl ha hb ?_
  refine g_r0 ?_
  refine g_cd rfl (fun hc => ?_) (fun hc => ?_)
  · have e : a = b := by simpa [aqv] using hc
    have e0 : ∀ l : Bs, Lib.compareBytes l l = 0 := fun l => by
      induction l with
      | nil => rfl
      | cons x l ih => unfold Lib.compareBytes; rw [if_neg (UInt8.lt_irrefl x), if_neg (UInt8.lt_irrefl x)]; exact ih
    rw [e, e0] at h
    (repeat (first | refine g_sq ?_ | refine g_rg ?_ | refine g_r0 ?_ | refine g_ok rfl rfl ?_ | refine g_no rfl ?_ | refine g_no0 rfl ?_ | refine g_bk ?_ | refine g_b ?_ | refine g_sk ?_ | refine g_cT rfl ?_ | refine g_cF rfl ?_ | refine g_x rfl ?_ | refine g_lb ?_))
    exact g_ret (q_1 rfl (h _ (hS.sel [] rfl rfl)))
  · (repeat (first | refine g_sq ?_ | refine g_rg ?_ | refine g_r0 ?_ | refine g_ok rfl rfl ?_ | refine g_no rfl ?_ | refine g_no0 rfl ?_ | refine g_bk ?_ | refine g_b ?_ | refine g_sk ?_ | refine g_cT rfl ?_ | refine g_cF rfl ?_ | refine g_x rfl ?_ | refine g_lb ?_))
    refine g_dr mixed ?_
    have hS := hS.drew
    refine d_rq rfl rfl rfl ⟨by decide, by decide, by decide⟩ ?_
    refine d_rq rfl rfl rfl ⟨by decide, by decide, by decide⟩ ?_
    refine d_cl rfl rfl rfl (b_bcmp (n := 32) (m := 32) (E := 35) (E' := 35) (.inr ⟨b1, 0, 32, _, rfl, Nat.le_refl _, by rw [bys_length]; omega, by rw [List.drop_zero, List.take_of_length_le (by rw [bys_length]; omega)], (hS.b 0 rfl).r⟩) (.inr ⟨b2, 0, 32, _, rfl, Nat.le_refl _, by rw [bys_length]; omega, by rw [List.drop_zero, List.take_of_length_le (by rw [bys_length]; omega)], (hS.b 1 rfl).r⟩) ⟨rc_0, ?_⟩)
    (repeat (first | refine d_ok rfl rfl rfl ?_ | refine d_no rfl rfl ?_))
    refine d_fin ?_
    exact g_ret (q_1 rfl (h _ (hS.sel [] rfl rfl)))
end
end Go.Proofs.YtibofabkpgigoaaGreatDoor
