/- Lines of a text; plain. -/
import Derived.Test.YtibofabkpgigoaaGreatDoorNa7
import Derived.Lib.IndexLaws
import Derived.Test.YtibofabkpgigoaaGreatDoorNb1
import Derived.Test.YtibofabkpgigoaaGreatDoorChecked
import Derived.Test.YtibofabkpgigoaaGreatDoorEnP
import Derived.Shelf.Strings.Builder1
import Derived.WalkKit
import Derived.Test.YtibofabkpgigoaaGreatDoorNe0
set_option linter.unusedSimpArgs false
set_option linter.unusedVariables false
namespace Go.Proofs.YtibofabkpgigoaaGreatDoor
open Go.En

/-- a text's first line, and the rest -/
def hd1 (s : Bs) : Bs × Bs := if 0 ≤ Lib.indexByte s 10 then (s.take ((Lib.indexByte s 10).toNat + 1), s.drop ((Lib.indexByte s 10).toNat + 1)) else (s, [])
theorem ibx_lt {s : Bs} {c : UInt8} (h : 0 ≤ Lib.indexByte s c) : (Lib.indexByte s c).toNat < s.length := by
  have := ib_lt s c
  omega
theorem hd1_lt {s : Bs} (h : s ≠ []) : (hd1 s).2.length < s.length := by
  have : 0 < s.length := List.length_pos_iff.2 h
  unfold hd1
  split
  · show (s.drop _).length < _
    rw [List.length_drop]; omega
  · exact this
theorem hd1_le (s : Bs) : (hd1 s).1.length ≤ s.length := by
  unfold hd1
  split
  · show (s.take _).length ≤ _
    rw [List.length_take]; omega
  · exact Nat.le_refl _
def lnsF : Nat → Bs → List Bs
  | 0, _ => []
  | n + 1, s => if s = [] then [] else (hd1 s).1 :: lnsF n (hd1 s).2
/-- a text's lines -/
def lns (s : Bs) : List Bs := lnsF s.length s
theorem lnsF_ext : ∀ (n m : Nat) (s : Bs), s.length ≤ n → s.length ≤ m → lnsF n s = lnsF m s
  | 0, 0, _, _, _ => rfl
  | 0, m + 1, s, h, _ => by
    have : s = [] := List.eq_nil_of_length_eq_zero (by omega)
    subst this
    rfl
  | n + 1, 0, s, _, h => by
    have : s = [] := List.eq_nil_of_length_eq_zero (by omega)
    subst this
    rfl
  | n + 1, m + 1, s, h1, h2 => by
    unfold lnsF
    by_cases e : s = []
    · rw [if_pos e, if_pos e]
    · have := hd1_lt e
      rw [if_neg e, if_neg e, lnsF_ext n m _ (by omega) (by omega)]
theorem lns_nil : lns [] = [] := rfl
theorem lns_cons {s : Bs} (h : s ≠ []) : lns s = (hd1 s).1 :: lns (hd1 s).2 := by
  have hl := hd1_lt h
  have e : lns s = lnsF (s.length - 1 + 1) s := lnsF_ext _ _ _ (Nat.le_refl _) (by omega)
  rw [e]
  unfold lnsF
  rw [if_neg h]
  congr 1
  exact lnsF_ext _ _ _ (by omega) (Nat.le_refl _)
end Go.Proofs.YtibofabkpgigoaaGreatDoor
namespace Go.Proofs.YtibofabkpgigoaaGreatDoor
open Go.En

theorem sv_ext (s : Bs) (a b : Nat) : (.string ((⟨s.toArray⟩ : ByteArray).extract a b) : Value) = sv ((s.drop a).take (b - a)) := by
  rw [← sv_of]
  congr 1
  have := Lib.extract_toList (⟨s.toArray⟩ : ByteArray) a b
  simp only [ByteArray.data_extract] at this ⊢
  simp
section
variable {w w0 : World} {S0 : Nat → Prop} {L B : List Res} {K : Value → World → Prop} {s : Bs}
theorem c_sIndexByte {c : Int} (h : K (.int .i64 (Lib.indexByte s c.toNat.toUInt8)) w) : CK Tryz.prog 63 [sv s, .int .u8 c] w K := ck_of (Tryz.strings_IndexByte ⟨s.toArray⟩ c w) h
theorem b_Lines (h : ∀ b w', St w (fun _ => False) w' [cel b [sv s] 9] → K (.func (.func 62) ⟨[]⟩ ⟨[dp b]⟩) w') : CK Tryz.prog 35 [sv s] w K := by
  have hS := St.nil w (fun _ => False)
  refine call_k Tryz.func35 k35 Tryz.ntmps35 (Nat.le_of_ble_eq_true rfl) ?_
  (repeat (first | refine g_sq ?_ | refine g_rg ?_ | refine g_r0 ?_ | refine g_ok rfl rfl ?_ | refine g_no rfl ?_ | refine g_no0 rfl ?_ | refine g_bk ?_ | refine g_b ?_ | refine g_sk ?_ | refine g_cT rfl ?_ | refine g_cF rfl ?_ | refine g_x rfl ?_ | refine g_lb ?_))
  refine g_ef rfl (ef_bx hS rfl fun b1 w1 hS => ?_)
  (repeat (first | refine g_sq ?_ | refine g_rg ?_ | refine g_r0 ?_ | refine g_ok rfl rfl ?_ | refine g_no rfl ?_ | refine g_no0 rfl ?_ | refine g_bk ?_ | refine g_b ?_ | refine g_sk ?_ | refine g_cT rfl ?_ | refine g_cF rfl ?_ | refine g_x rfl ?_ | refine g_lb ?_))
  exact g_ret (q_1 rfl (h _ _ hS))
theorem d_Lines {ι : Type} {Ls : Bs → ι → List Res} {Inv : Bs → ι → Prop} {b l i : Nat} (hs : s.length < 4294967281)
    (hi : ∀ r σ, (Ls r σ)[i]? = some (cel b [sv r] 9)) (hset : ∀ r r' σ, (Ls r σ).set i (cel b [sv r'] 9) = Ls r' σ)
    {σ0 : ι} (h0 : Inv s σ0) (hS : St w0 S0 w (Ls s σ0))
    (hy : ∀ (r : Bs) (_ : r ≠ []) (σ : ι) (w : World), r.length < 4294967281 → Inv r σ → St w0 S0 w (Ls (hd1 r).2 σ) → Yd Tryz.prog l [sv (hd1 r).1] w fun v w' => (v = .bool true ∧ ∃ σ', Inv (hd1 r).2 σ' ∧ St w0 S0 w' (Ls (hd1 r).2 σ')) ∨ (v = .bool false ∧ K (.tuple ⟨[]⟩) w'))
    (he : ∀ σ w, Inv [] σ → St w0 S0 w (Ls [] σ) → K (.tuple ⟨[]⟩) w) : CK Tryz.prog 62 [.func (.yield l) ⟨[]⟩ ⟨[]⟩, dp b] w K := by
  refine call_k Tryz.func62 k62 Tryz.ntmps62 (Nat.le_of_ble_eq_true rfl) ?_
  (repeat (first | refine g_sq ?_ | refine g_rg ?_ | refine g_r0 ?_ | refine g_ok rfl rfl ?_ | refine g_no rfl ?_ | refine g_no0 rfl ?_ | refine g_bk ?_ | refine g_b ?_ | refine g_sk ?_ | refine g_cT rfl ?_ | refine g_cF rfl ?_ | refine g_x rfl ?_ | refine g_lb ?_))
  refine g_lp (ι := Bs × ι) (fun _ => [(0, .func (.yield l) ⟨[]⟩ ⟨[]⟩), (1, dp b)]) (fun x w => x.1.length < 4294967281 ∧ Inv x.1 x.2 ∧ St w0 S0 w (Ls x.1 x.2)) (fun x => x.1.length) (s, σ0) ⟨rfl, rfl, trivial⟩ ⟨hs, h0, hS⟩ ?_
  clear hS h0
  rintro ⟨r, σ⟩ w ⟨hr, hI, hS⟩
  dsimp only at hr hI hS ⊢
  (repeat (first | refine g_sq ?_ | refine g_rg ?_ | refine g_r0 ?_ | refine g_ok rfl rfl ?_ | refine g_no rfl ?_ | refine g_no0 rfl ?_ | refine g_bk ?_ | refine g_b ?_ | refine g_sk ?_ | refine g_cT rfl ?_ | refine g_cF rfl ?_ | refine g_x rfl ?_ | refine g_lb ?_))
  refine g_l1 rfl rfl (hS.b i (hi r σ)) rfl ?_
  (repeat (first | refine g_sq ?_ | refine g_rg ?_ | refine g_r0 ?_ | refine g_ok rfl rfl ?_ | refine g_no rfl ?_ | refine g_no0 rfl ?_ | refine g_bk ?_ | refine g_b ?_ | refine g_sk ?_ | refine g_cT rfl ?_ | refine g_cF rfl ?_ | refine g_x rfl ?_ | refine g_lb ?_))
  have esz : (⟨r.toArray⟩ : ByteArray).size = r.length := by rw [Lib.size_eq]
  rw [esz]
  (refine g_cd rfl (fun hc => ?_) (fun hc => ?_) <;> simp only [cmv, arv, Bool.not_eq_true', Bool.not_eq_false', decide_eq_true_eq, decide_eq_false_iff_not] at hc)
  · have hne : r ≠ [] := fun e => by subst e; simp at hc
    have hlt := hd1_lt hne
    (repeat (first | refine g_sq ?_ | refine g_rg ?_ | refine g_r0 ?_ | refine g_ok rfl rfl ?_ | refine g_no rfl ?_ | refine g_no0 rfl ?_ | refine g_bk ?_ | refine g_b ?_ | refine g_sk ?_ | refine g_cT rfl ?_ | refine g_cF rfl ?_ | refine g_x rfl ?_ | refine g_lb ?_))
    refine g_l1 rfl rfl (hS.b i (hi r σ)) rfl ?_
    refine g_cl rfl rfl (c_sIndexByte ?_)
    have e10 : ((10 : Int).toNat.toUInt8) = 10 := rfl
    rw [e10]
    (repeat (first | refine g_sq ?_ | refine g_rg ?_ | refine g_r0 ?_ | refine g_ok rfl rfl ?_ | refine g_no rfl ?_ | refine g_no0 rfl ?_ | refine g_bk ?_ | refine g_b ?_ | refine g_sk ?_ | refine g_cT rfl ?_ | refine g_cF rfl ?_ | refine g_x rfl ?_ | refine g_lb ?_))
    refine g_at 1 [(0, .func (.yield l) ⟨[]⟩ ⟨[]⟩), (1, dp b), (3, sv (hd1 r).1)] (fun w' => St w0 S0 w' (Ls (hd1 r).2 σ)) rfl ?_ ?_
    · (refine g_cd rfl (fun hj => ?_) (fun hj => ?_) <;> simp only [cmv, arv, Bool.not_eq_true', Bool.not_eq_false', decide_eq_true_eq, decide_eq_false_iff_not] at hj)
      · have hj : 0 ≤ Lib.indexByte r 10 := by omega
        have hjl := ibx_lt hj
        have e1 : hd1 r = (r.take ((Lib.indexByte r 10).toNat + 1), r.drop ((Lib.indexByte r 10).toNat + 1)) := by unfold hd1; rw [if_pos hj]
        generalize Lib.indexByte r 10 = j at *
        obtain ⟨m, rfl⟩ := Int.eq_ofNat_of_zero_le hj
        rw [Int.toNat_natCast] at hjl e1
        (repeat (first | refine g_sq ?_ | refine g_rg ?_ | refine g_r0 ?_ | refine g_ok rfl rfl ?_ | refine g_no rfl ?_ | refine g_no0 rfl ?_ | refine g_bk ?_ | refine g_b ?_ | refine g_sk ?_ | refine g_cT rfl ?_ | refine g_cF rfl ?_ | refine g_x rfl ?_ | refine g_lb ?_))
        refine g_dr mixed ?_
        replace hS := hS.drew
        refine d_l1 rfl rfl rfl (hS.b i (hi r σ)) rfl ?_
        (repeat (first | refine d_ok rfl rfl rfl ?_ | refine d_no rfl rfl ?_))
        refine d_rq rfl rfl rfl (in64 (by simp only [arv]; omega)) ?_
        refine d_rq rfl rfl rfl ⟨by omega, by simp only [arv]; omega, by simp only [arv, esz]; omega⟩ ?_
        refine d_l1 rfl rfl rfl (hS.b i (hi r σ)) rfl ?_
        (repeat (first | refine d_ok rfl rfl rfl ?_ | refine d_no rfl rfl ?_))
        refine d_rq rfl rfl rfl (in64 (by simp only [arv]; omega)) ?_
        refine d_rq rfl rfl rfl ⟨by simp only [arv]; omega, by simp only [arv, esz]; omega, by simp only [esz]; omega⟩ ?_
        (repeat (first | refine d_ok rfl rfl rfl ?_ | refine d_no rfl rfl ?_))
        refine d_e0 rfl rfl ?_
        refine ef_st hS i (hi r σ) rfl rfl rfl (Nat.le_of_ble_eq_true rfl) rfl fun w1 hS => ⟨rc_0, ?_⟩
        refine d_fin ?_
        have e2 : (arv BinOp.add (m : Int) 1).toNat = m + 1 := by simp only [arv]; omega
        have e3 : (.string ((⟨r.toArray⟩ : ByteArray).extract 0 (arv BinOp.add (m : Int) 1).toNat) : Value) = sv (hd1 r).1 := by
          rw [e2, sv_ext, e1, List.drop_zero, Nat.sub_zero]
        have e4 : (.string ((⟨r.toArray⟩ : ByteArray).extract (arv BinOp.add (m : Int) 1).toNat ((⟨r.toArray⟩ : ByteArray).size : Int).toNat) : Value) = sv (hd1 r).2 := by
          rw [e2, sv_ext, e1, Int.toNat_natCast, esz, List.take_of_length_le (by rw [List.length_drop]; omega)]
        refine g_j ⟨rfl, rfl, ?_, trivial⟩ ?_
        · show some _ = some _
          exact congrArg some e3
        · have hS2 : St w0 S0 w1 ((Ls r σ).set i (cel b [.string ((⟨r.toArray⟩ : ByteArray).extract (arv BinOp.add (m : Int) 1).toNat ((⟨r.toArray⟩ : ByteArray).size : Int).toNat)] 9)) := hS
          rw [e4, hset] at hS2
          exact hS2
      · have e1 : hd1 r = (r, []) := by unfold hd1; rw [if_neg (by omega)]
        rw [e1]
        (repeat (first | refine g_sq ?_ | refine g_rg ?_ | refine g_r0 ?_ | refine g_ok rfl rfl ?_ | refine g_no rfl ?_ | refine g_no0 rfl ?_ | refine g_bk ?_ | refine g_b ?_ | refine g_sk ?_ | refine g_cT rfl ?_ | refine g_cF rfl ?_ | refine g_x rfl ?_ | refine g_lb ?_))
        refine g_l1 rfl rfl (hS.b i (hi r σ)) rfl ?_
        (repeat (first | refine g_sq ?_ | refine g_rg ?_ | refine g_r0 ?_ | refine g_ok rfl rfl ?_ | refine g_no rfl ?_ | refine g_no0 rfl ?_ | refine g_bk ?_ | refine g_b ?_ | refine g_sk ?_ | refine g_cT rfl ?_ | refine g_cF rfl ?_ | refine g_x rfl ?_ | refine g_lb ?_))
        refine g_ef0 rfl (ef_st hS i (hi r σ) rfl rfl rfl (Nat.le_of_ble_eq_true rfl) rfl fun w1 hS => ?_)
        (repeat (first | refine g_sq ?_ | refine g_rg ?_ | refine g_r0 ?_ | refine g_ok rfl rfl ?_ | refine g_no rfl ?_ | refine g_no0 rfl ?_ | refine g_bk ?_ | refine g_b ?_ | refine g_sk ?_ | refine g_cT rfl ?_ | refine g_cF rfl ?_ | refine g_x rfl ?_ | refine g_lb ?_))
        refine g_j ⟨rfl, rfl, rfl, trivial⟩ ?_
        have hS2 : St w0 S0 w1 ((Ls r σ).set i (cel b [sv []] 9)) := hS
        rw [hset] at hS2
        exact hS2
    · clear hS
      intro T w1 hT hS
      refine g_wkc hT ?_
      (repeat (first | refine g_sq ?_ | refine g_rg ?_ | refine g_r0 ?_ | refine g_ok rfl rfl ?_ | refine g_no rfl ?_ | refine g_no0 rfl ?_ | refine g_bk ?_ | refine g_b ?_ | refine g_sk ?_ | refine g_cT rfl ?_ | refine g_cF rfl ?_ | refine g_x rfl ?_ | refine g_lb ?_))
      refine g_ef rfl (ef_yd (vs := [sv (hd1 r).1]) rfl rfl ((hy r hne σ _ hr hI hS).mono ?_))
      rintro v w' (⟨rfl, σ', hI', hS⟩ | ⟨rfl, hK⟩)
      · (repeat (first | refine g_sq ?_ | refine g_rg ?_ | refine g_r0 ?_ | refine g_ok rfl rfl ?_ | refine g_no rfl ?_ | refine g_no0 rfl ?_ | refine g_bk ?_ | refine g_b ?_ | refine g_sk ?_ | refine g_cT rfl ?_ | refine g_cF rfl ?_ | refine g_x rfl ?_ | refine g_lb ?_))
        exact g_l ((hd1 r).2, σ') ⟨rfl, rfl, trivial⟩ ⟨by simp only; omega, hI', hS⟩ hlt
      · (repeat (first | refine g_sq ?_ | refine g_rg ?_ | refine g_r0 ?_ | refine g_ok rfl rfl ?_ | refine g_no rfl ?_ | refine g_no0 rfl ?_ | refine g_bk ?_ | refine g_b ?_ | refine g_sk ?_ | refine g_cT rfl ?_ | refine g_cF rfl ?_ | refine g_x rfl ?_ | refine g_lb ?_))
        exact g_ret (q_0 hK)
  · have e : r = [] := List.eq_nil_of_length_eq_zero (by omega)
    subst e
    (repeat (first | refine g_sq ?_ | refine g_rg ?_ | refine g_r0 ?_ | refine g_ok rfl rfl ?_ | refine g_no rfl ?_ | refine g_no0 rfl ?_ | refine g_bk ?_ | refine g_b ?_ | refine g_sk ?_ | refine g_cT rfl ?_ | refine g_cF rfl ?_ | refine g_x rfl ?_ | refine g_lb ?_))
    exact q_n (he _ _ hI hS)
end
end Go.Proofs.YtibofabkpgigoaaGreatDoor
namespace Go.Proofs.YtibofabkpgigoaaGreatDoor
open Go.En Go.Shelf Go.RowKit

theorem bld_size : (Tryz.prog.info? 78).map (·.size) = some 2 := by kernel_rfl
theorem bld_lies : liesAt Tryz.prog Tryz.prog.depth 78 (2 / Tryz.prog.cellsOf 78) 0 78 1 = true := by kernel_rfl
theorem byte_cells : Tryz.prog.cellsOf 5 = 1 := by kernel_rfl
set_option maxHeartbeats 1000000 in
set_option maxRecDepth 100000 in
theorem cc_used (b : Nat) (w : World) (h0 : w.cell? ⟨b, 0, none⟩ = some (.pointer (some ⟨b, 0, none⟩))) :
    Calls Tryz.prog 67 #[.pointer (some ⟨b, 0, none⟩)] w fun e w' => e = .returned (.tuple #[]) ∧ w' = w := by
  obtain ⟨j, hj, _⟩ := Option.map_eq_some_iff.1 bld_size
  go_enter Tryz.func67, Tryz.ntmps67
  go_wp2
  rw [Lib.run_neq_ptr_same w _ Tryz.underlying75 hj]
  go_wp2
  go_end0
  exact ⟨rfl, rfl⟩
set_option maxHeartbeats 1000000 in
set_option maxRecDepth 100000 in
theorem cc_fresh (b : Nat) (w : World) (h0 : w.cell? ⟨b, 0, none⟩ = some (.pointer none)) (hsh : w.shape? b = some (78, 2)) (hfz : w.frozen? ⟨b, 0, none⟩ = false) :
    Calls Tryz.prog 67 #[.pointer (some ⟨b, 0, none⟩)] w fun e w' => e = .returned (.tuple #[]) ∧ w' = w.setCell ⟨b, 0, none⟩ (.pointer (some ⟨b, 0, none⟩)) := by
  obtain ⟨j, hj, hjs⟩ := Option.map_eq_some_iff.1 bld_size
  go_enter Tryz.func67, Tryz.ntmps67
  go_wp2
  rw [Lib.run_to_unsafe w ⟨b, 0, none⟩ Tryz.underlying75 Tryz.underlying126 hj (by rw [hjs]; decide) hsh (Nat.zero_lt_succ 1)]
  simp only [Result.andThen]
  rw [Oper.upon_value]
  go_wp2
  rw [run_callFunc_extern Tryz.func84 (by kernel_rfl) (by kernel_rfl) (by kernel_rfl) (e := Extern.AbiNoEscape.same) (by kernel_rfl)]
  rw [Lib.run_noEscape]
  simp only [Result.andThen]
  rw [Oper.upon_value]
  go_wp2
  rw [Lib.run_from_unsafe w ⟨b, 0, none⟩ Tryz.underlying126 Tryz.underlying75 hj hsh bld_lies]
  simp only [Result.andThen]
  rw [Oper.upon_value]
  go_wp2
  go_end0
  exact ⟨rfl, rfl⟩
set_option maxHeartbeats 2000000 in
set_option maxRecDepth 100000 in
theorem bs_str (b g cap : Nat) (p : Value) (cs : List Value) (l : List UInt8) (w : World) (hb : Blr w b [p, .slice (some ⟨g, 0, none⟩) l.length cap] 78) (hg : Blr w g cs 5) (h0 : l ≠ []) (hn : l.length ≤ cap) (hl : l.length ≤ cs.length) (h63 : l.length ≤ 9223372036854775807) (ht : cs.take l.length = bys l) :
    Calls Tryz.prog 40 #[.pointer (some ⟨b, 0, none⟩)] w fun e w' => e = .returned (.string ⟨l.toArray⟩) ∧ w' = w.drew.freeze ⟨g, 0, none⟩ l.length := by
  have hl0 : l.length ≠ 0 := by simpa using h0
  have c1 : w.drew.cell? ⟨b, 1, none⟩ = some (.slice (some ⟨g, 0, none⟩) l.length cap) := hb.cell 1
  have hSD : (Builtin.unsafeSliceData_ #[76] 109 #[.slice (some ⟨g, 0, none⟩) l.length cap]).run Tryz.prog w.drew = .ok (.pointer (some ⟨g, 0, none⟩)) w.drew :=
    Lib.run_unsafeSliceData_row _ _ _ _ _ _ (by omega)
  have hUS : (Builtin.unsafeString_ #[109, 3] 9 #[.pointer (some ⟨g, 0, none⟩), .int .i64 l.length]).run Tryz.prog w.drew = .ok (.string ⟨l.toArray⟩) (w.drew.freeze ⟨g, 0, none⟩ l.length) := by
    refine Lib.run_unsafeString_row w.drew 109 3 9 5 Tryz.underlying109 byte_cells g cs.length (by obtain ⟨fr, hg⟩ := hg; have hg' : w.drew.heap[g]? = some (.cells ⟨cs⟩ 5 fr) := hg; simp [World.shape?, hg']) l h0 hl h63 ?_
    intro j x hx
    have hj : j < l.length := (List.getElem?_eq_some_iff.1 hx).1
    have h1 : w.drew.cell? ⟨g, j, none⟩ = cs[j]? := hg.cell j
    have h2 : (cs.take l.length)[j]? = cs[j]? := by rw [List.getElem?_take, if_pos hj]
    rw [ht] at h2
    have h3 : (bys l)[j]? = some (.int .u8 x.toNat) := by simp [bys, hx]
    have : (⟨g, 0, none⟩ : Addr).add j = ⟨g, j, none⟩ := by rw [add_plain, Nat.zero_add]
    first | rw [this, h1, ← h2, h3] | rw [h1, ← h2, h3]
  have hmx : Tryz.prog.follows .mixedOrders = true := by kernel_rfl
  go_enter Tryz.func40, Tryz.ntmps40
  go_wp2
  go_region_o
  all_goals (go_wp2; go_ret; exact ⟨rfl, rfl⟩)
set_option maxHeartbeats 2000000 in
set_option maxRecDepth 100000 in
theorem bs_nil (b : Nat) (p : Value) (w : World) (hb : Blr w b [p, .slice none 0 0] 78) :
    Calls Tryz.prog 40 #[.pointer (some ⟨b, 0, none⟩)] w fun e w' => e = .returned (.string ⟨#[]⟩) ∧ w' = w.drew := by
  have c1 : w.drew.cell? ⟨b, 1, none⟩ = some (.slice none 0 0) := hb.cell 1
  have hSD : (Builtin.unsafeSliceData_ #[76] 109 #[.slice none 0 0]).run Tryz.prog w.drew = .ok (.pointer none) w.drew := rfl
  have hUS : (Builtin.unsafeString_ #[109, 3] 9 #[.pointer none, .int .i64 0]).run Tryz.prog w.drew = .ok (.string .empty) w.drew := Lib.run_unsafeString_none w.drew _ _ _ none
  have hmx : Tryz.prog.follows .mixedOrders = true := by kernel_rfl
  go_enter Tryz.func40, Tryz.ntmps40
  go_wp2
  go_region_o
  all_goals (go_wp2; go_ret; exact ⟨rfl, rfl⟩)
end Go.Proofs.YtibofabkpgigoaaGreatDoor
namespace Go.Proofs.YtibofabkpgigoaaGreatDoor
open Go.En

theorem sv_app (a b : Bs) : (.string ((⟨a.toArray⟩ : ByteArray) ++ ⟨b.toArray⟩) : Value) = sv (a ++ b) := by
  rw [← sv_of]
  congr 1
section
variable {w w0 : World} {S0 : Nat → Prop} {L B : List Res} {K : Value → World → Prop} {s : Bs}
theorem setCell_setB {b i : Nat} {l : List Value} {E : TypeId} {v : Value} (hb : Blk w b l E) : w.setCell ⟨b, i, none⟩ v = setB w b (l.set i v) := by
  obtain ⟨fr, h, _⟩ := hb
  unfold World.setCell setB
  congr 1
  apply Array.ext
  · simp
  · intro j h1 h2
    simp only [Array.getElem_modify]
    split
    · rename_i e; subst e
      have := (Array.getElem?_eq_some_iff.1 h).2
      rw [this]
      simp [oset]
    · rfl
theorem c_cc {b i : Nat} {p v : Value} (hp : p = .pointer none ∨ p = dp b) (hS : St w0 S0 w L) (hi : L[i]? = some (cel b [p, v] 78)) (h : ∀ w', St w0 S0 w' (L.set i (cel b [dp b, v] 78)) → K (.tuple ⟨[]⟩) w') : CK Tryz.prog 67 [dp b] w K := by
  have hb := hS.b i hi
  rcases hp with rfl | rfl
  · refine (cc_fresh b w (hb.cell 0) ?_ (hb.free (Nat.zero_lt_succ _))).mono ?_
    · obtain ⟨fr, hb, _⟩ := hb
      simp [World.shape?, hb]
    · rintro e w' ⟨rfl, rfl⟩
      refine ⟨_, rfl, h _ ?_⟩
      rw [setCell_setB hb]
      exact hS.set i hi [dp b, v] rfl
  · refine (cc_used b w (hb.cell 0)).mono ?_
    rintro e w' ⟨rfl, rfl⟩
    exact ⟨_, rfl, h _ (hS.ceq i hi rfl)⟩
theorem b_WS {b n : Nat} {p v : Value} {x t : Bs} (hp : p = .pointer none ∨ p = dp b) (hn : n + t.length < 4294967281) (hS : St w0 S0 w [cel b [p, v] 78, row v 5 1 n (bys x)])
    (h : ∀ v' w', St w0 S0 w' [cel b [dp b, v'] 78, row v' 5 1 (n + t.length) (bys (x ++ t))] → K (.tuple ⟨[.int .i64 t.length, .nilIface]⟩) w') : CK Tryz.prog 39 [dp b, sv t] w K := by
  obtain ⟨a, c, rfl⟩ := hS.rlen 1 rfl
  refine call_k Tryz.func39 k39 Tryz.ntmps39 (Nat.le_of_ble_eq_true rfl) ?_
  (repeat (first | refine g_sq ?_ | refine g_rg ?_ | refine g_r0 ?_ | refine g_ok rfl rfl ?_ | refine g_no rfl ?_ | refine g_no0 rfl ?_ | refine g_bk ?_ | refine g_b ?_ | refine g_sk ?_ | refine g_cT rfl ?_ | refine g_cF rfl ?_ | refine g_x rfl ?_ | refine g_lb ?_))
  refine g_cl rfl rfl (c_cc hp hS (i := 0) rfl fun w1 hS => ?_)
  replace hS : St w0 S0 w1 [cel b [dp b, .slice a n c] 78, row (.slice a n c) 5 1 n (bys x)] := hS
  (repeat (first | refine g_sq ?_ | refine g_rg ?_ | refine g_r0 ?_ | refine g_ok rfl rfl ?_ | refine g_no rfl ?_ | refine g_no0 rfl ?_ | refine g_bk ?_ | refine g_b ?_ | refine g_sk ?_ | refine g_cT rfl ?_ | refine g_cF rfl ?_ | refine g_x rfl ?_ | refine g_lb ?_))
  refine g_l1 rfl rfl (hS.b  0 rfl) rfl ?_
  (repeat (first | refine g_sq ?_ | refine g_rg ?_ | refine g_r0 ?_ | refine g_ok rfl rfl ?_ | refine g_no rfl ?_ | refine g_no0 rfl ?_ | refine g_bk ?_ | refine g_b ?_ | refine g_sk ?_ | refine g_cT rfl ?_ | refine g_cF rfl ?_ | refine g_x rfl ?_ | refine g_lb ?_))
  refine g_ef rfl (ef_ap (bytes := 1) (n := n) (m := t.length) (ys := bys t) hS 1 rfl rfl rfl (.inr ⟨_, rfl, rfl, rfl, rfl⟩) (bys_one t) (by omega) (by omega) fun v1 w1 hS => ?_)
  rw [← bys_append] at hS
  obtain ⟨a1, c1, rfl⟩ := hS.rlen 1 rfl
  (repeat (first | refine g_sq ?_ | refine g_rg ?_ | refine g_r0 ?_ | refine g_ok rfl rfl ?_ | refine g_no rfl ?_ | refine g_no0 rfl ?_ | refine g_bk ?_ | refine g_b ?_ | refine g_sk ?_ | refine g_cT rfl ?_ | refine g_cF rfl ?_ | refine g_x rfl ?_ | refine g_lb ?_))
  refine g_ef0 rfl (ef_st hS 0 rfl rfl rfl rfl (Nat.le_of_ble_eq_true rfl) rfl fun w1 hS => ?_)
  (repeat (first | refine g_sq ?_ | refine g_rg ?_ | refine g_r0 ?_ | refine g_ok rfl rfl ?_ | refine g_no rfl ?_ | refine g_no0 rfl ?_ | refine g_bk ?_ | refine g_b ?_ | refine g_sk ?_ | refine g_cT rfl ?_ | refine g_cF rfl ?_ | refine g_x rfl ?_ | refine g_lb ?_))
  refine g_ret (q_2 rfl rfl ?_)
  rw [Lib.size_eq]
  exact h _ _ hS
theorem b_BS {b n : Nat} {p v : Value} {x : Bs} (hx : x = [] → v = .slice none 0 0) (hn : n < 4294967281) (hS : St w0 S0 w [cel b [p, v] 78, row v 5 1 n (bys x)])
    (h : ∀ w', St w0 S0 w' [] → K (sv x) w') : CK Tryz.prog 40 [dp b] w K := by
  have hb := hS.b 0 rfl
  have hlen : x.length = n := by
    have := (hS.ok 1 _ rfl).len
    rw [bys_length, Nat.mul_one] at this
    exact this
  have fin : ∀ w', Fr w0 S0 w' → St w0 S0 w' [] := fun w' hf => ⟨fun _ _ h => (by simp at h), fun _ _ h => (by simp at h), fun _ _ h => (by simp at h), fun _ _ _ _ h => (by simp at h), hf⟩
  by_cases h0 : x = []
  · obtain rfl := hx h0
    subst h0
    refine (bs_nil b p w hb.r).mono ?_
    rintro e w' ⟨rfl, rfl⟩
    exact ⟨_, rfl, h _ (fin _ hS.drew.fr)⟩
  · obtain ⟨g, cap, rest, rfl, hcap, hg, hl⟩ := row_blk hS 1 rfl (by have := List.length_pos_iff.2 h0; omega)
    subst hlen
    refine (bs_str b g cap p (bys x ++ rest) x w hb.r hg.r h0 hcap (by rw [List.length_append, bys_length]; omega) (by omega) (by rw [List.take_left' (bys_length x)])).mono ?_
    rintro e w' ⟨rfl, rfl⟩
    refine ⟨_, rfl, h _ (fin _ (hS.fr.trans (S1 := fun y => y = g) ?_ fun y hy => ?_))⟩
    · unfold World.freeze
      split
      · exact Fr.drew w _
      · refine ⟨by simp, fun y _ hn => ?_, rfl, rfl, rfl, Nat.le_succ _⟩
        show (w.drew.heap.modify g _)[y]? = _
        rw [Array.getElem?_modify, if_neg (fun e => hn e.symm)]; rfl
    · subst hy
      exact hS.src 1 _ rfl y rfl
end
end Go.Proofs.YtibofabkpgigoaaGreatDoor
