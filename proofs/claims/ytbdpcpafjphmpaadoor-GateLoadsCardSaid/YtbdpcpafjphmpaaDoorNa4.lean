/- Names of refs: whether one may be. -/
import Derived.Test.YtbdpcpafjphmpaaDoorNa3
set_option linter.unusedSimpArgs false
set_option linter.unusedVariables false
namespace Go.Proofs.YtbdpcpafjphmpaaDoor
open Go.En

section
variable {w w0 : World} {S0 : Nat → Prop} {L B : List Res} {K : Value → World → Prop} {s : Bs}
theorem _root_.Go.En.St.init {r : Res} (hS : St w0 S0 w (L ++ [r])) : St w0 S0 w L := hS.front.tail
def fvl (a2 a3 h4 a5 h7 : Nat) : Nat → Value
  | 0 => .func (.func 50) ⟨[]⟩ ⟨[]⟩
  | 1 => .func (.func 51) ⟨[]⟩ ⟨[]⟩
  | 2 => .func (.func 63) ⟨[]⟩ ⟨[dp a2]⟩
  | 3 => .func (.func 63) ⟨[]⟩ ⟨[dp a3]⟩
  | 4 => .func (.func 66) ⟨[]⟩ ⟨[dp h4]⟩
  | 5 => .func (.func 63) ⟨[]⟩ ⟨[dp a5]⟩
  | 6 => .func (.func 59) ⟨[]⟩ ⟨[]⟩
  | _ => .func (.func 66) ⟨[]⟩ ⟨[dp h7]⟩
def rcl (fv : Nat → Value) (k : Nat) : List Value := [.int .i64 ((k + 1 : Nat) : Int), fv k]
/-- what the rules lie in -/
def ruM (b g a2 a3 h4 a5 h7 : Nat) : List Res :=
  [cel a2 [.func (.func 53) ⟨[]⟩ ⟨[]⟩] 92, cel a3 [.func (.func 54) ⟨[]⟩ ⟨[]⟩] 92, cel h4 [sv [46, 46]] 9, cel a5 [.func (.func 57) ⟨[]⟩ ⟨[]⟩] 92, cel h7 [sv [64, 123]] 9,
   cel g (((List.range 8).map (rcl (fvl a2 a3 h4 a5 h7))).flatten) 94, cel b [.slice (some ⟨g, 0, none⟩) 8 8] 104]
theorem b_byPartF {v : Value} {i : Nat} (hS : St w0 S0 w L) (hv : v.cells.toList = [v]) (h : ∀ w' b, St w0 S0 w' (L ++ [cel b [v] 92]) → K (.func (.func 63) ⟨[]⟩ ⟨[dp b]⟩) w') : CK Tryd.prog 52 [v] w K := by
  refine call_k Tryd.func52 k52 Tryd.ntmps52 (Nat.le_of_ble_eq_true rfl) ?_
  (repeat (first | refine g_sq ?_ | refine g_rg ?_ | refine g_r0 ?_ | refine g_ok rfl rfl ?_ | refine g_no rfl ?_ | refine g_no0 rfl ?_ | refine g_bk ?_ | refine g_b ?_ | refine g_sk ?_ | refine g_cT rfl ?_ | refine g_cF rfl ?_ | refine g_x rfl ?_ | refine g_lb ?_))
  refine g_ef rfl (ef_bx hS rfl fun b w hS => ?_)
  rw [hv] at hS
  (repeat (first | refine g_sq ?_ | refine g_rg ?_ | refine g_r0 ?_ | refine g_ok rfl rfl ?_ | refine g_no rfl ?_ | refine g_no0 rfl ?_ | refine g_bk ?_ | refine g_b ?_ | refine g_sk ?_ | refine g_cT rfl ?_ | refine g_cF rfl ?_ | refine g_x rfl ?_ | refine g_lb ?_))
  exact g_ret (q_1 rfl (h _ _ hS))
theorem b_hasF {p : Bs} (hS : St w0 S0 w L) (h : ∀ w' b, St w0 S0 w' (L ++ [cel b [sv p] 9]) → K (.func (.func 66) ⟨[]⟩ ⟨[dp b]⟩) w') : CK Tryd.prog 56 [sv p] w K := by
  refine call_k Tryd.func56 k56 Tryd.ntmps56 (Nat.le_of_ble_eq_true rfl) ?_
  (repeat (first | refine g_sq ?_ | refine g_rg ?_ | refine g_r0 ?_ | refine g_ok rfl rfl ?_ | refine g_no rfl ?_ | refine g_no0 rfl ?_ | refine g_bk ?_ | refine g_b ?_ | refine g_sk ?_ | refine g_cT rfl ?_ | refine g_cF rfl ?_ | refine g_x rfl ?_ | refine g_lb ?_))
  refine g_ef rfl (ef_bx hS rfl fun b w hS => ?_)
  (repeat (first | refine g_sq ?_ | refine g_rg ?_ | refine g_r0 ?_ | refine g_ok rfl rfl ?_ | refine g_no rfl ?_ | refine g_no0 rfl ?_ | refine g_bk ?_ | refine g_b ?_ | refine g_sk ?_ | refine g_cT rfl ?_ | refine g_cF rfl ?_ | refine g_x rfl ?_ | refine g_lb ?_))
  exact g_ret (q_1 rfl (h _ _ hS))
theorem b_rules (h : ∀ w' b g a2 a3 h4 a5 h7, St w (fun _ => False) w' (ruM b g a2 a3 h4 a5 h7) → K (.func (.func 60) ⟨[]⟩ ⟨[dp b]⟩) w') : CK Tryd.prog 44 [] w K := by
  have hS := St.nil w (fun _ => False)
  refine call_k Tryd.func44 k44 Tryd.ntmps44 (Nat.le_of_ble_eq_true rfl) ?_
  (repeat (first | refine g_sq ?_ | refine g_rg ?_ | refine g_r0 ?_ | refine g_ok rfl rfl ?_ | refine g_no rfl ?_ | refine g_no0 rfl ?_ | refine g_bk ?_ | refine g_b ?_ | refine g_sk ?_ | refine g_cT rfl ?_ | refine g_cF rfl ?_ | refine g_x rfl ?_ | refine g_lb ?_))
  refine g_cl rfl rfl (b_byPartF (i := 0) hS rfl fun w a2 hS => ?_)
  (repeat (first | refine g_sq ?_ | refine g_rg ?_ | refine g_r0 ?_ | refine g_ok rfl rfl ?_ | refine g_no rfl ?_ | refine g_no0 rfl ?_ | refine g_bk ?_ | refine g_b ?_ | refine g_sk ?_ | refine g_cT rfl ?_ | refine g_cF rfl ?_ | refine g_x rfl ?_ | refine g_lb ?_))
  refine g_cl rfl rfl (b_byPartF (i := 0) hS rfl fun w a3 hS => ?_)
  (repeat (first | refine g_sq ?_ | refine g_rg ?_ | refine g_r0 ?_ | refine g_ok rfl rfl ?_ | refine g_no rfl ?_ | refine g_no0 rfl ?_ | refine g_bk ?_ | refine g_b ?_ | refine g_sk ?_ | refine g_cT rfl ?_ | refine g_cF rfl ?_ | refine g_x rfl ?_ | refine g_lb ?_))
  refine g_cl rfl rfl (b_hasF (p := [46, 46]) hS fun w h4 hS => ?_)
  (repeat (first | refine g_sq ?_ | refine g_rg ?_ | refine g_r0 ?_ | refine g_ok rfl rfl ?_ | refine g_no rfl ?_ | refine g_no0 rfl ?_ | refine g_bk ?_ | refine g_b ?_ | refine g_sk ?_ | refine g_cT rfl ?_ | refine g_cF rfl ?_ | refine g_x rfl ?_ | refine g_lb ?_))
  refine g_cl rfl rfl (b_byPartF (i := 0) hS rfl fun w a5 hS => ?_)
  (repeat (first | refine g_sq ?_ | refine g_rg ?_ | refine g_r0 ?_ | refine g_ok rfl rfl ?_ | refine g_no rfl ?_ | refine g_no0 rfl ?_ | refine g_bk ?_ | refine g_b ?_ | refine g_sk ?_ | refine g_cT rfl ?_ | refine g_cF rfl ?_ | refine g_x rfl ?_ | refine g_lb ?_))
  refine g_cl rfl rfl (b_hasF (p := [64, 123]) hS fun w h7 hS => ?_)
  (repeat (first | refine g_sq ?_ | refine g_rg ?_ | refine g_r0 ?_ | refine g_ok rfl rfl ?_ | refine g_no rfl ?_ | refine g_no0 rfl ?_ | refine g_bk ?_ | refine g_b ?_ | refine g_sk ?_ | refine g_cT rfl ?_ | refine g_cF rfl ?_ | refine g_x rfl ?_ | refine g_lb ?_))
  refine g_ef rfl (ef_bl (rs := ((List.range 8).map (rcl (fvl a2 a3 h4 a5 h7))).flatten) hS rfl fun g w hS => ?_)
  refine g_ef rfl (ef_al hS fun b w hS => ?_)
  refine g_ef0 rfl (ef_st hS 6 rfl rfl rfl rfl (Nat.le_of_ble_eq_true rfl) rfl fun w hS => ?_)
  (repeat (first | refine g_sq ?_ | refine g_rg ?_ | refine g_r0 ?_ | refine g_ok rfl rfl ?_ | refine g_no rfl ?_ | refine g_no0 rfl ?_ | refine g_bk ?_ | refine g_b ?_ | refine g_sk ?_ | refine g_cT rfl ?_ | refine g_cF rfl ?_ | refine g_x rfl ?_ | refine g_lb ?_))
  exact g_ret (q_1 rfl (h _ _ _ _ _ _ _ _ hS))
theorem rcl_at (fv : Nat → Value) {k : Nat} (hk : k < 8) : List.take 2 (List.drop (0 + k * 2) ((List.range 8).map (rcl fv)).flatten) = rcl fv k := by
  rcases k with _ | _ | _ | _ | _ | _ | _ | _ | k <;> first | rfl | omega
theorem d_rules6 {fv : Nat → Value} {b g l i j : Nat} {Pk : Nat → Prop} (hfv : ∀ k, (fv k).oneCell' = true) (hi : L[i]? = some (cel b [.slice (some ⟨g, 0, none⟩) 8 8] 104)) (hj : L[j]? = some (cel g (((List.range 8).map (rcl fv)).flatten) 94)) (hS : St w0 S0 w L)
    (hy : ∀ (k : Nat) (w : World), k < 8 → (∀ n, n < k → Pk n) → St w0 S0 w L → Yd Tryd.prog l [.agg ⟨rcl fv k⟩] w fun v w' => (v = .bool true ∧ Pk k ∧ St w0 S0 w' L) ∨ (v = .bool false ∧ K (.tuple ⟨[]⟩) w'))
    (he : ∀ w, (∀ n, n < 8 → Pk n) → St w0 S0 w L → K (.tuple ⟨[]⟩) w) : CK Tryd.prog 60 [.func (.yield l) ⟨[]⟩ ⟨[]⟩, dp b] w K := by
  refine call_k Tryd.func60 k60 Tryd.ntmps60 (Nat.le_of_ble_eq_true rfl) ?_
  (repeat (first | refine g_sq ?_ | refine g_rg ?_ | refine g_r0 ?_ | refine g_ok rfl rfl ?_ | refine g_no rfl ?_ | refine g_no0 rfl ?_ | refine g_bk ?_ | refine g_b ?_ | refine g_sk ?_ | refine g_cT rfl ?_ | refine g_cF rfl ?_ | refine g_x rfl ?_ | refine g_lb ?_))
  refine g_l1 rfl rfl (hS.b i hi) rfl ?_
  (repeat (first | refine g_sq ?_ | refine g_rg ?_ | refine g_r0 ?_ | refine g_ok rfl rfl ?_ | refine g_no rfl ?_ | refine g_no0 rfl ?_ | refine g_bk ?_ | refine g_b ?_ | refine g_sk ?_ | refine g_cT rfl ?_ | refine g_cF rfl ?_ | refine g_x rfl ?_ | refine g_lb ?_))
  refine g_lp (ι := Nat) (fun k => [(0, .func (.yield l) ⟨[]⟩ ⟨[]⟩), (5, .slice (some ⟨g, 0, none⟩) 8 8), (6, .int .i64 8), (7, .int .i64 k)]) (fun k w => k ≤ 8 ∧ (∀ n, n < k → Pk n) ∧ St w0 S0 w L) (fun k => 8 - k) 0 ⟨rfl, rfl, rfl, rfl, trivial⟩ ⟨Nat.zero_le _, fun n hn => absurd hn (Nat.not_lt_zero n), hS⟩ ?_
  clear hS
  rintro k w ⟨hk, hP, hS⟩
  (repeat (first | refine g_sq ?_ | refine g_rg ?_ | refine g_r0 ?_ | refine g_ok rfl rfl ?_ | refine g_no rfl ?_ | refine g_no0 rfl ?_ | refine g_bk ?_ | refine g_b ?_ | refine g_sk ?_ | refine g_cT rfl ?_ | refine g_cF rfl ?_ | refine g_x rfl ?_ | refine g_lb ?_))
  refine g_cd rfl (fun hc => ?_) (fun hc => ?_)
  all_goals simp only [cmv, decide_eq_true_eq, decide_eq_false_iff_not] at hc
  · have hlt : k < 8 := by omega
    (repeat (first | refine g_sq ?_ | refine g_rg ?_ | refine g_r0 ?_ | refine g_ok rfl rfl ?_ | refine g_no rfl ?_ | refine g_no0 rfl ?_ | refine g_bk ?_ | refine g_b ?_ | refine g_sk ?_ | refine g_cT rfl ?_ | refine g_cF rfl ?_ | refine g_x rfl ?_ | refine g_lb ?_))
    refine g_rq rfl rfl ⟨by omega, by omega⟩ ?_
    refine g_lm rfl rfl (hS.b j hj) (by show 0 + (k : Int).toNat * 2 + 2 ≤ 16; rw [Int.toNat_natCast]; omega) ?_
    rw [Int.toNat_natCast, rcl_at fv hlt]
    refine g_ef rfl (ef_al hS fun g4 w hS => ?_)
    have hi2 : (L ++ [cel g4 (zx [(1, .int .i64 0), (1, .nilFunc)]) 94])[L.length]? = some (cel g4 (zx [(1, .int .i64 0), (1, .nilFunc)]) 94) := by
      rw [List.getElem?_append_right (Nat.le_refl _), Nat.sub_self]; rfl
    have h1c : (rcl fv k).all (·.oneCell') = true := by
      have := hfv k
      simp only [rcl, List.all_cons, List.all_nil, Bool.and_true, this]
      rfl
    refine g_ef0 rfl (ef_st hS L.length hi2 rfl rfl rfl (Nat.le_of_ble_eq_true rfl) h1c fun w hS => ?_)
    rw [List.set_append_right _ _ (Nat.le_refl _), Nat.sub_self, List.set_cons_zero] at hS
    have hi3 : (L ++ [cel g4 (rcl fv k) 94])[L.length]? = some (cel g4 (rcl fv k) 94) := by
      rw [List.getElem?_append_right (Nat.le_refl _), Nat.sub_self]; rfl
    have hS : St w0 S0 w (L ++ [cel g4 (rcl fv k) 94]) := hS
    (repeat (first | refine g_sq ?_ | refine g_rg ?_ | refine g_r0 ?_ | refine g_ok rfl rfl ?_ | refine g_no rfl ?_ | refine g_no0 rfl ?_ | refine g_bk ?_ | refine g_b ?_ | refine g_sk ?_ | refine g_cT rfl ?_ | refine g_cF rfl ?_ | refine g_x rfl ?_ | refine g_lb ?_))
    refine g_lm rfl rfl (hS.b _ hi3) (Nat.le_of_ble_eq_true rfl) ?_
    refine g_ef rfl (ef_yd (vs := [.agg ⟨rcl fv k⟩]) rfl rfl ((hy k w hlt hP hS.init).mono ?_))
    rintro v w' (⟨rfl, hn, hS⟩ | ⟨rfl, hK⟩)
    · (repeat (first | refine g_sq ?_ | refine g_rg ?_ | refine g_r0 ?_ | refine g_ok rfl rfl ?_ | refine g_no rfl ?_ | refine g_no0 rfl ?_ | refine g_bk ?_ | refine g_b ?_ | refine g_sk ?_ | refine g_cT rfl ?_ | refine g_cF rfl ?_ | refine g_x rfl ?_ | refine g_lb ?_))
      refine g_rq rfl rfl (in64 (by simp only [arv]; omega)) ?_
      (repeat (first | refine g_sq ?_ | refine g_rg ?_ | refine g_r0 ?_ | refine g_ok rfl rfl ?_ | refine g_no rfl ?_ | refine g_no0 rfl ?_ | refine g_bk ?_ | refine g_b ?_ | refine g_sk ?_ | refine g_cT rfl ?_ | refine g_cF rfl ?_ | refine g_x rfl ?_ | refine g_lb ?_))
      refine g_l (k + 1) ⟨rfl, rfl, rfl, rfl, trivial⟩ ⟨by omega, fun n hn' => ?_, hS⟩ (by omega)
      by_cases e : n = k
      · subst e; exact hn
      · exact hP n (by omega)
    · (repeat (first | refine g_sq ?_ | refine g_rg ?_ | refine g_r0 ?_ | refine g_ok rfl rfl ?_ | refine g_no rfl ?_ | refine g_no0 rfl ?_ | refine g_bk ?_ | refine g_b ?_ | refine g_sk ?_ | refine g_cT rfl ?_ | refine g_cF rfl ?_ | refine g_x rfl ?_ | refine g_lb ?_))
      exact g_ret (q_0 hK)
  · have e : k = 8 := by omega
    subst e
    (repeat (first | refine g_sq ?_ | refine g_rg ?_ | refine g_r0 ?_ | refine g_ok rfl rfl ?_ | refine g_no rfl ?_ | refine g_no0 rfl ?_ | refine g_bk ?_ | refine g_b ?_ | refine g_sk ?_ | refine g_cT rfl ?_ | refine g_cF rfl ?_ | refine g_x rfl ?_ | refine g_lb ?_))
    exact q_n (he _ hP hS)
theorem splitB_le (sep : ByteArray) : ∀ (k : Nat) (s p : ByteArray), p ∈ Lib.splitB sep 0 k s → p.size ≤ s.size
  | 0, s, p, h => by simp [Lib.splitB] at h; subst h; exact Nat.le_refl _
  | k + 1, s, p, h => by
    unfold Lib.splitB at h
    split at h
    · simp at h; subst h; exact Nat.le_refl _
    · rcases List.mem_cons.1 h with h | h
      · subst h; rw [ByteArray.size_extract]; omega
      · have := splitB_le sep k _ p h
        rw [ByteArray.size_extract] at this
        omega
theorem prt_le {p : Bs} (h : p ∈ prt s) : p.length ≤ s.length := by
  simp only [prt, List.mem_map] at h
  obtain ⟨q, hq, rfl⟩ := h
  have := splitB_le _ _ _ _ hq
  rw [Lib.size_eq, Lib.size_eq] at this
  exact this
theorem fvl_call {a2 a3 h4 a5 h7 k b g : Nat} (hk : k < 8) (hg : Gl w) (hs : 0 < k → s.length ≤ 100) (hS : St w0 S0 w (ruM b g a2 a3 h4 a5 h7 ++ B)) :
    ∃ f cap, fvl a2 a3 h4 a5 h7 k = .func (.func f) ⟨[]⟩ ⟨cap⟩ ∧ (∀ (args : Array Value) (w : World), (callFunc f args).run Tryd.prog w = .ok (.enter f args) w) ∧
      ∀ {K : Value → World → Prop}, (∀ w', St w0 S0 w' (ruM b g a2 a3 h4 a5 h7 ++ B) → K (.bool (rul k s)) w') → CK Tryd.prog f ([sv s] ++ cap) w K := by
  have hfr : ∀ {w' : World}, St w (fun _ => False) w' [] → St w0 S0 w' (ruM b g a2 a3 h4 a5 h7 ++ B) := fun h => by
    have := hS.call0.2 _ _ h
    rwa [List.append_nil] at this
  have p1 : s.length ≤ 100 → ∀ p ∈ prt s, p.length ≤ 9223372036854775807 := fun hl p hp => by
    have := prt_le hp; omega
  rcases k with _ | _ | _ | _ | _ | _ | _ | _ | k
  · exact ⟨_, _, rfl, callFunc_of Tryd.func50 rfl rfl, fun h => b_r1 (h _ hS)⟩
  · exact ⟨_, _, rfl, callFunc_of Tryd.func51 rfl rfl, fun h => b_byte hg fun w' h' => h _ (hfr h')⟩
  · have hl := hs (by decide)
    exact ⟨_, _, rfl, callFunc_of Tryd.func63 rfl rfl, fun h => b_part (bad := fun p => decide (p = [])) (fun _ h => b_r2 h) (callFunc_of Tryd.func53 rfl rfl) hg (by omega) (hS.b 0 rfl).r fun w' h' => h _ (hfr h')⟩
  · have hl := hs (by decide)
    exact ⟨_, _, rfl, callFunc_of Tryd.func63 rfl rfl, fun h => b_part (bad := fun p => [46].isPrefixOf p) (fun _ h => b_r3 h) (callFunc_of Tryd.func54 rfl rfl) hg (by omega) (hS.b 1 rfl).r fun w' h' => h _ (hfr h')⟩
  · have hl := hs (by decide)
    exact ⟨_, _, rfl, callFunc_of Tryd.func66 rfl rfl, fun h => b_has hg (by omega) (hS.b 2 rfl) (h _ hS)⟩
  · have hl := hs (by decide)
    exact ⟨_, _, rfl, callFunc_of Tryd.func63 rfl rfl, fun h => b_part (bad := fun p => [46, 108, 111, 99, 107].isSuffixOf p) (fun hp h => b_r4 (p1 hl _ hp) h) (callFunc_of Tryd.func57 rfl rfl) hg (by omega) (hS.b 3 rfl).r fun w' h' => h _ (hfr h')⟩
  · have hl := hs (by decide)
    exact ⟨_, _, rfl, callFunc_of Tryd.func59 rfl rfl, fun h => b_r5 (by omega) (h _ hS)⟩
  · have hl := hs (by decide)
    exact ⟨_, _, rfl, callFunc_of Tryd.func66 rfl rfl, fun h => b_has hg (by omega) (hS.b 4 rfl) (h _ hS)⟩
  · omega
theorem b_Breaks (hg : Gl w) (h : ∀ w', St w (fun _ => False) w' [] → K (.int .i64 (brk s)) w') : CK Tryd.prog 31 [sv s] w K := by
  have hS := St.nil w (fun _ => False)
  refine call_k Tryd.func31 k31 Tryd.ntmps31 (Nat.le_of_ble_eq_true rfl) ?_
  (repeat (first | refine g_sq ?_ | refine g_rg ?_ | refine g_r0 ?_ | refine g_ok rfl rfl ?_ | refine g_no rfl ?_ | refine g_no0 rfl ?_ | refine g_bk ?_ | refine g_b ?_ | refine g_sk ?_ | refine g_cT rfl ?_ | refine g_cF rfl ?_ | refine g_x rfl ?_ | refine g_lb ?_))
  refine g_ef rfl (ef_bx hS rfl fun b1 w1 hS => ?_)
  (repeat (first | refine g_sq ?_ | refine g_rg ?_ | refine g_r0 ?_ | refine g_ok rfl rfl ?_ | refine g_no rfl ?_ | refine g_no0 rfl ?_ | refine g_bk ?_ | refine g_b ?_ | refine g_sk ?_ | refine g_cT rfl ?_ | refine g_cF rfl ?_ | refine g_x rfl ?_ | refine g_lb ?_))
  refine g_sc rfl ?_
  (repeat (first | refine g_sq ?_ | refine g_rg ?_ | refine g_r0 ?_ | refine g_ok rfl rfl ?_ | refine g_no rfl ?_ | refine g_no0 rfl ?_ | refine g_bk ?_ | refine g_b ?_ | refine g_sk ?_ | refine g_cT rfl ?_ | refine g_cF rfl ?_ | refine g_x rfl ?_ | refine g_lb ?_))
  refine g_ef rfl (ef_al hS fun b3 w1 hS => ?_)
  refine g_ef0 rfl (ef_st hS 1 rfl rfl rfl rfl (Nat.le_of_ble_eq_true rfl) rfl fun w1 hS => ?_)
  have hS : St w (fun _ => False) w1 [cel b1 [sv s] 9, cel b3 [.int .i64 0] 3] := hS
  (repeat (first | refine g_sq ?_ | refine g_rg ?_ | refine g_r0 ?_ | refine g_ok rfl rfl ?_ | refine g_no rfl ?_ | refine g_no0 rfl ?_ | refine g_bk ?_ | refine g_b ?_ | refine g_sk ?_ | refine g_cT rfl ?_ | refine g_cF rfl ?_ | refine g_x rfl ?_ | refine g_lb ?_))
  refine g_cl rfl rfl (b_rules fun w2 b g a2 a3 h4 a5 h7 h' => ?_)
  have hS := hS.call0.2 _ _ h'
  have hS := selB' (A := [_, _]) (B := ruM b g a2 a3 h4 a5 h7) hS [0, 1] rfl rfl
  have hS : St w (fun _ => False) w2 [cel b1 [sv s] 9, cel b3 [.int .i64 0] 3, _, _, _, _, _, _, _] := hS
  have hS := hS.sel [2, 3, 4, 5, 6, 7, 8, 0, 1] rfl rfl
  have hS : St w (fun _ => False) w2 (ruM b g a2 a3 h4 a5 h7 ++ [cel b1 [sv s] 9, cel b3 [.int .i64 0] 3]) := hS
  refine g_r0 ?_
  refine g_atd 1 [(3, dp b3)] (fun D1 w' => ∃ dB, D1 = [⟨.collected dB, #[]⟩] ∧ St w (fun _ => False) w' [cel b3 [.int .i64 (brk s)] 3, obj dB (.deferred (some []))]) rfl ?_ ?_
  · (repeat (first | refine g_sq ?_ | refine g_rg ?_ | refine g_r0 ?_ | refine g_ok rfl rfl ?_ | refine g_no rfl ?_ | refine g_no0 rfl ?_ | refine g_bk ?_ | refine g_b ?_ | refine g_sk ?_ | refine g_cT rfl ?_ | refine g_cF rfl ?_ | refine g_x rfl ?_ | refine g_lb ?_))
    refine g_wkc (T' := [(5, .func (.func 60) ⟨[]⟩ ⟨[dp b]⟩), (1, dp b1), (3, dp b3)]) ⟨rfl, rfl, rfl, trivial⟩ ?_
    refine g_rf (cap := [dp b]) (first := []) hS rfl (callFunc_of Tryd.func60 rfl rfl) fun l dB w2 hS => ?_
    have hfv : ∀ k, (fvl a2 a3 h4 a5 h7 k).oneCell' = true := fun k => by
      rcases k with _ | _ | _ | _ | _ | _ | _ | k <;> rfl
    refine d_rules6 (i := 6) (j := 5) (Pk := fun k => rul k s = false) hfv rfl rfl hS ?_ ?_
    · clear hS
      intro k w2 hk hP hS
      refine yd_of hS 10 rfl rfl ?_
      (repeat (first | refine g_sq ?_ | refine g_rg ?_ | refine g_r0 ?_ | refine g_ok rfl rfl ?_ | refine g_no rfl ?_ | refine g_no0 rfl ?_ | refine g_bk ?_ | refine g_b ?_ | refine g_sk ?_ | refine g_cT rfl ?_ | refine g_cF rfl ?_ | refine g_x rfl ?_ | refine g_lb ?_))
      refine g_ef rfl (ef_al hS fun b4 w2 hS => ?_)
      have h1c : (rcl (fvl a2 a3 h4 a5 h7) k).all (·.oneCell') = true := by
        have := hfv k
        simp only [rcl, List.all_cons, List.all_nil, Bool.and_true, this]
        rfl
      refine g_ef0 rfl (ef_st hS 11 rfl rfl rfl rfl (Nat.le_of_ble_eq_true rfl) h1c fun w2 hS => ?_)
      have hS := hS.ceq (l' := rcl (fvl a2 a3 h4 a5 h7) k) 11 rfl rfl
      (repeat (first | refine g_sq ?_ | refine g_rg ?_ | refine g_r0 ?_ | refine g_ok rfl rfl ?_ | refine g_no rfl ?_ | refine g_no0 rfl ?_ | refine g_bk ?_ | refine g_b ?_ | refine g_sk ?_ | refine g_cT rfl ?_ | refine g_cF rfl ?_ | refine g_x rfl ?_ | refine g_lb ?_))
      refine ⟨rfl, _, _, hS, rfl, fun w2 hS => ?_⟩
      (repeat (first | refine g_sq ?_ | refine g_rg ?_ | refine g_r0 ?_ | refine g_ok rfl rfl ?_ | refine g_no rfl ?_ | refine g_no0 rfl ?_ | refine g_bk ?_ | refine g_b ?_ | refine g_sk ?_ | refine g_cT rfl ?_ | refine g_cF rfl ?_ | refine g_x rfl ?_ | refine g_lb ?_))
      refine g_l1 rfl rfl (hS.b  11 rfl) rfl ?_
      refine g_l1 rfl rfl (hS.b  7 rfl) rfl ?_
      have hS : St w (fun _ => False) w2 (ruM b g a2 a3 h4 a5 h7 ++ [cel b1 [sv s] 9, cel b3 [.int .i64 0] 3, _, _, _]) := hS
      obtain ⟨f, cap, e, hent, hcall⟩ := fvl_call hk (hg.in hS) (s := s) (fun hk0 => by
        have := hP 0 hk0
        simp only [rul, Bool.or_eq_false_iff, decide_eq_false_iff_not] at this
        omega) hS
      rw [e]
      refine g_ef rfl (ef_cv (vs := [sv s]) rfl rfl hent (hcall fun w2 hS => ?_))
      refine g_r0 ?_
      refine g_cd (t := rul k s) rfl (fun hr => ?_) (fun hr => ?_)
      · (repeat (first | refine g_sq ?_ | refine g_rg ?_ | refine g_r0 ?_ | refine g_ok rfl rfl ?_ | refine g_no rfl ?_ | refine g_no0 rfl ?_ | refine g_bk ?_ | refine g_b ?_ | refine g_sk ?_ | refine g_cT rfl ?_ | refine g_cF rfl ?_ | refine g_x rfl ?_ | refine g_lb ?_))
        refine g_l1 rfl rfl (hS.b  11 rfl) rfl ?_
        (repeat (first | refine g_sq ?_ | refine g_rg ?_ | refine g_r0 ?_ | refine g_ok rfl rfl ?_ | refine g_no rfl ?_ | refine g_no0 rfl ?_ | refine g_bk ?_ | refine g_b ?_ | refine g_sk ?_ | refine g_cT rfl ?_ | refine g_cF rfl ?_ | refine g_x rfl ?_ | refine g_lb ?_))
        refine g_ef0 rfl (ef_st hS 8 rfl rfl rfl rfl (Nat.le_of_ble_eq_true rfl) rfl fun w2 hS => ?_)
        refine g_r0 ?_
        refine g_xt (k_xo rfl ?_)
        refine ⟨_, _, hS, rfl, fun w2 hS => .inr ⟨rfl, ?_⟩⟩
        refine ⟨_, 10, _, _, hS, rfl, (fun h => nomatch h), fun w2 hS => ?_⟩
        refine k_xt rfl (g_jd ⟨rfl, trivial⟩ ⟨dB, rfl, ?_⟩)
        have e : brk s = k + 1 := by
          have := brkF_at s 8 0 k hk (fun j _ h2 => hP j (by omega)) (by rw [Nat.zero_add]; exact hr)
          rw [Nat.zero_add] at this
          exact this
        rw [e]
        exact hS.sel [8, 9] rfl rfl
      · (repeat (first | refine g_sq ?_ | refine g_rg ?_ | refine g_r0 ?_ | refine g_ok rfl rfl ?_ | refine g_no rfl ?_ | refine g_no0 rfl ?_ | refine g_bk ?_ | refine g_b ?_ | refine g_sk ?_ | refine g_cT rfl ?_ | refine g_cF rfl ?_ | refine g_x rfl ?_ | refine g_lb ?_))
        exact ⟨_, _, hS.sel [0, 1, 2, 3, 4, 5, 6, 7, 8, 9, 10] rfl rfl, rfl, fun w2 hS => .inl ⟨rfl, hr, hS⟩⟩
    · clear hS
      intro w2 hP hS
      refine ⟨_, 10, _, _, hS, rfl, (fun h => nomatch h), fun w2 hS => ?_⟩
      refine g_b (g_jd ⟨rfl, trivial⟩ ⟨dB, rfl, ?_⟩)
      have e : brk s = 0 := brkF_n s 8 0 fun j _ h2 => hP j (by omega)
      rw [e]
      exact hS.sel [8, 9] rfl rfl
  · clear hS
    rintro T D1 w1 hT ⟨dB, rfl, hS⟩
    refine g_wkc hT ?_
    (repeat (first | refine g_sq ?_ | refine g_rg ?_ | refine g_r0 ?_ | refine g_ok rfl rfl ?_ | refine g_no rfl ?_ | refine g_no0 rfl ?_ | refine g_bk ?_ | refine g_b ?_ | refine g_sk ?_ | refine g_cT rfl ?_ | refine g_cF rfl ?_ | refine g_x rfl ?_ | refine g_lb ?_))
    refine g_l1 rfl rfl (hS.b  0 rfl) rfl ?_
    (repeat (first | refine g_sq ?_ | refine g_rg ?_ | refine g_r0 ?_ | refine g_ok rfl rfl ?_ | refine g_no rfl ?_ | refine g_no0 rfl ?_ | refine g_bk ?_ | refine g_b ?_ | refine g_sk ?_ | refine g_cT rfl ?_ | refine g_cF rfl ?_ | refine g_x rfl ?_ | refine g_lb ?_))
    refine g_ret (q_dr hS 1 rfl fun w hS => q_1 rfl (h _ (hS.sel [] rfl rfl)))
/-- a name's error -/
def nmE (s : Bs) : Int := if brk s = 0 then 0 else 40
theorem b_Check (hg : Gl w) (h : ∀ w', St w (fun _ => False) w' [] → K (.int .i64 (nmE s)) w') : CK Tryd.prog 25 [sv s] w K := by
  refine call_k Tryd.func25 k25 Tryd.ntmps25 (Nat.le_of_ble_eq_true rfl) ?_
  (repeat (first | refine g_sq ?_ | refine g_rg ?_ | refine g_r0 ?_ | refine g_ok rfl rfl ?_ | refine g_no rfl ?_ | refine g_no0 rfl ?_ | refine g_bk ?_ | refine g_b ?_ | refine g_sk ?_ | refine g_cT rfl ?_ | refine g_cF rfl ?_ | refine g_x rfl ?_ | refine g_lb ?_))
  refine g_cl rfl rfl (b_Breaks hg fun w' hS => ?_)
  (repeat (first | refine g_sq ?_ | refine g_rg ?_ | refine g_r0 ?_ | refine g_ok rfl rfl ?_ | refine g_no rfl ?_ | refine g_no0 rfl ?_ | refine g_bk ?_ | refine g_b ?_ | refine g_sk ?_ | refine g_cT rfl ?_ | refine g_cF rfl ?_ | refine g_x rfl ?_ | refine g_lb ?_))
  (refine g_cd rfl (fun hc => ?_) (fun hc => ?_) <;> simp only [cmv, arv, Bool.not_eq_true', Bool.not_eq_false', decide_eq_true_eq, decide_eq_false_iff_not] at hc)
  · (repeat (first | refine g_sq ?_ | refine g_rg ?_ | refine g_r0 ?_ | refine g_ok rfl rfl ?_ | refine g_no rfl ?_ | refine g_no0 rfl ?_ | refine g_bk ?_ | refine g_b ?_ | refine g_sk ?_ | refine g_cT rfl ?_ | refine g_cF rfl ?_ | refine g_x rfl ?_ | refine g_lb ?_))
    have e : nmE s = 40 := by unfold nmE; rw [if_neg (by omega)]
    rw [e] at h
    exact g_ret (q_1 rfl (h _ hS))
  · (repeat (first | refine g_sq ?_ | refine g_rg ?_ | refine g_r0 ?_ | refine g_ok rfl rfl ?_ | refine g_no rfl ?_ | refine g_no0 rfl ?_ | refine g_bk ?_ | refine g_b ?_ | refine g_sk ?_ | refine g_cT rfl ?_ | refine g_cF rfl ?_ | refine g_x rfl ?_ | refine g_lb ?_))
    have e : nmE s = 0 := by unfold nmE; rw [if_pos (by omega)]
    rw [e] at h
    exact g_ret (q_1 rfl (h _ hS))
theorem c_Check (hg : Gl w) (hS : St w0 S0 w L) (h : ∀ w', St w0 S0 w' L → K (.int .i64 (nmE s)) w') : CK Tryd.prog 25 [sv s] w K :=
  b_Check hg fun w' h' => h w' (by have := hS.call0.2 _ _ h'; rwa [List.append_nil] at this)
end
end Go.Proofs.YtbdpcpafjphmpaaDoor
