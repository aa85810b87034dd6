/- Walks of the device: copies of rows; reads. -/
import Derived.Test.YtegjocpjmfaigaaWh
set_option linter.unusedSimpArgs false
set_option linter.unusedVariables false
namespace Go.Proofs.Ytegjocpjmfaigaa
open Go.En

section
variable {w w0 : World} {S0 S : Nat → Prop} {K : Value → World → Prop} {b : Nat} {D : Dev} {B L : List Res}
theorem b86 {v : Value} {E' n : Nat} {xs : List Value} (hr : Rd v E' 1 n xs w) (h1 : xs.all (·.oneCell') = true) (hn : n * 1 ≤ 140737488355328) (h : ∀ v' w', St w (fun _ => False) w' [row v' 5 1 n xs] → K v' w') : CK Try.prog 86 [v] w K := by
  refine call_k Try.func86 k86 Try.ntmps86 (Nat.le_of_ble_eq_true rfl) ?_
  have hf : (v = .slice none 0 0 ∧ n = 0 ∧ xs = []) ∨ ∃ a c, v = .slice (some a) n c := by
    rcases hr with ⟨⟨a, rfl⟩, rfl, rfl⟩ | ⟨b, off, cap, l, rfl, _⟩
    · cases a
      · exact .inl ⟨rfl, rfl, rfl⟩
      · exact .inr ⟨_, _, rfl⟩
    · exact .inr ⟨_, _, rfl⟩
  rcases hf with ⟨rfl, rfl, rfl⟩ | ⟨a, cap, rfl⟩
  · (repeat (first | refine g_sq ?_ | refine g_rg ?_ | refine g_r0 ?_ | refine g_ok rfl rfl ?_ | refine g_no rfl ?_ | refine g_no0 rfl ?_ | refine g_bk ?_ | refine g_b ?_ | refine g_sk ?_ | refine g_cT rfl ?_ | refine g_cF rfl ?_ | refine g_x rfl ?_ | refine g_lb ?_))
    exact g_ret (q_1 rfl (h _ _ ((St.nil w _).nilrow 5 1)))
  · (repeat (first | refine g_sq ?_ | refine g_rg ?_ | refine g_r0 ?_ | refine g_ok rfl rfl ?_ | refine g_no rfl ?_ | refine g_no0 rfl ?_ | refine g_bk ?_ | refine g_b ?_ | refine g_sk ?_ | refine g_cT rfl ?_ | refine g_cF rfl ?_ | refine g_x rfl ?_ | refine g_lb ?_))
    refine g_ef rfl (ef_bl (rs := []) (St.nil w (fun _ => False)) rfl fun b0 w1 hS => ?_)
    have hS := hS.close_row (sz := 1) (n := 0) (cap := 0) (l := []) (xs := []) 0 rfl (Nat.le_refl _) rfl List.nil_prefix rfl
    (repeat (first | refine g_sq ?_ | refine g_rg ?_ | refine g_r0 ?_ | refine g_ok rfl rfl ?_ | refine g_no rfl ?_ | refine g_no0 rfl ?_ | refine g_bk ?_ | refine g_b ?_ | refine g_sk ?_ | refine g_cT rfl ?_ | refine g_cF rfl ?_ | refine g_x rfl ?_ | refine g_lb ?_))
    refine g_ef rfl (ef_ap (n := 0) (m := n) (xs := []) (ys := xs) hS 0 rfl rfl rfl (.inl ⟨E', hS.ro (r := rdR _ E' 1 n xs) hr fun x hx => ⟨hr.lt x hx, fun h => h⟩⟩) h1 (by omega) (by omega) fun v' w1 hS => ?_)
    rw [Nat.zero_add] at hS
    (repeat (first | refine g_sq ?_ | refine g_rg ?_ | refine g_r0 ?_ | refine g_ok rfl rfl ?_ | refine g_no rfl ?_ | refine g_no0 rfl ?_ | refine g_bk ?_ | refine g_b ?_ | refine g_sk ?_ | refine g_cT rfl ?_ | refine g_cF rfl ?_ | refine g_x rfl ?_ | refine g_lb ?_))
    exact g_ret (q_1 rfl (h _ _ hS))
theorem c86 {v : Value} {E' n : Nat} {xs : List Value} (hS : St w0 S0 w L) (hr : Rd v E' 1 n xs w) (h1 : xs.all (·.oneCell') = true) (hn : n * 1 ≤ 140737488355328) (h : ∀ v' w', St w0 S0 w' (L ++ [row v' 5 1 n xs]) → K v' w') : CK Try.prog 86 [v] w K :=
  b86 hr h1 hn fun v' w' h' => h v' w' (hS.call0.2 w' _ h')
theorem b87 {v : Value} {E' n : Nat} {xs : List Value} (hr : Rd v E' 128 n xs w) (h1 : xs.all (·.oneCell') = true) (hn : n * 128 ≤ 140737488355328) (h : ∀ v' w', St w (fun _ => False) w' [row v' 122 128 n xs] → K v' w') : CK Try.prog 87 [v] w K := by
  refine call_k Try.func87 k87 Try.ntmps87 (Nat.le_of_ble_eq_true rfl) ?_
  have hf : (v = .slice none 0 0 ∧ n = 0 ∧ xs = []) ∨ ∃ a c, v = .slice (some a) n c := by
    rcases hr with ⟨⟨a, rfl⟩, rfl, rfl⟩ | ⟨b, off, cap, l, rfl, _⟩
    · cases a
      · exact .inl ⟨rfl, rfl, rfl⟩
      · exact .inr ⟨_, _, rfl⟩
    · exact .inr ⟨_, _, rfl⟩
  rcases hf with ⟨rfl, rfl, rfl⟩ | ⟨a, cap, rfl⟩
  · (repeat (first | refine g_sq ?_ | refine g_rg ?_ | refine g_r0 ?_ | refine g_ok rfl rfl ?_ | refine g_no rfl ?_ | refine g_no0 rfl ?_ | refine g_bk ?_ | refine g_b ?_ | refine g_sk ?_ | refine g_cT rfl ?_ | refine g_cF rfl ?_ | refine g_x rfl ?_ | refine g_lb ?_))
    exact g_ret (q_1 rfl (h _ _ ((St.nil w _).nilrow 122 128)))
  · (repeat (first | refine g_sq ?_ | refine g_rg ?_ | refine g_r0 ?_ | refine g_ok rfl rfl ?_ | refine g_no rfl ?_ | refine g_no0 rfl ?_ | refine g_bk ?_ | refine g_b ?_ | refine g_sk ?_ | refine g_cT rfl ?_ | refine g_cF rfl ?_ | refine g_x rfl ?_ | refine g_lb ?_))
    refine g_ef rfl (ef_bl (rs := []) (St.nil w (fun _ => False)) rfl fun b0 w1 hS => ?_)
    have hS := hS.close_row (sz := 128) (n := 0) (cap := 0) (l := []) (xs := []) 0 rfl (Nat.le_refl _) rfl List.nil_prefix rfl
    (repeat (first | refine g_sq ?_ | refine g_rg ?_ | refine g_r0 ?_ | refine g_ok rfl rfl ?_ | refine g_no rfl ?_ | refine g_no0 rfl ?_ | refine g_bk ?_ | refine g_b ?_ | refine g_sk ?_ | refine g_cT rfl ?_ | refine g_cF rfl ?_ | refine g_x rfl ?_ | refine g_lb ?_))
    refine g_ef rfl (ef_ap (n := 0) (m := n) (xs := []) (ys := xs) hS 0 rfl rfl rfl (.inl ⟨E', hS.ro (r := rdR _ E' 128 n xs) hr fun x hx => ⟨hr.lt x hx, fun h => h⟩⟩) h1 (by omega) (by omega) fun v' w1 hS => ?_)
    rw [Nat.zero_add] at hS
    (repeat (first | refine g_sq ?_ | refine g_rg ?_ | refine g_r0 ?_ | refine g_ok rfl rfl ?_ | refine g_no rfl ?_ | refine g_no0 rfl ?_ | refine g_bk ?_ | refine g_b ?_ | refine g_sk ?_ | refine g_cT rfl ?_ | refine g_cF rfl ?_ | refine g_x rfl ?_ | refine g_lb ?_))
    exact g_ret (q_1 rfl (h _ _ hS))
theorem c87 {v : Value} {E' n : Nat} {xs : List Value} (hS : St w0 S0 w L) (hr : Rd v E' 128 n xs w) (h1 : xs.all (·.oneCell') = true) (hn : n * 128 ≤ 140737488355328) (h : ∀ v' w', St w0 S0 w' (L ++ [row v' 122 128 n xs]) → K v' w') : CK Try.prog 87 [v] w K :=
  b87 hr h1 hn fun v' w' h' => h v' w' (hS.call0.2 w' _ h')
theorem b88 {v : Value} {E' n : Nat} {xs : List Value} (hr : Rd v E' 129 n xs w) (h1 : xs.all (·.oneCell') = true) (hn : n * 136 ≤ 140737488355328) (h : ∀ v' w', St w (fun _ => False) w' [row v' 124 129 n xs] → K v' w') : CK Try.prog 88 [v] w K := by
  refine call_k Try.func88 k88 Try.ntmps88 (Nat.le_of_ble_eq_true rfl) ?_
  have hf : (v = .slice none 0 0 ∧ n = 0 ∧ xs = []) ∨ ∃ a c, v = .slice (some a) n c := by
    rcases hr with ⟨⟨a, rfl⟩, rfl, rfl⟩ | ⟨b, off, cap, l, rfl, _⟩
    · cases a
      · exact .inl ⟨rfl, rfl, rfl⟩
      · exact .inr ⟨_, _, rfl⟩
    · exact .inr ⟨_, _, rfl⟩
  rcases hf with ⟨rfl, rfl, rfl⟩ | ⟨a, cap, rfl⟩
  · (repeat (first | refine g_sq ?_ | refine g_rg ?_ | refine g_r0 ?_ | refine g_ok rfl rfl ?_ | refine g_no rfl ?_ | refine g_no0 rfl ?_ | refine g_bk ?_ | refine g_b ?_ | refine g_sk ?_ | refine g_cT rfl ?_ | refine g_cF rfl ?_ | refine g_x rfl ?_ | refine g_lb ?_))
    exact g_ret (q_1 rfl (h _ _ ((St.nil w _).nilrow 124 129)))
  · (repeat (first | refine g_sq ?_ | refine g_rg ?_ | refine g_r0 ?_ | refine g_ok rfl rfl ?_ | refine g_no rfl ?_ | refine g_no0 rfl ?_ | refine g_bk ?_ | refine g_b ?_ | refine g_sk ?_ | refine g_cT rfl ?_ | refine g_cF rfl ?_ | refine g_x rfl ?_ | refine g_lb ?_))
    refine g_ef rfl (ef_bl (rs := []) (St.nil w (fun _ => False)) rfl fun b0 w1 hS => ?_)
    have hS := hS.close_row (sz := 129) (n := 0) (cap := 0) (l := []) (xs := []) 0 rfl (Nat.le_refl _) rfl List.nil_prefix rfl
    (repeat (first | refine g_sq ?_ | refine g_rg ?_ | refine g_r0 ?_ | refine g_ok rfl rfl ?_ | refine g_no rfl ?_ | refine g_no0 rfl ?_ | refine g_bk ?_ | refine g_b ?_ | refine g_sk ?_ | refine g_cT rfl ?_ | refine g_cF rfl ?_ | refine g_x rfl ?_ | refine g_lb ?_))
    refine g_ef rfl (ef_ap (n := 0) (m := n) (xs := []) (ys := xs) hS 0 rfl rfl rfl (.inl ⟨E', hS.ro (r := rdR _ E' 129 n xs) hr fun x hx => ⟨hr.lt x hx, fun h => h⟩⟩) h1 (by omega) (by omega) fun v' w1 hS => ?_)
    rw [Nat.zero_add] at hS
    (repeat (first | refine g_sq ?_ | refine g_rg ?_ | refine g_r0 ?_ | refine g_ok rfl rfl ?_ | refine g_no rfl ?_ | refine g_no0 rfl ?_ | refine g_bk ?_ | refine g_b ?_ | refine g_sk ?_ | refine g_cT rfl ?_ | refine g_cF rfl ?_ | refine g_x rfl ?_ | refine g_lb ?_))
    exact g_ret (q_1 rfl (h _ _ hS))
theorem c88 {v : Value} {E' n : Nat} {xs : List Value} (hS : St w0 S0 w L) (hr : Rd v E' 129 n xs w) (h1 : xs.all (·.oneCell') = true) (hn : n * 136 ≤ 140737488355328) (h : ∀ v' w', St w0 S0 w' (L ++ [row v' 124 129 n xs]) → K v' w') : CK Try.prog 88 [v] w K :=
  b88 hr h1 hn fun v' w' h' => h v' w' (hS.call0.2 w' _ h')

theorem spl_all {l vs : List Value} (h : vs.length = l.length) : spl l 0 vs = vs := by simp [spl, h]
theorem bys_len {bs : List UInt8} (h : bs.length = 128) : (bys bs).length = 128 := by rw [bys_length]; exact h
/-- what is read of a block: the last write that waits, or its bytes -/
def Dev.rdK (D : Dev) (i : Int) (k : Nat) : List UInt8 := (D.waits.take k).foldl (fun c x => if x.1 = i then x.2 else c) (D.cells.getD i.toNat [])
def Dev.rd (D : Dev) (i : Int) : List UInt8 := D.waits.foldl (fun c x => if x.1 = i then x.2 else c) (D.cells.getD i.toNat [])
theorem Dev.rdK_step {D : Dev} {i : Int} {k : Nat} {x : Int × List UInt8} (hx : D.waits[k]? = some x) : D.rdK i (k + 1) = if x.1 = i then x.2 else D.rdK i k := by
  unfold Dev.rdK
  rw [List.take_add_one, hx, List.foldl_append]
  rfl
theorem Dev.rdK_len {D : Dev} (hw : D.wf) {i : Int} (hi : 0 ≤ i ∧ i < D.cells.length) : ∀ k, (D.rdK i k).length = 128
  | 0 => by
    have hlt : i.toNat < D.cells.length := by omega
    show (D.cells.getD i.toNat []).length = 128
    rw [List.getD_eq_getElem?_getD, List.getElem?_eq_getElem hlt]
    exact hw.2.1 _ (List.getElem_mem hlt)
  | k + 1 => by
    by_cases h : k < D.waits.length
    · rw [Dev.rdK_step (List.getElem?_eq_getElem h)]
      split
      · exact (hw.2.2.1 _ (List.getElem_mem h)).1
      · exact Dev.rdK_len hw hi k
    · have : D.rdK i (k + 1) = D.rdK i k := by unfold Dev.rdK; rw [List.take_of_length_le (by omega), List.take_of_length_le (by omega)]
      rw [this]; exact Dev.rdK_len hw hi k
set_option maxRecDepth 100000 in
theorem b33 {i : Int} (hS : St w0 S0 w [DevR S b D]) (h1 : D.down = true → K (.tuple ⟨[.slice none 0 0, .int .i64 141]⟩) w) (h2 : D.down = false → ¬ (0 ≤ i ∧ i < D.cells.length) → K (.tuple ⟨[.slice none 0 0, .int .i64 140]⟩) w)
    (h3 : D.down = false → (0 ≤ i ∧ i < D.cells.length) → ∀ w' S' v', St w0 S0 w' [DevR S' b D, row v' 5 1 128 (bys (D.rd i))] → K (.tuple ⟨[v', .int .i64 0]⟩) w') : CK Try.prog 33 [dp b, .int .i64 i] w K := by
  refine call_k Try.func33 k33 Try.ntmps33 (Nat.le_of_ble_eq_true rfl) ?_
  (repeat (first | refine g_sq ?_ | refine g_rg ?_ | refine g_r0 ?_ | refine g_ok rfl rfl ?_ | refine g_no rfl ?_ | refine g_no0 rfl ?_ | refine g_bk ?_ | refine g_b ?_ | refine g_sk ?_ | refine g_cT rfl ?_ | refine g_cF rfl ?_ | refine g_x rfl ?_ | refine g_lb ?_))
  refine g_cl rfl rfl (d78' hS ?_)
  generalize hd : D.down = dn at h1 h2 h3
  cases dn
  · simp only [Bool.false_eq_true, if_false]
    (repeat (first | refine g_sq ?_ | refine g_rg ?_ | refine g_r0 ?_ | refine g_ok rfl rfl ?_ | refine g_no rfl ?_ | refine g_no0 rfl ?_ | refine g_bk ?_ | refine g_b ?_ | refine g_sk ?_ | refine g_cT rfl ?_ | refine g_cF rfl ?_ | refine g_x rfl ?_ | refine g_lb ?_))
    obtain ⟨hw, bc, nc, cap, a, c, en, hB⟩ := DevR.blk hS
    refine g_cl rfl rfl (d79 hB ?_)
    rw [← en]
    clear hB en
    (repeat (first | refine g_sq ?_ | refine g_rg ?_ | refine g_r0 ?_ | refine g_ok rfl rfl ?_ | refine g_no rfl ?_ | refine g_no0 rfl ?_ | refine g_bk ?_ | refine g_b ?_ | refine g_sk ?_ | refine g_cT rfl ?_ | refine g_cF rfl ?_ | refine g_x rfl ?_ | refine g_lb ?_))
    generalize hin : decide (0 ≤ i ∧ i < (D.cells.length : Int)) = iin
    cases iin
    all_goals simp only [decide_eq_true_eq, decide_eq_false_iff_not] at hin
    · (repeat (first | refine g_sq ?_ | refine g_rg ?_ | refine g_r0 ?_ | refine g_ok rfl rfl ?_ | refine g_no rfl ?_ | refine g_no0 rfl ?_ | refine g_bk ?_ | refine g_b ?_ | refine g_sk ?_ | refine g_cT rfl ?_ | refine g_cF rfl ?_ | refine g_x rfl ?_ | refine g_lb ?_))
      exact g_ret (q_2 rfl rfl (h2 rfl hin))
    · obtain ⟨_, bc, cap, rest, a, c, hc1, hc2, hS⟩ := DevR.opn hS
      have hlt : i.toNat < D.cells.length := by omega
      (repeat (first | refine g_sq ?_ | refine g_rg ?_ | refine g_r0 ?_ | refine g_ok rfl rfl ?_ | refine g_no rfl ?_ | refine g_no0 rfl ?_ | refine g_bk ?_ | refine g_b ?_ | refine g_sk ?_ | refine g_cT rfl ?_ | refine g_cF rfl ?_ | refine g_x rfl ?_ | refine g_lb ?_))
      refine g_l1 rfl rfl (hS.b  0 rfl) rfl ?_
      (repeat (first | refine g_sq ?_ | refine g_rg ?_ | refine g_r0 ?_ | refine g_ok rfl rfl ?_ | refine g_no rfl ?_ | refine g_no0 rfl ?_ | refine g_bk ?_ | refine g_b ?_ | refine g_sk ?_ | refine g_cT rfl ?_ | refine g_cF rfl ?_ | refine g_x rfl ?_ | refine g_lb ?_))
      refine g_rq rfl rfl hin ?_
      have hfl := flat_get (ls := D.cells.map bys) (k := 128) (i := i.toNat) (fun l hl => by simp only [List.mem_map] at hl; obtain ⟨c, hcm, rfl⟩ := hl; simpa using hw.2.1 c hcm) (by simpa using hlt) rest
      have e0 : List.take 128 (List.drop (0 + i.toNat * 128) (fc D.cells ++ rest)) = bys (D.rdK i 0) := by
        rw [Nat.zero_add, fc, hfl, Dev.rdK]
        simp [List.getD_eq_getElem?_getD, List.getElem?_eq_getElem hlt]
      have l0 := Dev.rdK_len hw hin 0
      refine g_lm rfl rfl (hS.b 1 rfl) ?_ ?_
      · rw [List.length_append, fc_len hw.2.1]; omega
      rw [e0]
      refine g_ef rfl (ef_al hS fun g w hS => ?_)
      refine g_ef0 rfl (ef_st hS 3 rfl rfl rfl (bys_len l0) (by simp [zx]) (bys_one _) fun w hS => ?_)
      have hS := hS.ceq (l' := bys (D.rdK i 0)) 3 rfl (spl_all ((bys_len l0).trans (by simp [zx])))
      (repeat (first | refine g_sq ?_ | refine g_rg ?_ | refine g_r0 ?_ | refine g_ok rfl rfl ?_ | refine g_no rfl ?_ | refine g_no0 rfl ?_ | refine g_bk ?_ | refine g_b ?_ | refine g_sk ?_ | refine g_cT rfl ?_ | refine g_cF rfl ?_ | refine g_x rfl ?_ | refine g_lb ?_))
      refine g_l1 rfl rfl (hS.b  0 rfl) rfl ?_
      (repeat (first | refine g_sq ?_ | refine g_rg ?_ | refine g_r0 ?_ | refine g_ok rfl rfl ?_ | refine g_no rfl ?_ | refine g_no0 rfl ?_ | refine g_bk ?_ | refine g_b ?_ | refine g_sk ?_ | refine g_cT rfl ?_ | refine g_cF rfl ?_ | refine g_x rfl ?_ | refine g_lb ?_))
      have hwl := hw.2.2.2
      refine g_at 2 [(7, dp g)] (fun w => St w0 S0 w [cel b (DevC (.slice (some ⟨bc, 0, none⟩) D.cells.length cap) (.slice a D.waits.length c) D) 65, cel bc (fc D.cells ++ rest) 122, row (.slice a D.waits.length c) 124 129 D.waits.length (fw D.waits), cel g (bys (D.rd i)) 122]) rfl ?_ ?_
      · (repeat (first | refine g_sq ?_ | refine g_rg ?_ | refine g_r0 ?_ | refine g_ok rfl rfl ?_ | refine g_no rfl ?_ | refine g_no0 rfl ?_ | refine g_bk ?_ | refine g_b ?_ | refine g_sk ?_ | refine g_cT rfl ?_ | refine g_cF rfl ?_ | refine g_x rfl ?_ | refine g_lb ?_))
        refine g_lp (ι := Nat) (fun k => [(1, .int .i64 i), (7, dp g), (29, .slice a D.waits.length c), (30, .int .i64 D.waits.length), (31, .int .i64 k)])
          (fun k w => k ≤ D.waits.length ∧ St w0 S0 w [cel b (DevC (.slice (some ⟨bc, 0, none⟩) D.cells.length cap) (.slice a D.waits.length c) D) 65, cel bc (fc D.cells ++ rest) 122, row (.slice a D.waits.length c) 124 129 D.waits.length (fw D.waits), cel g (bys (D.rdK i k)) 122]) (fun k => D.waits.length - k) 0 ⟨rfl, rfl, rfl, rfl, rfl, trivial⟩ ⟨Nat.zero_le _, hS⟩ ?_
        clear hS
        rintro k w ⟨hk, hS⟩
        (repeat (first | refine g_sq ?_ | refine g_rg ?_ | refine g_r0 ?_ | refine g_ok rfl rfl ?_ | refine g_no rfl ?_ | refine g_no0 rfl ?_ | refine g_bk ?_ | refine g_b ?_ | refine g_sk ?_ | refine g_cT rfl ?_ | refine g_cF rfl ?_ | refine g_x rfl ?_ | refine g_lb ?_))
        refine g_cd rfl (fun hc => ?_) (fun hc => ?_)
        all_goals simp only [cmv, decide_eq_true_eq, decide_eq_false_iff_not] at hc
        · have hlt : k < D.waits.length := by omega
          have hx : D.waits[k]? = some D.waits[k] := List.getElem?_eq_getElem hlt
          have hxw := hw.2.2.1 _ (List.getElem_mem hlt)
          have hst := Dev.rdK_step (i := i) hx
          have hrl := Dev.rdK_len hw hin k
          generalize D.waits[k] = x at hx hxw hst
          obtain ⟨a', m', c', hv⟩ := hS.rowb 2 rfl (by omega)
          cases hv
          rcases hS.ok 2 _ rfl with ⟨hv, _⟩ | ⟨bw, capw, restw, hv, hcap, hxl, hl, hB⟩
          · cases hv
          cases hv
          (repeat (first | refine g_sq ?_ | refine g_rg ?_ | refine g_r0 ?_ | refine g_ok rfl rfl ?_ | refine g_no rfl ?_ | refine g_no0 rfl ?_ | refine g_bk ?_ | refine g_b ?_ | refine g_sk ?_ | refine g_cT rfl ?_ | refine g_cF rfl ?_ | refine g_x rfl ?_ | refine g_lb ?_))
          refine g_rq rfl rfl ⟨by omega, by omega⟩ ?_
          refine g_lm rfl rfl hB ?_ ?_
          · show 0 + k * 129 + 129 ≤ _
            rw [hl]
            omega
          have e : List.take 129 (List.drop (0 + k * 129) (fw D.waits ++ restw)) = wv x := by
            rw [Nat.zero_add, fw, flat_get (wv_flat fun x hx => (hw.2.2.1 x hx).1) (by simpa using hlt)]
            have := (List.getElem?_eq_some_iff.1 hx).2
            simp [this]
          rw [show ((k : Int).toNat) = k from rfl, e]
          refine g_ef rfl (ef_al hS fun g9 w hS => ?_)
          refine g_ef0 rfl (ef_st hS 4 rfl rfl rfl (wv_len hxw.1) (by simp [zx]) (wv_one _) fun w hS => ?_)
          have hS := hS.ceq 4 rfl (spl_wv hxw.1)
          (repeat (first | refine g_sq ?_ | refine g_rg ?_ | refine g_r0 ?_ | refine g_ok rfl rfl ?_ | refine g_no rfl ?_ | refine g_no0 rfl ?_ | refine g_bk ?_ | refine g_b ?_ | refine g_sk ?_ | refine g_cT rfl ?_ | refine g_cF rfl ?_ | refine g_x rfl ?_ | refine g_lb ?_))
          refine g_l1 rfl rfl (hS.b  4 rfl) rfl ?_
          (repeat (first | refine g_sq ?_ | refine g_rg ?_ | refine g_r0 ?_ | refine g_ok rfl rfl ?_ | refine g_no rfl ?_ | refine g_no0 rfl ?_ | refine g_bk ?_ | refine g_b ?_ | refine g_sk ?_ | refine g_cT rfl ?_ | refine g_cF rfl ?_ | refine g_x rfl ?_ | refine g_lb ?_))
          refine g_at 1 [(1, .int .i64 i), (7, dp g), (29, .slice (some ⟨bw, 0, none⟩) D.waits.length c), (30, .int .i64 D.waits.length), (31, .int .i64 k)] (fun w => St w0 S0 w [cel b (DevC (.slice (some ⟨bc, 0, none⟩) D.cells.length cap) (.slice (some ⟨bw, 0, none⟩) D.waits.length c) D) 65, cel bc (fc D.cells ++ rest) 122, row (.slice (some ⟨bw, 0, none⟩) D.waits.length c) 124 129 D.waits.length (fw D.waits), cel g (bys (D.rdK i (k + 1))) 122]) rfl ?_ ?_
          · refine g_cd rfl (fun hq => ?_) (fun hq => ?_)
            all_goals simp only [cmv, decide_eq_true_eq, decide_eq_false_iff_not] at hq
            · rw [if_pos hq] at hst
              (repeat (first | refine g_sq ?_ | refine g_rg ?_ | refine g_r0 ?_ | refine g_ok rfl rfl ?_ | refine g_no rfl ?_ | refine g_no0 rfl ?_ | refine g_bk ?_ | refine g_b ?_ | refine g_sk ?_ | refine g_cT rfl ?_ | refine g_cF rfl ?_ | refine g_x rfl ?_ | refine g_lb ?_))
              have h128 : List.take 128 (List.drop (0 + 1) (wv x)) = bys x.2 := by
                have := hxw.1
                simp only [wv, Nat.zero_add, List.drop_succ_cons, List.drop_zero]
                rw [List.take_of_length_le (by simp [this])]
              refine g_lm rfl rfl (hS.b 4 rfl) (by rw [wv_len hxw.1]; decide) ?_
              rw [h128]
              refine g_ef0 rfl (ef_st hS 3 rfl rfl rfl (bys_len hxw.1) (by rw [bys_len hrl]; decide) (bys_one _) fun w hS => ?_)
              have hS := hS.ceq (l' := bys (D.rdK i (k + 1))) 3 rfl (by rw [hst]; exact spl_all ((bys_len hxw.1).trans (bys_len hrl).symm))
              refine g_r0 (g_j ⟨rfl, rfl, rfl, rfl, rfl, trivial⟩ (hS.sel [0, 1, 2, 3] rfl rfl))
            · rw [if_neg hq] at hst
              refine g_sk (g_j ⟨rfl, rfl, rfl, rfl, rfl, trivial⟩ ?_)
              rw [hst]
              exact hS.sel [0, 1, 2, 3] rfl rfl
          · clear hS
            intro T w hT hS
            refine g_b (g_wkc hT ?_)
            (repeat (first | refine g_sq ?_ | refine g_rg ?_ | refine g_r0 ?_ | refine g_ok rfl rfl ?_ | refine g_no rfl ?_ | refine g_no0 rfl ?_ | refine g_bk ?_ | refine g_b ?_ | refine g_sk ?_ | refine g_cT rfl ?_ | refine g_cF rfl ?_ | refine g_x rfl ?_ | refine g_lb ?_))
            refine g_rq rfl rfl (in64 (by simp only [arv]; omega)) ?_
            (repeat (first | refine g_sq ?_ | refine g_rg ?_ | refine g_r0 ?_ | refine g_ok rfl rfl ?_ | refine g_no rfl ?_ | refine g_no0 rfl ?_ | refine g_bk ?_ | refine g_b ?_ | refine g_sk ?_ | refine g_cT rfl ?_ | refine g_cF rfl ?_ | refine g_x rfl ?_ | refine g_lb ?_))
            exact g_l (k + 1) ⟨rfl, rfl, rfl, rfl, rfl, trivial⟩ ⟨by omega, hS⟩ (by omega)
        · have : k = D.waits.length := by omega
          subst this
          (repeat (first | refine g_sq ?_ | refine g_rg ?_ | refine g_r0 ?_ | refine g_ok rfl rfl ?_ | refine g_no rfl ?_ | refine g_no0 rfl ?_ | refine g_bk ?_ | refine g_b ?_ | refine g_sk ?_ | refine g_cT rfl ?_ | refine g_cF rfl ?_ | refine g_x rfl ?_ | refine g_lb ?_))
          refine g_j ⟨rfl, trivial⟩ ?_
          have : D.rd i = D.rdK i D.waits.length := by rw [Dev.rdK, List.take_length]; rfl
          rw [this]
          exact hS
      · clear hS
        intro T w hT hS
        refine g_wkc hT ?_
        have hrl : (D.rd i).length = 128 := by
          have := Dev.rdK_len hw hin D.waits.length
          rw [Dev.rdK, List.take_length] at this
          exact this
        have ht : List.take 128 (List.drop 0 (bys (D.rd i))) = bys (D.rd i) := by rw [List.drop_zero, List.take_of_length_le (by simp [hrl])]
        (repeat (first | refine g_sq ?_ | refine g_rg ?_ | refine g_r0 ?_ | refine g_ok rfl rfl ?_ | refine g_no rfl ?_ | refine g_no0 rfl ?_ | refine g_bk ?_ | refine g_b ?_ | refine g_sk ?_ | refine g_cT rfl ?_ | refine g_cF rfl ?_ | refine g_x rfl ?_ | refine g_lb ?_))
        refine g_lm rfl rfl (hS.b 3 rfl) (by simp [hrl]) ?_
        rw [ht]
        refine g_ok (v := .agg ⟨bys (List.replicate 128 0)⟩) rfl rfl ?_
        refine g_aq (D.rd i) (List.replicate 128 0) rfl rfl rfl hrl List.length_replicate ?_
        refine g_r0 ?_
        refine g_cd rfl (fun hq => ?_) (fun hq => ?_)
        all_goals simp only [aqv, decide_eq_true_eq, decide_eq_false_iff_not] at hq
        · (repeat (first | refine g_sq ?_ | refine g_rg ?_ | refine g_r0 ?_ | refine g_ok rfl rfl ?_ | refine g_no rfl ?_ | refine g_no0 rfl ?_ | refine g_bk ?_ | refine g_b ?_ | refine g_sk ?_ | refine g_cT rfl ?_ | refine g_cF rfl ?_ | refine g_x rfl ?_ | refine g_lb ?_))
          refine g_ef rfl (ef_ms hS rfl rfl (by decide) (by decide) (by decide) (by decide) fun b1 w hS => ?_)
          (repeat (first | refine g_sq ?_ | refine g_rg ?_ | refine g_r0 ?_ | refine g_ok rfl rfl ?_ | refine g_no rfl ?_ | refine g_no0 rfl ?_ | refine g_bk ?_ | refine g_b ?_ | refine g_sk ?_ | refine g_cT rfl ?_ | refine g_cF rfl ?_ | refine g_x rfl ?_ | refine g_lb ?_))
          refine g_ret (q_2 rfl rfl ?_)
          have e : rep (Int.toNat 128) [(1, Value.int .u8 0)] = bys (D.rd i) := by
            rw [hq, rep_byte, ← bys_rep]; rfl
          have hS := hS.ceq 4 rfl e
          have hS := hS.close_row (sz := 1) (n := 128) (cap := 128) 4 rfl (Nat.le_refl _) (bys_len hrl) (List.prefix_refl _) (bys_len hrl)
          have hS := hS.sel [0, 1, 2, 4] rfl rfl
          obtain ⟨S', hS⟩ := DevR.cls' (B := [_]) hw hc1 hc2 hS
          exact h3 rfl hin _ _ _ hS
        · (repeat (first | refine g_sq ?_ | refine g_rg ?_ | refine g_r0 ?_ | refine g_ok rfl rfl ?_ | refine g_no rfl ?_ | refine g_no0 rfl ?_ | refine g_bk ?_ | refine g_b ?_ | refine g_sk ?_ | refine g_cT rfl ?_ | refine g_cF rfl ?_ | refine g_x rfl ?_ | refine g_lb ?_))
          refine g_rq rfl rfl ⟨Int.le_refl _, by decide, by decide⟩ ?_
          refine g_cl rfl rfl (c86 (n := 128) (xs := bys (D.rd i)) (E' := 122) hS (.inr ⟨g, 0, 128, _, rfl, Nat.le_refl _, ?_, ht, (hS.b 3 rfl).r⟩) (bys_one _) (by decide) fun v' w hS => ?_)
          · rw [bys_len hrl]; decide
          (repeat (first | refine g_sq ?_ | refine g_rg ?_ | refine g_r0 ?_ | refine g_ok rfl rfl ?_ | refine g_no rfl ?_ | refine g_no0 rfl ?_ | refine g_bk ?_ | refine g_b ?_ | refine g_sk ?_ | refine g_cT rfl ?_ | refine g_cF rfl ?_ | refine g_x rfl ?_ | refine g_lb ?_))
          refine g_ret (q_2 rfl rfl ?_)
          have hS := hS.sel [0, 1, 2, 4] rfl rfl
          obtain ⟨S', hS⟩ := DevR.cls' (B := [_]) hw hc1 hc2 hS
          exact h3 rfl hin _ _ _ hS
  · simp only [if_true]
    (repeat (first | refine g_sq ?_ | refine g_rg ?_ | refine g_r0 ?_ | refine g_ok rfl rfl ?_ | refine g_no rfl ?_ | refine g_no0 rfl ?_ | refine g_bk ?_ | refine g_b ?_ | refine g_sk ?_ | refine g_cT rfl ?_ | refine g_cF rfl ?_ | refine g_x rfl ?_ | refine g_lb ?_))
    exact g_ret (q_2 rfl rfl (h1 rfl))
end
end Go.Proofs.Ytegjocpjmfaigaa
