/- The journal is opened: the groups of an area, in order. -/
import Derived.Test.YtegjocpjmfaigaaJj
set_option linter.unusedSimpArgs false
set_option linter.unusedVariables false
namespace Go.Proofs.Ytegjocpjmfaigaa
open Go.En

def opn (ar : List (List UInt8)) : Nat → Nat → List Grp → List Grp
  | 0, _, acc => acc
  | f + 1, i, acc => match stand (ar.drop i) [] 0 with
    | none => acc
    | some g => if g.n ≤ lastOf acc then acc else opn ar f (i + g.many) (acc ++ [g])
def opened (ar : List (List UInt8)) : List Grp := opn ar (ar.length + 1) 0 []
theorem stand_ok : ∀ (l : List (List UInt8)) (inn : List UInt8) (k : Nat) (g : Grp), inn.length ≤ 119 * k → (∀ b ∈ l, b.length = 128) → stand l inn k = some g → g.many ≤ k + l.length ∧ (1 ≤ g.n ∧ g.n ≤ maxN) ∧ g.b.length ≤ 119 * (k + l.length)
  | [], _, _, _, _, _, h => by simp [stand] at h
  | b :: r, inn, k, g, hi, hl, h => by
    rw [stand_cons] at h
    split at h
    · have := stand_ok r _ (k + 1) g (by rw [List.length_append, List.length_take, List.length_drop]; have := hl b List.mem_cons_self; omega) (fun c hc => hl c (List.mem_cons_of_mem _ hc)) h
      rw [List.length_cons]
      omega
    · split at h
      · cases h
      · split at h
        · cases h
        · rename_i hn
          split at h
          · cases h
            have hb : (inn.take (numB ((b.drop 9).take 4))).length = numB ((b.drop 9).take 4) := by rw [List.length_take]; omega
            refine ⟨?_, ⟨by show 1 ≤ numB _; omega, by show numB _ ≤ maxN; omega⟩, ?_⟩
            · show blk (inn.take (numB ((b.drop 9).take 4))).length ≤ _
              rw [hb, List.length_cons]; omega
            · show (inn.take (numB ((b.drop 9).take 4))).length ≤ _
              rw [hb, List.length_cons]; omega
          · cases h
/-- reached: what has been found is a beginning of what there is -/
def Rch (ar : List (List UInt8)) (acc : List Grp) : Prop := ∃ f, ar.length + 1 ≤ f + usedOf acc ∧ usedOf acc ≤ ar.length ∧ opn ar f (usedOf acc) acc = opened ar
theorem Rch.nil (ar : List (List UInt8)) : Rch ar [] := ⟨ar.length + 1, by simp, Nat.zero_le _, rfl⟩
theorem Rch.succ {ar : List (List UInt8)} {acc : List Grp} (h : Rch ar acc) : ∃ f, ar.length ≤ f + usedOf acc ∧ usedOf acc ≤ ar.length ∧ opn ar (f + 1) (usedOf acc) acc = opened ar := by
  obtain ⟨f, h1, h2, h3⟩ := h
  cases f with
  | zero => omega
  | succ f => exact ⟨f, by omega, h2, h3⟩
theorem Rch.none {ar : List (List UInt8)} {acc : List Grp} (h : Rch ar acc) (hs : stand (ar.drop (usedOf acc)) [] 0 = none) : acc = opened ar := by
  obtain ⟨f, _, _, h3⟩ := h.succ
  rw [← h3, opn, hs]
theorem Rch.low {ar : List (List UInt8)} {acc : List Grp} {g : Grp} (h : Rch ar acc) (hs : stand (ar.drop (usedOf acc)) [] 0 = some g) (hn : g.n ≤ lastOf acc) : acc = opened ar := by
  obtain ⟨f, _, _, h3⟩ := h.succ
  rw [← h3, opn, hs]
  simp only
  rw [if_pos hn]
theorem Rch.step {ar : List (List UInt8)} {acc : List Grp} {g : Grp} (h : Rch ar acc) (ha : ∀ b ∈ ar, b.length = 128) (hs : stand (ar.drop (usedOf acc)) [] 0 = some g) (hn : ¬ g.n ≤ lastOf acc) : Rch ar (acc ++ [g]) := by
  obtain ⟨f, h1, h2, h3⟩ := h.succ
  have hk := (stand_ok _ _ _ _ (Nat.zero_le _) (fun b hb => ha b (List.mem_of_mem_drop hb)) hs).1
  rw [List.length_drop] at hk
  have hu : usedOf (acc ++ [g]) = usedOf acc + g.many := by rw [usedOf_app]; simp [usedOf]
  have hp : 1 ≤ g.many := blk_pos _
  rw [opn, hs] at h3
  simp only at h3
  rw [if_neg hn] at h3
  exact ⟨f, by omega, by omega, by rw [hu]; exact h3⟩
theorem area_mem {D : Dev} {fr bk : Nat} (hw : D.wf) (hF : Fine D fr bk) : ∀ b ∈ area D fr bk, b.length = 128 := by
  intro b hb
  simp only [area, List.mem_map, List.mem_range] at hb
  obtain ⟨k, hk, rfl⟩ := hb
  exact rd_len hw ⟨by omega, by have := hF.2; omega⟩
section
variable {w w0 : World} {S0 S S1 : Nat → Prop} {K : Value → World → Prop} {jb d fr bk l : Nat} {J : Jou} {D : Dev} {B L : List Res} {vl v : Value} {Z : GZ}
/-- the iterator: each group is handed over, till the other one has enough -/
theorem d112 {b1 : Nat} {Y : List Res} (hb4 : bk ≤ 4096) (hF : Fine D fr bk) (hS : St w0 S0 w (JouR S jb d fr bk ⟨[], 0, false⟩ :: DevR S1 d D :: cel b1 [dp jb] 67 :: Y))
    (hy : ∀ (acc : List Grp) (g : Grp) (w : World) (S S1 : Nat → Prop) (v' : Value) (g4 : Nat), Rch (area D fr bk) acc → stand ((area D fr bk).drop (usedOf acc)) [] 0 = some g →
      St w0 S0 w (JouR S jb d fr bk ⟨acc, 0, false⟩ :: DevR S1 d D :: row v' 5 1 g.b.length (bys g.b) :: cel g4 (gv1 (g, v')) 134 :: cel b1 [dp jb] 67 :: Y) →
      Yd Try.prog l [.agg ⟨gv1 (g, v')⟩] w fun v w' => (v = .bool true ∧ ¬ g.n ≤ lastOf acc ∧ ∃ S S1, St w0 S0 w' (JouR S jb d fr bk ⟨acc ++ [g], 0, false⟩ :: DevR S1 d D :: cel g4 (gv1 (g, v')) 134 :: cel b1 [dp jb] 67 :: Y)) ∨ (v = .bool false ∧ K (.tuple ⟨[]⟩) w'))
    (he : ∀ (acc : List Grp) (w : World) (S S1 : Nat → Prop), acc = opened (area D fr bk) → St w0 S0 w (JouR S jb d fr bk ⟨acc, 0, false⟩ :: DevR S1 d D :: cel b1 [dp jb] 67 :: Y) → K (.tuple ⟨[]⟩) w) :
    CK Try.prog 112 [.func (.yield l) ⟨[]⟩ ⟨[]⟩, dp b1] w K := by
  refine call_k Try.func112 k112 Try.ntmps112 (Nat.le_of_ble_eq_true rfl) ?_
  (repeat (first | refine g_sq ?_ | refine g_rg ?_ | refine g_r0 ?_ | refine g_ok rfl rfl ?_ | refine g_no rfl ?_ | refine g_no0 rfl ?_ | refine g_bk ?_ | refine g_b ?_ | refine g_sk ?_ | refine g_cT rfl ?_ | refine g_cF rfl ?_ | refine g_x rfl ?_ | refine g_lb ?_))
  refine g_lp (ι := List Grp) (fun acc => [(0, .func (.yield l) ⟨[]⟩ ⟨[]⟩), (1, dp b1), (3, .int .i64 (usedOf acc))])
    (fun acc w => Rch (area D fr bk) acc ∧ ∃ S S1, St w0 S0 w (JouR S jb d fr bk ⟨acc, 0, false⟩ :: DevR S1 d D :: cel b1 [dp jb] 67 :: Y)) (fun acc => bk + 1 - usedOf acc) [] ⟨rfl, rfl, rfl, trivial⟩ ⟨Rch.nil _, S, S1, hS⟩ ?_
  clear hS
  rintro acc w ⟨hR, S, S1, hS⟩
  have hal := area_len D fr bk
  have hu : usedOf acc ≤ bk := by obtain ⟨_, _, h, _⟩ := hR; omega
  have hwf := (DevR.blk (hS.selB (A := [_, _, _]) (B := Y) [1, 0, 2] rfl rfl)).1
  (repeat (first | refine g_sq ?_ | refine g_rg ?_ | refine g_r0 ?_ | refine g_ok rfl rfl ?_ | refine g_no rfl ?_ | refine g_no0 rfl ?_ | refine g_bk ?_ | refine g_b ?_ | refine g_sk ?_ | refine g_cT rfl ?_ | refine g_cF rfl ?_ | refine g_x rfl ?_ | refine g_lb ?_))
  refine g_l1 rfl rfl (hS.b  2 rfl) rfl ?_
  (repeat (first | refine g_sq ?_ | refine g_rg ?_ | refine g_r0 ?_ | refine g_ok rfl rfl ?_ | refine g_no rfl ?_ | refine g_no0 rfl ?_ | refine g_bk ?_ | refine g_b ?_ | refine g_sk ?_ | refine g_cT rfl ?_ | refine g_cF rfl ?_ | refine g_x rfl ?_ | refine g_lb ?_))
  refine g_cl rfl rfl (c113 hF (by omega) hS (fun hs w S S1 l3 hl3 h1c hS => ?_) (fun g hs w S S1 v' hS => ?_))
  · (repeat (first | refine g_sq ?_ | refine g_rg ?_ | refine g_r0 ?_ | refine g_ok rfl rfl ?_ | refine g_no rfl ?_ | refine g_no0 rfl ?_ | refine g_bk ?_ | refine g_b ?_ | refine g_sk ?_ | refine g_cT rfl ?_ | refine g_cF rfl ?_ | refine g_x rfl ?_ | refine g_lb ?_))
    refine g_ef rfl (ef_al hS fun g4 w hS => ?_)
    have hS := hS.front
    refine g_ef0 rfl (ef_st (u := .agg ⟨l3⟩) hS 0 rfl rfl rfl hl3 (by show 0 + 3 ≤ 3; decide) h1c fun w hS => ?_)
    (repeat (first | refine g_sq ?_ | refine g_rg ?_ | refine g_r0 ?_ | refine g_ok rfl rfl ?_ | refine g_no rfl ?_ | refine g_no0 rfl ?_ | refine g_bk ?_ | refine g_b ?_ | refine g_sk ?_ | refine g_cT rfl ?_ | refine g_cF rfl ?_ | refine g_x rfl ?_ | refine g_lb ?_))
    exact g_ret (q_0 (he acc _ _ _ (hR.none hs) hS.tail))
  · obtain ⟨a', c', rfl⟩ := hS.rlen 2 rfl
    have hk := (stand_ok _ _ _ _ (Nat.zero_le _) (fun b hb => area_mem hwf hF b (List.mem_of_mem_drop hb)) hs)
    rw [List.length_drop] at hk
    have hp : 1 ≤ g.many := blk_pos _
    (repeat (first | refine g_sq ?_ | refine g_rg ?_ | refine g_r0 ?_ | refine g_ok rfl rfl ?_ | refine g_no rfl ?_ | refine g_no0 rfl ?_ | refine g_bk ?_ | refine g_b ?_ | refine g_sk ?_ | refine g_cT rfl ?_ | refine g_cF rfl ?_ | refine g_x rfl ?_ | refine g_lb ?_))
    refine g_ef rfl (ef_al hS fun g4 w hS => ?_)
    have hS := hS.front
    refine g_ef0 rfl (ef_st hS 0 rfl rfl rfl rfl (Nat.le_of_ble_eq_true rfl) rfl fun w hS => ?_)
    have hS : St w0 S0 w (cel g4 (gv1 (g, .slice a' g.b.length c')) 134 :: JouR S jb d fr bk ⟨acc, 0, false⟩ :: DevR S1 d D :: row (.slice a' g.b.length c') 5 1 g.b.length (bys g.b) :: cel b1 [dp jb] 67 :: Y) := hS
    have hS := hS.selB (A := [_, _, _, _, _]) (B := Y) [1, 2, 3, 0, 4] rfl rfl
    (repeat (first | refine g_sq ?_ | refine g_rg ?_ | refine g_r0 ?_ | refine g_ok rfl rfl ?_ | refine g_no rfl ?_ | refine g_no0 rfl ?_ | refine g_bk ?_ | refine g_b ?_ | refine g_sk ?_ | refine g_cT rfl ?_ | refine g_cF rfl ?_ | refine g_x rfl ?_ | refine g_lb ?_))
    refine g_lm rfl rfl (hS.b 3 rfl) (Nat.le_of_ble_eq_true rfl) ?_
    refine g_ef rfl (ef_yd (vs := [.agg ⟨gv1 (g, .slice a' g.b.length c')⟩]) rfl rfl ((hy acc g w S S1 _ g4 hR hs hS).mono ?_))
    rintro v w' (⟨rfl, hn, S, S1, hS⟩ | ⟨rfl, hK⟩)
    · (repeat (first | refine g_sq ?_ | refine g_rg ?_ | refine g_r0 ?_ | refine g_ok rfl rfl ?_ | refine g_no rfl ?_ | refine g_no0 rfl ?_ | refine g_bk ?_ | refine g_b ?_ | refine g_sk ?_ | refine g_cT rfl ?_ | refine g_cF rfl ?_ | refine g_x rfl ?_ | refine g_lb ?_))
      refine g_l1 rfl rfl (hS.b  2 rfl) rfl ?_
      (repeat (first | refine g_sq ?_ | refine g_rg ?_ | refine g_r0 ?_ | refine g_ok rfl rfl ?_ | refine g_no rfl ?_ | refine g_no0 rfl ?_ | refine g_bk ?_ | refine g_b ?_ | refine g_sk ?_ | refine g_cT rfl ?_ | refine g_cF rfl ?_ | refine g_x rfl ?_ | refine g_lb ?_))
      refine g_rq rfl rfl (in64 (by simp only [arv]; omega)) ?_
      have hu2 : usedOf (acc ++ [g]) = usedOf acc + g.many := by rw [usedOf_app]; simp [usedOf]
      rw [show arv BinOp.add (usedOf acc : Int) (g.many : Int) = ((usedOf (acc ++ [g]) : Nat) : Int) by simp only [arv]; omega]
      (repeat (first | refine g_sq ?_ | refine g_rg ?_ | refine g_r0 ?_ | refine g_ok rfl rfl ?_ | refine g_no rfl ?_ | refine g_no0 rfl ?_ | refine g_bk ?_ | refine g_b ?_ | refine g_sk ?_ | refine g_cT rfl ?_ | refine g_cF rfl ?_ | refine g_x rfl ?_ | refine g_lb ?_))
      exact g_l (acc ++ [g]) ⟨rfl, rfl, rfl, trivial⟩ ⟨hR.step (area_mem hwf hF) hs hn, S, S1, hS.selB (A := [_, _, _, _]) (B := Y) [0, 1, 3] rfl rfl⟩ (by rw [hu2]; omega)
    · (repeat (first | refine g_sq ?_ | refine g_rg ?_ | refine g_r0 ?_ | refine g_ok rfl rfl ?_ | refine g_no rfl ?_ | refine g_no0 rfl ?_ | refine g_bk ?_ | refine g_b ?_ | refine g_sk ?_ | refine g_cT rfl ?_ | refine g_cF rfl ?_ | refine g_x rfl ?_ | refine g_lb ?_))
      exact g_ret (q_0 hK)
theorem d89 (hS : St w0 S0 w L) (h : ∀ b1 w', St w0 S0 w' (L ++ [cel b1 [dp jb] 67]) → K (.func (.func 112) ⟨[]⟩ ⟨[dp b1]⟩) w') : CK Try.prog 89 [dp jb] w K := by
  refine call_k Try.func89 k89 Try.ntmps89 (Nat.le_of_ble_eq_true rfl) ?_
  (repeat (first | refine g_sq ?_ | refine g_rg ?_ | refine g_r0 ?_ | refine g_ok rfl rfl ?_ | refine g_no rfl ?_ | refine g_no0 rfl ?_ | refine g_bk ?_ | refine g_b ?_ | refine g_sk ?_ | refine g_cT rfl ?_ | refine g_cF rfl ?_ | refine g_x rfl ?_ | refine g_lb ?_))
  refine g_ef rfl (ef_bx hS rfl fun b1 w hS => ?_)
  (repeat (first | refine g_sq ?_ | refine g_rg ?_ | refine g_r0 ?_ | refine g_ok rfl rfl ?_ | refine g_no rfl ?_ | refine g_no0 rfl ?_ | refine g_bk ?_ | refine g_b ?_ | refine g_sk ?_ | refine g_cT rfl ?_ | refine g_cF rfl ?_ | refine g_x rfl ?_ | refine g_lb ?_))
  exact g_ret (q_1 rfl (h _ _ hS))
end
end Go.Proofs.Ytegjocpjmfaigaa
