/- A gate's records ranged over, collected, sorted. -/
import Derived.Test.YtbdpcpafjphmpaaDoorOb1
import Derived.Test.YtbdpcpafjphmpaaDoorSf
set_option linter.unusedSimpArgs false
set_option linter.unusedVariables false
namespace Go.Proofs.YtbdpcpafjphmpaaDoor
open Go.En

/-- the records that were told -/
def tld (o : List Rec) (seen : Array Nat) : List Rec := seen.toList.filterMap fun i => o[i]?
theorem ents_get {o : List Rec} {e : MapEntry} (h : e ∈ ents o) : ∃ (i : Nat) (hi : i < o.length), e = en1 i o[i] := by
  unfold ents at h
  obtain ⟨i, hi, rfl⟩ := List.mem_mapIdx.1 h
  exact ⟨i, hi, rfl⟩
theorem ents_born (o : List Rec) : (ents o).map (·.born) = List.range o.length := by
  exact List.ext_getElem (by simp [ents]) fun i h1 h2 => by simp [ents, en1]
theorem ents_at (o : List Rec) {i : Nat} (hi : i < o.length) : en1 i o[i] ∈ ents o := by
  unfold ents
  exact List.mem_mapIdx.2 ⟨i, hi, rfl⟩
theorem tld_push {o : List Rec} {seen : Array Nat} {i : Nat} (hi : i < o.length) : tld o (seen.push i) = tld o seen ++ [o[i]] := by
  unfold tld
  simp [hi]
theorem tld_len (o : List Rec) (seen : Array Nat) : (tld o seen).length ≤ seen.size := by
  unfold tld
  have := List.length_filterMap_le (fun i => o[i]?) seen.toList
  rwa [Array.length_toList] at this
theorem fm_range (o : List Rec) : ∀ k, k ≤ o.length → (List.range k).filterMap (fun i => o[i]?) = o.take k
  | 0, _ => by simp
  | k + 1, h => by
    rw [List.range_succ, List.filterMap_append, fm_range o k (by omega), List.take_succ_eq_append_getElem (by omega)]
    simp [show k < o.length by omega]
theorem tld_all {o : List Rec} {seen : Array Nat} (hn : seen.toList.Nodup) (hb : ∀ i ∈ seen.toList, i < o.length) (h : (leftOf ⟨ents o⟩ seen).size = 0) : (tld o seen).Perm o := by
  have hp : seen.toList.Perm (List.range o.length) := by
    rw [List.perm_ext_iff_of_nodup hn List.nodup_range]
    intro i
    rw [List.mem_range]
    refine ⟨hb i, fun hi => ?_⟩
    have := all_seen _ _ h (en1 i o[i]) (ents_at o hi)
    simpa [en1] using this
  have h1 := hp.filterMap (fun i => o[i]?)
  rw [fm_range o _ (Nat.le_refl _), List.take_length] at h1
  exact h1
theorem left_get {o : List Rec} {seen : Array Nat} {e : MapEntry} (h : e ∈ (leftOf ⟨ents o⟩ seen).toList) : ∃ (i : Nat) (hi : i < o.length), e = en1 i o[i] ∧ i ∉ seen.toList := by
  obtain ⟨h1, h2⟩ := mem_left h
  obtain ⟨i, hi, rfl⟩ := ents_get h1
  exact ⟨i, hi, rfl, by simpa [en1] using h2⟩
theorem swo_dot : Sort.SWO (ltOf fun x y : Rec => dotC x.site x.cnt y.site y.cnt) := by
  have hc : ∀ x y : Rec, ltOf (fun x y : Rec => dotC x.site x.cnt y.site y.cnt) x y = decide (dlt' x y) := fun x y => decide_eq_decide.2 (dlt_C x y).symm
  refine ⟨fun x => ?_, fun x y z h k => ?_, fun x y z h k => ?_⟩
  · rw [hc, decide_eq_false_iff_not, dlt_iff]; omega
  · rw [hc, decide_eq_true_eq, dlt_iff] at *; omega
  · rw [hc, decide_eq_false_iff_not, dlt_iff] at *; omega
section
variable {w w0 : World} {S0 : Nat → Prop} {L B : List Res} {K : Value → World → Prop} {s : Bs} {E0 E1 : Nat}
theorem getL {r : Res} : (L ++ [r])[L.length]? = some r := by rw [List.getElem?_append_right (Nat.le_refl _), Nat.sub_self]; rfl
theorem getA {M : List Res} {r : Res} {i : Nat} (h : L[i]? = some r) : (L ++ M)[i]? = some r := by rw [List.getElem?_append_left (List.getElem?_eq_some_iff.1 h).1]; exact h
set_option maxHeartbeats 4000000 in
theorem d_values {ι : Type} {Ls : ι → List Res} {Inv : List Rec → ι → Prop} {o : List Rec} {mv : Option Nat} {b l i j : Nat}
    (hi : ∀ σ, (Ls σ)[i]? = some (cel b [.map mv] 45)) (hj : ∀ σ, (Ls σ)[j]? = some (gm mv o))
    {σ0 : ι} (h0 : Inv [] σ0) (hS : St w0 S0 w (Ls σ0))
    (hy : ∀ (X : Res) (ys : List Rec) (r : Rec) (σ : ι) (w : World), ys.length < o.length → Inv ys σ → St w0 S0 w (Ls σ ++ [X]) → Yd Tryd.prog l [.agg ⟨rc r⟩] w fun v w' => (v = .bool true ∧ ∃ σ', Inv (ys ++ [r]) σ' ∧ St w0 S0 w' (Ls σ' ++ [X])) ∨ (v = .bool false ∧ K (.tuple ⟨[]⟩) w'))
    (he : ∀ ys σ w, ys.Perm o → Inv ys σ → St w0 S0 w (Ls σ) → K (.tuple ⟨[]⟩) w) : CK Tryd.prog 21 [.func (.yield l) ⟨[]⟩ ⟨[]⟩, dp b] w K := by
  refine call_k Tryd.func21 k21 Tryd.ntmps21 (Nat.le_of_ble_eq_true rfl) ?_
  (repeat (first | refine g_sq ?_ | refine g_rg ?_ | refine g_r0 ?_ | refine g_ok rfl rfl ?_ | refine g_no rfl ?_ | refine g_no0 rfl ?_ | refine g_bk ?_ | refine g_b ?_ | refine g_sk ?_ | refine g_cT rfl ?_ | refine g_cF rfl ?_ | refine g_x rfl ?_ | refine g_lb ?_))
  refine g_l1 rfl rfl (hS.b i (hi σ0)) rfl ?_
  cases mv with
  | none =>
    have ho : o = [] := (hS.ok j _ (hj σ0)).1
    subst ho
    refine g_ef rfl (ef_mrg0 hS rfl fun bi w hS => ?_)
    (repeat (first | refine g_sq ?_ | refine g_rg ?_ | refine g_r0 ?_ | refine g_ok rfl rfl ?_ | refine g_no rfl ?_ | refine g_no0 rfl ?_ | refine g_bk ?_ | refine g_b ?_ | refine g_sk ?_ | refine g_cT rfl ?_ | refine g_cF rfl ?_ | refine g_x rfl ?_ | refine g_lb ?_))
    refine g_lp (ι := Unit) (fun _ => [(0, .func (.yield l) ⟨[]⟩ ⟨[]⟩), (6, .pointer (some ⟨bi, 0, none⟩))]) (fun _ w' => St w0 S0 w' (Ls σ0 ++ [obj bi (.mapIter none 0 #[] 0)])) (fun _ => 0) () ⟨rfl, rfl, trivial⟩ hS ?_
    clear hS
    rintro _ w hS
    (repeat (first | refine g_sq ?_ | refine g_rg ?_ | refine g_r0 ?_ | refine g_ok rfl rfl ?_ | refine g_no rfl ?_ | refine g_no0 rfl ?_ | refine g_bk ?_ | refine g_b ?_ | refine g_sk ?_ | refine g_cT rfl ?_ | refine g_cF rfl ?_ | refine g_x rfl ?_ | refine g_lb ?_))
    refine g_ef rfl (ef_mnx0 hS (Ls σ0).length getL rfl ?_)
    (repeat (first | refine g_sq ?_ | refine g_rg ?_ | refine g_r0 ?_ | refine g_ok rfl rfl ?_ | refine g_no rfl ?_ | refine g_no0 rfl ?_ | refine g_bk ?_ | refine g_b ?_ | refine g_sk ?_ | refine g_cT rfl ?_ | refine g_cF rfl ?_ | refine g_x rfl ?_ | refine g_lb ?_))
    exact q_n (he [] σ0 _ List.Perm.nil h0 hS.init)
  | some bm =>
    have hjo : ∀ {X : Res} {σ : ι} {w : World}, St w0 S0 w (Ls σ ++ [X]) → w.heap[bm]? = some (.map ⟨ents o⟩ o.length) := fun {X} {σ} {w} hS => hS.ok j (gm (some bm) o) (getA (hj σ))
    refine g_ef rfl (ef_mrg hS (hS.ok j (gm (some bm) o) (hj σ0)) rfl fun bi w hS => ?_)
    (repeat (first | refine g_sq ?_ | refine g_rg ?_ | refine g_r0 ?_ | refine g_ok rfl rfl ?_ | refine g_no rfl ?_ | refine g_no0 rfl ?_ | refine g_bk ?_ | refine g_b ?_ | refine g_sk ?_ | refine g_cT rfl ?_ | refine g_cF rfl ?_ | refine g_x rfl ?_ | refine g_lb ?_))
    refine g_lp (ι := ι × Array Nat) (fun _ => [(0, .func (.yield l) ⟨[]⟩ ⟨[]⟩), (6, .pointer (some ⟨bi, 0, none⟩))])
      (fun x w' => x.2.toList.Nodup ∧ (∀ k ∈ x.2.toList, k < o.length) ∧ x.2.size + (leftOf ⟨ents o⟩ x.2).size ≤ o.length ∧ Inv (tld o x.2) x.1 ∧ St w0 S0 w' (Ls x.1 ++ [obj bi (.mapIter (some bm) o.length x.2 o.length)])) (fun x => (leftOf ⟨ents o⟩ x.2).size) (σ0, #[]) ⟨rfl, rfl, trivial⟩ ⟨List.Pairwise.nil, fun k hk => absurd hk List.not_mem_nil, ?_, h0, hS⟩ ?_
    · have : (leftOf ⟨ents o⟩ #[]).size ≤ (ents o).length := Array.size_filter_le
      have h2 : (ents o).length = o.length := by unfold ents; rw [List.length_mapIdx]
      show (#[] : Array Nat).size + (leftOf ⟨ents o⟩ #[]).size ≤ o.length
      rw [show (#[] : Array Nat).size = 0 from rfl]
      omega
    clear hS h0
    rintro ⟨σ, seen⟩ w ⟨hN, hB, hM, hI, hS⟩
    dsimp only at hN hB hM hI hS ⊢
    (repeat (first | refine g_sq ?_ | refine g_rg ?_ | refine g_r0 ?_ | refine g_ok rfl rfl ?_ | refine g_no rfl ?_ | refine g_no0 rfl ?_ | refine g_bk ?_ | refine g_b ?_ | refine g_sk ?_ | refine g_cT rfl ?_ | refine g_cF rfl ?_ | refine g_x rfl ?_ | refine g_lb ?_))
    refine g_ef rfl (ef_mnx hS (Ls σ).length getL rfl (hjo hS) (fun x hx => ?_) (Nat.le_refl _) (fun hz => ?_) (fun e hel w hS => ?_))
    · obtain ⟨k, hk, rfl⟩ := ents_get hx
      exact hk
    · (repeat (first | refine g_sq ?_ | refine g_rg ?_ | refine g_r0 ?_ | refine g_ok rfl rfl ?_ | refine g_no rfl ?_ | refine g_no0 rfl ?_ | refine g_bk ?_ | refine g_b ?_ | refine g_sk ?_ | refine g_cT rfl ?_ | refine g_cF rfl ?_ | refine g_x rfl ?_ | refine g_lb ?_))
      exact q_n (he _ σ _ (tld_all hN hB hz) hI hS.init)
    · have hsh := left_shrinks _ _ _ hel
      have hmem := (mem_left hel).1
      obtain ⟨k, hk, rfl, hns⟩ := left_get hel
      rw [List.set_append_right _ _ (Nat.le_refl _), Nat.sub_self] at hS
      replace hS : St w0 S0 w (Ls σ ++ [obj bi (.mapIter (some bm) o.length (seen.push k) o.length)]) := hS
      have hsz : (leftOf ⟨ents o⟩ (seen.push k)).size < (leftOf ⟨ents o⟩ seen).size := hsh
      (repeat (first | refine g_sq ?_ | refine g_rg ?_ | refine g_r0 ?_ | refine g_ok rfl rfl ?_ | refine g_no rfl ?_ | refine g_no0 rfl ?_ | refine g_bk ?_ | refine g_b ?_ | refine g_sk ?_ | refine g_cT rfl ?_ | refine g_cF rfl ?_ | refine g_x rfl ?_ | refine g_lb ?_))
      refine g_qt rfl (qt_men (e := en1 k o[k]) (seen := seen) rfl (hS.ok _ _ getL) (hjo hS) hmem (by rw [show ((⟨ents o⟩ : Array MapEntry).toList.map (·.born)) = List.range o.length from ents_born o]; exact List.nodup_range)) ?_
      (repeat (first | refine g_sq ?_ | refine g_rg ?_ | refine g_r0 ?_ | refine g_ok rfl rfl ?_ | refine g_no rfl ?_ | refine g_no0 rfl ?_ | refine g_bk ?_ | refine g_b ?_ | refine g_sk ?_ | refine g_cT rfl ?_ | refine g_cF rfl ?_ | refine g_x rfl ?_ | refine g_lb ?_))
      refine g_ef rfl (ef_al hS fun b4 w hS => ?_)
      have lz : (zx [(2, .int .i64 0), (16, .int .u32 0), (1, .string ⟨#[]⟩), (1, .bool false), (32, .int .u8 0)]).length = 52 := by decide
      generalize hX : (obj bi (.mapIter (some bm) o.length (seen.push k) o.length)) = X at hS
      refine g_ef0 rfl (ef_st hS (Ls σ ++ [X]).length getL rfl rfl (rc_len _) (by rw [lz]; decide) (List.all_eq_true.2 (rc_one _)) fun w hS => ?_)
      rw [List.set_append_right _ _ (Nat.le_refl _), Nat.sub_self] at hS
      replace hS := hS.ceq (l' := rc o[k]) (Ls σ ++ [X]).length getL (spl_full _ _ (by show (rc o[k]).length = _; rw [rc_len, lz]))
      rw [List.set_append_right _ _ (Nat.le_refl _), Nat.sub_self] at hS
      replace hS : St w0 S0 w (Ls σ ++ [X] ++ [cel b4 (rc o[k]) 31]) := hS
      (repeat (first | refine g_sq ?_ | refine g_rg ?_ | refine g_r0 ?_ | refine g_ok rfl rfl ?_ | refine g_no rfl ?_ | refine g_no0 rfl ?_ | refine g_bk ?_ | refine g_b ?_ | refine g_sk ?_ | refine g_cT rfl ?_ | refine g_cF rfl ?_ | refine g_x rfl ?_ | refine g_lb ?_))
      refine g_lm rfl rfl (hS.b _ getL) (Nat.le_of_eq (by rw [rc_len])) ?_
      rw [List.drop_zero, List.take_of_length_le (Nat.le_of_eq (rc_len _))]
      have hlt : (tld o seen).length < o.length := by have := tld_len o seen; omega
      refine g_ef rfl (ef_yd (vs := [.agg ⟨rc o[k]⟩]) rfl rfl ((hy X _ o[k] σ _ hlt hI hS.init).mono ?_))
      rintro v w (⟨rfl, σ', hI', hS⟩ | ⟨rfl, hK⟩)
      · (repeat (first | refine g_sq ?_ | refine g_rg ?_ | refine g_r0 ?_ | refine g_ok rfl rfl ?_ | refine g_no rfl ?_ | refine g_no0 rfl ?_ | refine g_bk ?_ | refine g_b ?_ | refine g_sk ?_ | refine g_cT rfl ?_ | refine g_cF rfl ?_ | refine g_x rfl ?_ | refine g_lb ?_))
        subst hX
        refine g_l (σ', seen.push k) ⟨rfl, rfl, trivial⟩ ⟨?_, ?_, ?_, ?_, hS⟩ hsz
        · show (seen.push k).toList.Nodup
          rw [Array.toList_push, List.nodup_append]
          exact ⟨hN, List.pairwise_singleton _ _, fun a ha c hc => by rw [List.mem_singleton.1 hc]; rintro rfl; exact hns ha⟩
        · intro x hx
          rw [Array.toList_push, List.mem_append] at hx
          rcases hx with hx | hx
          · exact hB x hx
          · rw [List.mem_singleton.1 hx]; exact hk
        · show (seen.push k).size + (leftOf ⟨ents o⟩ (seen.push k)).size ≤ o.length
          rw [Array.size_push]; omega
        · show Inv (tld o (seen.push k)) σ'
          rw [tld_push hk]; exact hI'
      · (repeat (first | refine g_sq ?_ | refine g_rg ?_ | refine g_r0 ?_ | refine g_ok rfl rfl ?_ | refine g_no rfl ?_ | refine g_no0 rfl ?_ | refine g_bk ?_ | refine g_b ?_ | refine g_sk ?_ | refine g_cT rfl ?_ | refine g_cF rfl ?_ | refine g_x rfl ?_ | refine g_lb ?_))
        exact g_ret (q_0 hK)
end
end Go.Proofs.YtbdpcpafjphmpaaDoor
