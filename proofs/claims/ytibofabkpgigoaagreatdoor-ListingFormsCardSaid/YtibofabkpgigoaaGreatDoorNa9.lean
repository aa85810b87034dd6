/- hash.Set. -/
import Derived.Test.YtibofabkpgigoaaGreatDoorNa8
import Derived.Test.YtibofabkpgigoaaGreatDoorSf
set_option linter.unusedSimpArgs false
set_option linter.unusedVariables false
namespace Go.Proofs.YtibofabkpgigoaaGreatDoor
open Go.En

/-- the set of some ids, by their bytes -/
def iset (l : List Id) : List Id := kset (fun x : Id => x.1) l
theorem id_inj (x y : Id) (h : x.1 = y.1) : x = y := Subtype.ext h
section
variable {w w0 : World} {S0 : Nat → Prop} {L B : List Res} {K : Value → World → Prop} {s : Bs} {E0 E1 : Nat}
theorem b_CloneI {v : Value} {n : Nat} {d : List Id} (hd : d.length = n) (hn : n < 2000000) (hr : Rd v E0 32 n (fl ic d) w) (h : ∀ v' w', St w (fun _ => False) w' [row v' 35 32 n (fl ic d)] → K v' w') : CK Tryz.prog 46 [v] w K := by
  have hS := St.nil w (fun _ => False)
  obtain ⟨a, c, rfl⟩ := hr.form
  refine call_k Tryz.func46 k46 Tryz.ntmps46 (Nat.le_of_ble_eq_true rfl) ?_
  (repeat (first | refine g_sq ?_ | refine g_rg ?_ | refine g_r0 ?_ | refine g_ok rfl rfl ?_ | refine g_no rfl ?_ | refine g_no0 rfl ?_ | refine g_bk ?_ | refine g_b ?_ | refine g_sk ?_ | refine g_cT rfl ?_ | refine g_cF rfl ?_ | refine g_x rfl ?_ | refine g_lb ?_))
  refine g_cd rfl (fun hc => ?_) (fun hc => ?_)
  · have e : a = none := by cases a <;> simp_all [nilv]
    subst e
    have e0 : n = 0 ∧ fl ic d = [] := by
      rcases hr with ⟨⟨a, h1⟩, h2, h3⟩ | ⟨b, off, cap, l, h1, _⟩
      · exact ⟨h2, h3⟩
      · cases h1
    rw [e0.2, e0.1] at h
    (repeat (first | refine g_sq ?_ | refine g_rg ?_ | refine g_r0 ?_ | refine g_ok rfl rfl ?_ | refine g_no rfl ?_ | refine g_no0 rfl ?_ | refine g_bk ?_ | refine g_b ?_ | refine g_sk ?_ | refine g_cT rfl ?_ | refine g_cF rfl ?_ | refine g_x rfl ?_ | refine g_lb ?_))
    exact g_ret (q_1 rfl (h _ _ (hS.nilrow 35 32)))
  · (repeat (first | refine g_sq ?_ | refine g_rg ?_ | refine g_r0 ?_ | refine g_ok rfl rfl ?_ | refine g_no rfl ?_ | refine g_no0 rfl ?_ | refine g_bk ?_ | refine g_b ?_ | refine g_sk ?_ | refine g_cT rfl ?_ | refine g_cF rfl ?_ | refine g_x rfl ?_ | refine g_lb ?_))
    refine g_ef rfl (ef_bl hS rfl fun b w1 hS => ?_)
    have hS := hS.conv (r' := row (.slice (some ⟨b, 0, none⟩) 0 0) 35 32 0 []) 0 rfl (fun b' h => h) (.inr ⟨b, 0, [], rfl, Nat.le_refl _, rfl, rfl, hS.b 0 rfl⟩)
    (repeat (first | refine g_sq ?_ | refine g_rg ?_ | refine g_r0 ?_ | refine g_ok rfl rfl ?_ | refine g_no rfl ?_ | refine g_no0 rfl ?_ | refine g_bk ?_ | refine g_b ?_ | refine g_sk ?_ | refine g_cT rfl ?_ | refine g_cF rfl ?_ | refine g_x rfl ?_ | refine g_lb ?_))
    refine g_ef rfl (ef_ap (n := 0) (m := n) hS 0 rfl rfl rfl (.inl ⟨_, hr.same fun b' hb' => hS.fr.kept b' ?_ (fun h => h)⟩) (fl_one ic_one d) (by omega) (by omega) fun v1 w1 hS => ?_)
    · exact hr.lt b' hb'
    · rw [Nat.zero_add, List.nil_append] at hS
      (repeat (first | refine g_sq ?_ | refine g_rg ?_ | refine g_r0 ?_ | refine g_ok rfl rfl ?_ | refine g_no rfl ?_ | refine g_no0 rfl ?_ | refine g_bk ?_ | refine g_b ?_ | refine g_sk ?_ | refine g_cT rfl ?_ | refine g_cF rfl ?_ | refine g_x rfl ?_ | refine g_lb ?_))
      exact g_ret (q_1 rfl (h _ _ hS))
theorem b_SortI {v : Value} {n : Nat} {d : List Id} (hd : d.length = n) (hn : n < 2000000) (hS : St w0 S0 w [row v 35 32 n (fl ic d)]) (h : ∀ w', St w0 S0 w' [row v 35 32 n (fl ic (srt (fun x : Id => x.1) d))] → K (.tuple ⟨[]⟩) w') : CK Tryz.prog 47 [v, .func (.func 48) ⟨[]⟩ ⟨[]⟩] w K := by
  rcases hS.ok 0 _ rfl with ⟨rfl, rfl, h3⟩ | ⟨b, cap, rest, rfl, _⟩
  · have e : d = [] := List.eq_nil_of_length_eq_zero hd
    subst e
    refine (AnyF.slices_SortFunc_none Tryz.sortId none 0 (.func (.func 48) ⟨[]⟩ ⟨[]⟩) w).mono ?_
    rintro e w' ⟨rfl, rfl⟩
    refine ⟨_, rfl, h _ ?_⟩
    have : srt (fun x : Id => x.1) [] = [] := List.eq_nil_of_length_eq_zero (srt_len _ [])
    rw [this]
    exact hS
  · refine ck_sortF (i := 0) Tryz.sortId Tryz.isAgg35 Tryz.sizeOf35 ic_len ic_one (fun x y : Id => Lib.compareBytes x.1 y.1) (swo_key fun x : Id => x.1) (enters_of Tryz.func48 (by kernel_rfl) rfl) (fun W x y K h => b_Compare x.2 y.2 h) hS rfl hd (by omega) fun d' w' hp hs hS => ?_
    have e : d' = srt (fun x : Id => x.1) d := srt_unique _ id_inj hp (hs.imp fun h => (lt_ble (fun x : Id => x.1) _ _).1 h)
    rw [e] at hS
    exact h _ hS
theorem b_Set {v : Value} {n : Nat} {d : List Id} (hd : d.length = n) (hn : n < 2000000) (hr : Rd v E0 32 n (fl ic d) w) (h : ∀ v' w', St w (fun _ => False) w' [row v' 35 32 (iset d).length (fl ic (iset d))] → K v' w') : CK Tryz.prog 16 [v] w K := by
  refine call_k Tryz.func16 k16 Tryz.ntmps16 (Nat.le_of_ble_eq_true rfl) ?_
  (repeat (first | refine g_sq ?_ | refine g_rg ?_ | refine g_r0 ?_ | refine g_ok rfl rfl ?_ | refine g_no rfl ?_ | refine g_no0 rfl ?_ | refine g_bk ?_ | refine g_b ?_ | refine g_sk ?_ | refine g_cT rfl ?_ | refine g_cF rfl ?_ | refine g_x rfl ?_ | refine g_lb ?_))
  refine g_cl rfl rfl (b_CloneI hd hn hr fun v1 w1 hS => ?_)
  (repeat (first | refine g_sq ?_ | refine g_rg ?_ | refine g_r0 ?_ | refine g_ok rfl rfl ?_ | refine g_no rfl ?_ | refine g_no0 rfl ?_ | refine g_bk ?_ | refine g_b ?_ | refine g_sk ?_ | refine g_cT rfl ?_ | refine g_cF rfl ?_ | refine g_x rfl ?_ | refine g_lb ?_))
  refine g_cl rfl rfl (b_SortI hd hn hS fun w1 hS => ?_)
  (repeat (first | refine g_sq ?_ | refine g_rg ?_ | refine g_r0 ?_ | refine g_ok rfl rfl ?_ | refine g_no rfl ?_ | refine g_no0 rfl ?_ | refine g_bk ?_ | refine g_b ?_ | refine g_sk ?_ | refine g_cT rfl ?_ | refine g_cF rfl ?_ | refine g_x rfl ?_ | refine g_lb ?_))
  refine g_cl rfl rfl (b_Compact (by rw [srt_len, hd]) hn hS fun v2 n2 w1 hn2 hS => ?_)
  (repeat (first | refine g_sq ?_ | refine g_rg ?_ | refine g_r0 ?_ | refine g_ok rfl rfl ?_ | refine g_no rfl ?_ | refine g_no0 rfl ?_ | refine g_bk ?_ | refine g_b ?_ | refine g_sk ?_ | refine g_cT rfl ?_ | refine g_cF rfl ?_ | refine g_x rfl ?_ | refine g_lb ?_))
  refine g_ret (q_1 rfl (h _ _ ?_))
  have e : iset d = ddn (srt (fun x : Id => x.1) d) n := by rw [← hd]; rfl
  rw [e, hn2]
  exact hS
end
end Go.Proofs.YtibofabkpgigoaaGreatDoor
