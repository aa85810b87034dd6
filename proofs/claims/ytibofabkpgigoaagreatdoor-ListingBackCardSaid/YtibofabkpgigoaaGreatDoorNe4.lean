/- A listing's text: the walk. -/
import Derived.Test.YtibofabkpgigoaaGreatDoorNe2
import Derived.Test.YtibofabkpgigoaaGreatDoorNe0
import Derived.Test.YtibofabkpgigoaaGreatDoorNe3
set_option linter.unusedSimpArgs false
set_option linter.unusedVariables false
namespace Go.Proofs.YtibofabkpgigoaaGreatDoor
open Go.En

theorem sv_app (a b : Bs) : (.string ((⟨a.toArray⟩ : ByteArray) ++ ⟨b.toArray⟩) : Value) = sv (a ++ b) := by
  rw [← sv_of]
  congr 1
section
variable {w w0 : World} {S0 : Nat → Prop} {L B : List Res} {K : Value → World → Prop} {s : Bs}
theorem setCell_setB {b i : Nat} {l : List Value} {E : TypeId} {v : Value} (hb : Blk w b l E) : w.setCell ⟨b, i, none⟩ v = setB w b (l.set i v) := by
  obtain ⟨fr, h, _⟩ := hb
  unfold World.setCell setB
  congr 1
  apply Array.ext
  · simp
  · intro j h1 h2
    simp only [Array.getElem_modify]
    split
    · rename_i e; subst e
      have := (Array.getElem?_eq_some_iff.1 h).2
      rw [this]
      simp [oset]
    · rfl
theorem c_cc {b i : Nat} {p v : Value} (hp : p = .pointer none ∨ p = dp b) (hS : St w0 S0 w L) (hi : L[i]? = some (cel b [p, v] 78)) (h : ∀ w', St w0 S0 w' (L.set i (cel b [dp b, v] 78)) → K (.tuple ⟨[]⟩) w') : CK Tryz.prog 67 [dp b] w K := by
  have hb := hS.b i hi
  rcases hp with rfl | rfl
  · refine (cc_fresh b w (hb.cell 0) ?_ (hb.free (Nat.zero_lt_succ _))).mono ?_
    · obtain ⟨fr, hb, _⟩ := hb
      simp [World.shape?, hb]
    · rintro e w' ⟨rfl, rfl⟩
      refine ⟨_, rfl, h _ ?_⟩
      rw [setCell_setB hb]
      exact hS.set i hi [dp b, v] rfl
  · refine (cc_used b w (hb.cell 0)).mono ?_
    rintro e w' ⟨rfl, rfl⟩
    exact ⟨_, rfl, h _ (hS.ceq i hi rfl)⟩
theorem b_WS {b n : Nat} {p v : Value} {x t : Bs} (hp : p = .pointer none ∨ p = dp b) (hn : n + t.length < 4294967281) (hS : St w0 S0 w [cel b [p, v] 78, row v 5 1 n (bys x)])
    (h : ∀ v' w', St w0 S0 w' [cel b [dp b, v'] 78, row v' 5 1 (n + t.length) (bys (x ++ t))] → K (.tuple ⟨[.int .i64 t.length, .nilIface]⟩) w') : CK Tryz.prog 39 [dp b, sv t] w K := by
  obtain ⟨a, c, rfl⟩ := hS.rlen 1 rfl
  refine call_k Tryz.func39 k39 Tryz.ntmps39 (Nat.le_of_ble_eq_true rfl) ?_
  (repeat (first | refine g_sq ?_ | refine g_rg ?_ | refine g_r0 ?_ | refine g_ok rfl rfl ?_ | refine g_no rfl ?_ | refine g_no0 rfl ?_ | refine g_bk ?_ | refine g_b ?_ | refine g_sk ?_ | refine g_cT rfl ?_ | refine g_cF rfl ?_ | refine g_x rfl ?_ | refine g_lb ?_))
  refine g_cl rfl rfl (c_cc hp hS (i := 0) rfl fun w1 hS => ?_)
  replace hS : St w0 S0 w1 [cel b [dp b, .slice a n c] 78, row (.slice a n c) 5 1 n (bys x)] := hS
  (repeat (first | refine g_sq ?_ | refine g_rg ?_ | refine g_r0 ?_ | refine g_ok rfl rfl ?_ | refine g_no rfl ?_ | refine g_no0 rfl ?_ | refine g_bk ?_ | refine g_b ?_ | refine g_sk ?_ | refine g_cT rfl ?_ | refine g_cF rfl ?_ | refine g_x rfl ?_ | refine g_lb ?_))
  refine g_l1 rfl rfl (hS.b  0 rfl) rfl ?_
  (repeat (first | refine g_sq ?_ | refine g_rg ?_ | refine g_r0 ?_ | refine g_ok rfl rfl ?_ | refine g_no rfl ?_ | refine g_no0 rfl ?_ | refine g_bk ?_ | refine g_b ?_ | refine g_sk ?_ | refine g_cT rfl ?_ | refine g_cF rfl ?_ | refine g_x rfl ?_ | refine g_lb ?_))
  refine g_ef rfl (ef_ap (bytes := 1) (n := n) (m := t.length) (ys := bys t) hS 1 rfl rfl rfl (.inr ⟨_, rfl, rfl, rfl, rfl⟩) (bys_one t) (by omega) (by omega) fun v1 w1 hS => ?_)
  rw [← bys_append] at hS
  obtain ⟨a1, c1, rfl⟩ := hS.rlen 1 rfl
  (repeat (first | refine g_sq ?_ | refine g_rg ?_ | refine g_r0 ?_ | refine g_ok rfl rfl ?_ | refine g_no rfl ?_ | refine g_no0 rfl ?_ | refine g_bk ?_ | refine g_b ?_ | refine g_sk ?_ | refine g_cT rfl ?_ | refine g_cF rfl ?_ | refine g_x rfl ?_ | refine g_lb ?_))
  refine g_ef0 rfl (ef_st hS 0 rfl rfl rfl rfl (Nat.le_of_ble_eq_true rfl) rfl fun w1 hS => ?_)
  (repeat (first | refine g_sq ?_ | refine g_rg ?_ | refine g_r0 ?_ | refine g_ok rfl rfl ?_ | refine g_no rfl ?_ | refine g_no0 rfl ?_ | refine g_bk ?_ | refine g_b ?_ | refine g_sk ?_ | refine g_cT rfl ?_ | refine g_cF rfl ?_ | refine g_x rfl ?_ | refine g_lb ?_))
  refine g_ret (q_2 rfl rfl ?_)
  rw [Lib.size_eq]
  exact h _ _ hS
theorem b_BS {b n : Nat} {p v : Value} {x : Bs} (hx : x = [] → v = .slice none 0 0) (hn : n < 4294967281) (hS : St w0 S0 w [cel b [p, v] 78, row v 5 1 n (bys x)])
    (h : ∀ w', St w0 S0 w' [] → K (sv x) w') : CK Tryz.prog 40 [dp b] w K := by
  have hb := hS.b 0 rfl
  have hlen : x.length = n := by
    have := (hS.ok 1 _ rfl).len
    rw [bys_length, Nat.mul_one] at this
    exact this
  have fin : ∀ w', Fr w0 S0 w' → St w0 S0 w' [] := fun w' hf => ⟨fun _ _ h => (by simp at h), fun _ _ h => (by simp at h), fun _ _ h => (by simp at h), fun _ _ _ _ h => (by simp at h), hf⟩
  by_cases h0 : x = []
  · obtain rfl := hx h0
    subst h0
    refine (bs_nil b p w hb.r).mono ?_
    rintro e w' ⟨rfl, rfl⟩
    exact ⟨_, rfl, h _ (fin _ hS.drew.fr)⟩
  · obtain ⟨g, cap, rest, rfl, hcap, hg, hl⟩ := row_blk hS 1 rfl (by have := List.length_pos_iff.2 h0; omega)
    subst hlen
    refine (bs_str b g cap p (bys x ++ rest) x w hb.r hg.r h0 hcap (by rw [List.length_append, bys_length]; omega) (by omega) (by rw [List.take_left' (bys_length x)])).mono ?_
    rintro e w' ⟨rfl, rfl⟩
    refine ⟨_, rfl, h _ (fin _ (hS.fr.trans (S1 := fun y => y = g) ?_ fun y hy => ?_))⟩
    · unfold World.freeze
      split
      · exact Fr.drew w _
      · refine ⟨by simp, fun y _ hn => ?_, rfl, rfl, rfl, Nat.le_succ _⟩
        show (w.drew.heap.modify g _)[y]? = _
        rw [Array.getElem?_modify, if_neg (fun e => hn e.symm)]; rfl
    · subst hy
      exact hS.src 1 _ rfl y rfl
end
end Go.Proofs.YtibofabkpgigoaaGreatDoor
