/- The document's device: blocks of bytes that are shared, and never turned. -/
import Derived.Test.YtegjocpjmfaigaaWj
import Derived.Test.YtegjocpjmfaigaaMb
set_option linter.unusedSimpArgs false
set_option linter.unusedVariables false
namespace Go.Proofs.Ytegjocpjmfaigaa
open Go.En

/-- rows of bytes that nobody turns -/
def pool (M : List (Value × List UInt8)) : Res := ⟨fun b => ∃ p, p ∈ M ∧ vb p.1 b, fun w => ∀ p, p ∈ M → Rd p.1 5 1 p.2.length (bys p.2) w, fun _ _ h hk p hp => (hk p hp).same fun b hb => h b ⟨p, hp, hb⟩⟩

section
variable {w w0 : World} {S0 S : Nat → Prop} {K : Value → World → Prop} {b : Nat} {D : Dev} {B L : List Res}
theorem _root_.Go.En.St.pool_sub (hS : St w0 S0 w L) {M M' : List (Value × List UInt8)} (i : Nat) (hi : L[i]? = some (pool M)) (h : ∀ p, p ∈ M' → p ∈ M) : St w0 S0 w (L.set i (pool M')) :=
  hS.conv i hi (fun b ⟨p, hp, hb⟩ => ⟨p, h p hp, hb⟩) (fun p hp => hS.ok i _ hi p (h p hp))
theorem _root_.Go.En.St.pool_add (hS : St w0 S0 w L) {M : List (Value × List UInt8)} {v : Value} {bs : List UInt8} (i j : Nat) (hi : L[i]? = some (pool M)) (hj : L[j]? = some (row v 5 1 bs.length (bys bs))) (hij : i ≠ j) : St w0 S0 w ((L.set j emp).set i (pool (M ++ [(v, bs)]))) := by
  have h := hS.merge i j hi hj hij
  have hlt : i < (L.set j emp).length := by simpa using (List.getElem?_eq_some_iff.1 hi).1
  have hg : ((L.set j emp).set i ((pool M).and (row v 5 1 bs.length (bys bs))))[i]? = some ((pool M).and (row v 5 1 bs.length (bys bs))) := List.getElem?_set_self hlt
  have hk := h.ok i _ hg
  have := h.conv (r' := pool (M ++ [(v, bs)])) i hg ?_ ?_
  · rwa [List.set_set] at this
  · rintro x ⟨p, hp, hb⟩
    rcases List.mem_append.1 hp with hp | hp
    · exact .inl ⟨p, hp, hb⟩
    · simp at hp; subst hp; exact .inr (vb_vo hb)
  · intro p hp
    rcases List.mem_append.1 hp with hp | hp
    · exact hk.1 p hp
    · simp at hp; subst hp; exact Ow.rd hk.2.1

theorem Rd.form {v : Value} {E sz n : Nat} {xs : List Value} (h : Rd v E sz n xs w) : ∃ a c, v = .slice a n c := by
  rcases h with ⟨⟨a, rfl⟩, rfl, _⟩ | ⟨b, off, cap, l, rfl, _⟩
  · exact ⟨_, _, rfl⟩
  · exact ⟨_, _, rfl⟩
theorem Rd.block {v : Value} {E sz n : Nat} {xs : List Value} (h : Rd v E sz n xs w) (hn : 0 < n) : ∃ b off cap l, v = .slice (some ⟨b, off, none⟩) n cap ∧ n ≤ cap ∧ off + cap * sz ≤ l.length ∧ (l.drop off).take (n * sz) = xs ∧ Blr w b l E := by
  rcases h with ⟨_, rfl, _⟩ | h
  · omega
  · exact h
theorem Rd.take {b off n cap E k : Nat} {xs : List Value} (h : Rd (.slice (some ⟨b, off, none⟩) n cap) E 1 n xs w) (hk : k ≤ n) : Rd (.slice (some ⟨b, off, none⟩) k cap) E 1 k (xs.take k) w := by
  rcases h with ⟨⟨a', h⟩, rfl, rfl⟩ | ⟨b', off', cap', l, h, hn, hl, hx, hb⟩
  · cases h
    have : k = 0 := by omega
    subst this
    exact .inl ⟨⟨_, rfl⟩, rfl, rfl⟩
  · cases h
    refine .inr ⟨b, off, cap, l, rfl, by omega, hl, ?_, hb⟩
    rw [← hx, List.take_take]
    congr 1
    omega
theorem Rd.drop {b off n cap E k : Nat} {x : Operand} {xs : List Value} (h : Rd (.slice (some ⟨b, off, none⟩) n cap) E 1 n xs w) (hk : k ≤ n) : Rd (.slice (some ⟨b, slo (some x) off cap k 1, none⟩) (n - k) (cap - k)) E 1 (n - k) (xs.drop k) w := by
  rcases h with ⟨⟨a', h⟩, rfl, rfl⟩ | ⟨b', off', cap', l, h, hn, hl, hx, hb⟩
  · cases h
    have : k = 0 := by omega
    subst this
    exact .inl ⟨⟨_, rfl⟩, rfl, rfl⟩
  · cases h
    by_cases e : cap = k
    · have : n = k := by omega
      subst this
      have hso : slo (some x) off cap n 1 = off := by simp only [slo, if_pos e]
      rw [hso]
      refine .inr ⟨b, off, cap - n, l, rfl, by omega, by omega, ?_, hb⟩
      have hxl : xs.length ≤ n := by rw [← hx]; simp; omega
      have hnil : xs.drop n = [] := List.drop_eq_nil_of_le hxl
      rw [hnil]
      simp
    · have hso : slo (some x) off cap k 1 = off + k * 1 := by simp only [slo, if_neg e]
      rw [hso]
      refine .inr ⟨b, off + k * 1, cap - k, l, rfl, by omega, by omega, ?_, hb⟩
      rw [← hx, ← List.drop_drop, List.drop_take]
      simp

theorem b70 {v : Value} {E n : Nat} {xs : List Value} (hr : Rd v E 1 n xs w) (h1 : xs.all (·.oneCell') = true) (hn : n ≤ 140737488355328) (h : ∀ v' w', St w (fun _ => False) w' [row v' 5 1 n xs] → K v' w') : CK Try.prog 70 [v] w K := by
  refine call_k Try.func70 k70 Try.ntmps70 (Nat.le_of_ble_eq_true rfl) ?_
  (repeat (first | refine g_sq ?_ | refine g_rg ?_ | refine g_r0 ?_ | refine g_ok rfl rfl ?_ | refine g_no rfl ?_ | refine g_no0 rfl ?_ | refine g_bk ?_ | refine g_b ?_ | refine g_sk ?_ | refine g_cT rfl ?_ | refine g_cF rfl ?_ | refine g_x rfl ?_ | refine g_lb ?_))
  refine g_ef rfl (ef_ap (n := 0) (m := n) (xs := []) (ys := xs) ((St.nil w (fun _ => False)).nilrow 5 1) 0 rfl rfl rfl (.inl ⟨E, hr⟩) h1 (by omega) (by omega) fun v' w1 hS => ?_)
  rw [Nat.zero_add] at hS
  (repeat (first | refine g_sq ?_ | refine g_rg ?_ | refine g_r0 ?_ | refine g_ok rfl rfl ?_ | refine g_no rfl ?_ | refine g_no0 rfl ?_ | refine g_bk ?_ | refine g_b ?_ | refine g_sk ?_ | refine g_cT rfl ?_ | refine g_cF rfl ?_ | refine g_x rfl ?_ | refine g_lb ?_))
  exact g_ret (q_1 rfl (h _ _ hS))

theorem b120 {va vc : Value} {x y : List UInt8} {m : Int} (ha : Rd va 5 1 128 (bys x) w) (hc : Rd vc 5 1 128 (bys y) w) (hm : 0 ≤ m ∧ m ≤ 128) (h : ∀ v' w', St w (fun _ => False) w' [row v' 5 1 128 (bys (x.take m.toNat ++ y.drop m.toNat))] → K v' w') : CK Try.prog 120 [va, vc, .int .i64 m] w K := by
  have hxl : x.length = 128 := by have := ha.len; simpa using this
  have hyl : y.length = 128 := by have := hc.len; simpa using this
  obtain ⟨ba, oa, ca, la, rfl, a1, _⟩ := Rd.block ha (by decide)
  obtain ⟨bc, oc, cc, lc, rfl, c1, _⟩ := Rd.block hc (by decide)
  refine call_k Try.func120 k120 Try.ntmps120 (Nat.le_of_ble_eq_true rfl) ?_
  (repeat (first | refine g_sq ?_ | refine g_rg ?_ | refine g_r0 ?_ | refine g_ok rfl rfl ?_ | refine g_no rfl ?_ | refine g_no0 rfl ?_ | refine g_bk ?_ | refine g_b ?_ | refine g_sk ?_ | refine g_cT rfl ?_ | refine g_cF rfl ?_ | refine g_x rfl ?_ | refine g_lb ?_))
  refine g_rq rfl rfl ⟨Int.le_refl _, hm.1, by omega, by omega⟩ ?_
  have ta := Rd.take (k := m.toNat) ha (by omega)
  refine g_ef rfl (ef_ap (n := 0) (m := m.toNat) (xs := []) ((St.nil w (fun _ => False)).nilrow 5 1) 0 rfl rfl rfl (.inl ⟨5, ta⟩) (by rw [bys_take]; exact bys_one _) (by omega) (by omega) fun v1 w1 hS => ?_)
  rw [Nat.zero_add, List.nil_append] at hS
  (repeat (first | refine g_sq ?_ | refine g_rg ?_ | refine g_r0 ?_ | refine g_ok rfl rfl ?_ | refine g_no rfl ?_ | refine g_no0 rfl ?_ | refine g_bk ?_ | refine g_b ?_ | refine g_sk ?_ | refine g_cT rfl ?_ | refine g_cF rfl ?_ | refine g_x rfl ?_ | refine g_lb ?_))
  refine g_rq rfl rfl ⟨hm.1, by omega, by omega, by omega⟩ ?_
  have hc' := hS.ro (r := rdR _ 5 1 128 (bys y)) hc fun x hx => ⟨hc.lt x hx, fun h => h⟩
  have tc := Rd.drop (x := .tmp 15) (k := m.toNat) hc' (by omega)
  refine g_ef rfl (ef_ap (n := m.toNat) (m := 128 - m.toNat) hS 0 rfl rfl rfl (.inl ⟨5, tc⟩) (by rw [bys_drop]; exact bys_one _) (by omega) (by omega) fun v2 w2 hS => ?_)
  (repeat (first | refine g_sq ?_ | refine g_rg ?_ | refine g_r0 ?_ | refine g_ok rfl rfl ?_ | refine g_no rfl ?_ | refine g_no0 rfl ?_ | refine g_bk ?_ | refine g_b ?_ | refine g_sk ?_ | refine g_cT rfl ?_ | refine g_cF rfl ?_ | refine g_x rfl ?_ | refine g_lb ?_))
  refine g_ret (q_1 rfl (h _ _ ?_))
  rw [bys_append, ← bys_take, ← bys_drop]
  rw [show m.toNat + (128 - m.toNat) = 128 by omega] at hS
  exact hS
end
end Go.Proofs.Ytegjocpjmfaigaa
