/- What a depot has. -/
import Derived.Test.YtegjocpjmfaigaaNb
set_option linter.unusedSimpArgs false
set_option linter.unusedVariables false
namespace Go.Proofs.Ytegjocpjmfaigaa
open Go.En

def Dep.list (P : Dep) : List (List UInt8) := if P.area = 0 then [] else (P.j P.liv).l.map Grp.b
section
variable {w w0 : World} {S0 S S1 S2 : Nat → Prop} {K : Value → World → Prop} {pb d : Nat} {P : Dep} {D : Dev} {B L : List Res}
theorem pool_join {M M' : BZ} (hS : St w0 S0 w L) (i j : Nat) (hi : L[i]? = some (pool M)) (hj : L[j]? = some (pool M')) (hij : i ≠ j) : St w0 S0 w ((L.set j emp).set i (pool (M ++ M'))) := by
  have h := hS.merge i j hi hj hij
  have hlt : i < (L.set j emp).length := by rw [List.length_set]; exact (List.getElem?_eq_some_iff.1 hi).1
  have h2 := h.conv (r' := pool (M ++ M')) i (List.getElem?_set_self hlt) (fun b hb => by
    obtain ⟨p, hp, hv⟩ := hb
    rcases List.mem_append.1 hp with hp | hp
    · exact .inl ⟨p, hp, hv⟩
    · exact .inr ⟨p, hp, hv⟩) (fun p hp => by
    rcases List.mem_append.1 hp with hp | hp
    · exact hS.ok i _ hi p hp
    · exact hS.ok j _ hj p hp)
  rw [List.set_set] at h2
  exact h2
theorem pool_form {Z : BZ} (hS : St w0 S0 w L) (i : Nat) (hi : L[i]? = some (pool Z)) : ∀ z ∈ Z, ∃ a n c, z.1 = .slice a n c := fun z hz => by
  obtain ⟨a, c, e⟩ := Rd.form (hS.ok i _ hi z hz)
  exact ⟨a, _, c, e⟩
theorem form_one {Z : BZ} (h : ∀ z ∈ Z, ∃ a n c, z.1 = .slice a n c) : (Z.map Prod.fst).all (·.oneCell') = true := by
  rw [List.all_eq_true]
  intro x hx
  obtain ⟨z, hz, rfl⟩ := List.mem_map.1 hx
  obtain ⟨a, n, c, e⟩ := h z hz
  rw [e]; rfl
theorem row_tail {b n cap : Nat} {x : Value} {xs : List Value} (hS : St w0 S0 w L) (i : Nat) (hi : L[i]? = some (row (.slice (some ⟨b, 0, none⟩) (n + 1) cap) 35 1 (n + 1) (x :: xs))) :
    St w0 S0 w (L.set i (rdR (.slice (some ⟨b, if cap = 1 then 0 else 0 + 1 * 1, none⟩) n (cap - 1)) 35 1 n xs)) := by
  refine hS.conv i hi (fun y hy => hy.1) ?_
  rcases hS.ok i _ hi with ⟨h, _⟩ | ⟨b', cap', rest, h, hn, hx, hl, hb⟩
  · cases h
  · cases h
    by_cases hc : cap = 1
    · have : n = 0 := by omega
      subst this hc
      have : xs = [] := List.eq_nil_of_length_eq_zero (by simpa using hx)
      subst this
      exact .inl ⟨⟨_, rfl⟩, rfl, rfl⟩
    · rw [if_neg hc]
      refine .inr ⟨b, 0 + 1 * 1, cap - 1, x :: xs ++ rest, rfl, by omega, by rw [hl]; omega, ?_, hb.r⟩
      have hxl : xs.length = n * 1 := by simp only [List.length_cons] at hx; omega
      show List.take (n * 1) (xs ++ rest) = xs
      rw [← hxl, List.take_left]
theorem c68 (hS : St w0 S0 w (DepR S pb d P :: B)) (h0 : P.area = 0 → K (.tuple ⟨[.slice none 0 0, .bool false]⟩) w)
    (h : P.area ≠ 0 → ∀ w' S' v' b l, P.list = b :: l → St w0 S0 w' (DepR S' pb d P :: pool [(v', b)] :: B) → K (.tuple ⟨[v', .bool true]⟩) w') : CK Try.prog 68 [dp pb] w K := by
  obtain ⟨h1, ⟨p0, hB⟩, _⟩ := DepR.blk hS
  refine call_k Try.func68 k68 Try.ntmps68 (Nat.le_of_ble_eq_true rfl) ?_
  (repeat (first | refine g_sq ?_ | refine g_rg ?_ | refine g_r0 ?_ | refine g_ok rfl rfl ?_ | refine g_no rfl ?_ | refine g_no0 rfl ?_ | refine g_bk ?_ | refine g_b ?_ | refine g_sk ?_ | refine g_cT rfl ?_ | refine g_cF rfl ?_ | refine g_x rfl ?_ | refine g_lb ?_))
  refine g_cl rfl rfl (b100 hB rfl h1.1 ?_)
  (repeat (first | refine g_sq ?_ | refine g_rg ?_ | refine g_r0 ?_ | refine g_ok rfl rfl ?_ | refine g_no rfl ?_ | refine g_no0 rfl ?_ | refine g_bk ?_ | refine g_b ?_ | refine g_sk ?_ | refine g_cT rfl ?_ | refine g_cF rfl ?_ | refine g_x rfl ?_ | refine g_lb ?_))
  refine g_l1 rfl rfl hB rfl ?_
  (repeat (first | refine g_sq ?_ | refine g_rg ?_ | refine g_r0 ?_ | refine g_ok rfl rfl ?_ | refine g_no rfl ?_ | refine g_no0 rfl ?_ | refine g_bk ?_ | refine g_b ?_ | refine g_sk ?_ | refine g_cT rfl ?_ | refine g_cF rfl ?_ | refine g_x rfl ?_ | refine g_lb ?_))
  by_cases ha : P.area = 0
  · have hc : cmv BinOp.eql (P.area : Int) 0 = true := by simp only [cmv, decide_eq_true_eq]; omega
    rw [hc]
    (repeat (first | refine g_sq ?_ | refine g_rg ?_ | refine g_r0 ?_ | refine g_ok rfl rfl ?_ | refine g_no rfl ?_ | refine g_no0 rfl ?_ | refine g_bk ?_ | refine g_b ?_ | refine g_sk ?_ | refine g_cT rfl ?_ | refine g_cF rfl ?_ | refine g_x rfl ?_ | refine g_lb ?_))
    exact g_ret (q_2 rfl rfl (h0 ha))
  have hc : cmv BinOp.eql (P.area : Int) 0 = false := by simp only [cmv, decide_eq_false_iff_not]; omega
  rw [hc]
  obtain ⟨p, T1, T2, _, hS⟩ := DepR.opn P.liv hS
  (repeat (first | refine g_sq ?_ | refine g_rg ?_ | refine g_r0 ?_ | refine g_ok rfl rfl ?_ | refine g_no rfl ?_ | refine g_no0 rfl ?_ | refine g_bk ?_ | refine g_b ?_ | refine g_sk ?_ | refine g_cT rfl ?_ | refine g_cF rfl ?_ | refine g_x rfl ?_ | refine g_lb ?_))
  refine g_l1 rfl rfl (hS.b  0 rfl) rfl ?_
  rw [if_neg ha]
  have hS := hS.selB (A := [_, _, _]) (B := B) [1, 0, 2] rfl rfl
  refine g_cl rfl rfl (c47 hS fun w T1 T3 v' hS => ?_)
  have hS := hS.selB (A := [_, _, _, _]) (B := B) [1, 2, 0, 3] rfl rfl
  obtain ⟨Z, hZ, hS⟩ := BsR.opn hS
  have hne : Z ≠ [] := fun e => h1.2.2.2 ha (by rw [e] at hZ; exact List.map_eq_nil_iff.1 hZ.symm)
  obtain ⟨z, Z, rfl⟩ := List.exists_cons_of_ne_nil hne
  have hlist : P.list = z.2 :: Z.map Prod.snd := by rw [Dep.list, if_neg ha, ← hZ]; rfl
  obtain ⟨b1, cap1, rest1, hv1, hc1, hB1, hl1⟩ := row_blk hS 0 rfl (by simp)
  subst hv1
  (repeat (first | refine g_sq ?_ | refine g_rg ?_ | refine g_r0 ?_ | refine g_ok rfl rfl ?_ | refine g_no rfl ?_ | refine g_no0 rfl ?_ | refine g_bk ?_ | refine g_b ?_ | refine g_sk ?_ | refine g_cT rfl ?_ | refine g_cF rfl ?_ | refine g_x rfl ?_ | refine g_lb ?_))
  refine g_rq rfl rfl ⟨by decide, by simp only [List.length_cons]; omega⟩ ?_
  refine g_l1 (v := z.1) rfl rfl hB1 rfl ?_
  (repeat (first | refine g_sq ?_ | refine g_rg ?_ | refine g_r0 ?_ | refine g_ok rfl rfl ?_ | refine g_no rfl ?_ | refine g_no0 rfl ?_ | refine g_bk ?_ | refine g_b ?_ | refine g_sk ?_ | refine g_cT rfl ?_ | refine g_cF rfl ?_ | refine g_x rfl ?_ | refine g_lb ?_))
  have hS := hS.pool_sub (M' := [(z.1, z.2)]) 1 rfl (fun q hq => by simp at hq; subst hq; exact List.mem_cons_self)
  have hS : St w0 S0 w (row (.slice (some ⟨b1, 0, none⟩) (z :: Z).length cap1) 35 1 (z :: Z).length ((z :: Z).map Prod.fst) :: pool [(z.1, z.2)] :: cel pb (DepC P p) 113 :: JouR T1 (p P.liv) d (frm P.liv P.bk) P.bk (P.j P.liv) :: JouR T2 (p !P.liv) d (frm (!P.liv) P.bk) P.bk (P.j !P.liv) :: B) := hS
  have hS := hS.selB (A := [_, _, _, _, _]) (B := B) [2, 3, 4, 1] rfl rfl
  obtain ⟨S', hS⟩ := DepR.cls P.liv h1 rfl rfl rfl hS
  exact g_ret (q_2 rfl rfl (h ha _ _ _ _ _ hlist hS))
theorem c66 (hS : St w0 S0 w (DepR S pb d P :: B)) (h0 : P.area = 0 → K (.slice none 0 0) w)
    (h : P.area ≠ 0 → ∀ w' S' v' (Z : BZ), Z.map Prod.snd = P.list.tail → St w0 S0 w' (DepR S' pb d P :: rdR v' 35 1 Z.length (Z.map Prod.fst) :: pool Z :: B) → K v' w') : CK Try.prog 66 [dp pb] w K := by
  obtain ⟨h1, ⟨p0, hB⟩, _⟩ := DepR.blk hS
  refine call_k Try.func66 k66 Try.ntmps66 (Nat.le_of_ble_eq_true rfl) ?_
  (repeat (first | refine g_sq ?_ | refine g_rg ?_ | refine g_r0 ?_ | refine g_ok rfl rfl ?_ | refine g_no rfl ?_ | refine g_no0 rfl ?_ | refine g_bk ?_ | refine g_b ?_ | refine g_sk ?_ | refine g_cT rfl ?_ | refine g_cF rfl ?_ | refine g_x rfl ?_ | refine g_lb ?_))
  refine g_cl rfl rfl (b100 hB rfl h1.1 ?_)
  (repeat (first | refine g_sq ?_ | refine g_rg ?_ | refine g_r0 ?_ | refine g_ok rfl rfl ?_ | refine g_no rfl ?_ | refine g_no0 rfl ?_ | refine g_bk ?_ | refine g_b ?_ | refine g_sk ?_ | refine g_cT rfl ?_ | refine g_cF rfl ?_ | refine g_x rfl ?_ | refine g_lb ?_))
  refine g_l1 rfl rfl hB rfl ?_
  (repeat (first | refine g_sq ?_ | refine g_rg ?_ | refine g_r0 ?_ | refine g_ok rfl rfl ?_ | refine g_no rfl ?_ | refine g_no0 rfl ?_ | refine g_bk ?_ | refine g_b ?_ | refine g_sk ?_ | refine g_cT rfl ?_ | refine g_cF rfl ?_ | refine g_x rfl ?_ | refine g_lb ?_))
  by_cases ha : P.area = 0
  · have hc : cmv BinOp.eql (P.area : Int) 0 = true := by simp only [cmv, decide_eq_true_eq]; omega
    rw [hc]
    (repeat (first | refine g_sq ?_ | refine g_rg ?_ | refine g_r0 ?_ | refine g_ok rfl rfl ?_ | refine g_no rfl ?_ | refine g_no0 rfl ?_ | refine g_bk ?_ | refine g_b ?_ | refine g_sk ?_ | refine g_cT rfl ?_ | refine g_cF rfl ?_ | refine g_x rfl ?_ | refine g_lb ?_))
    exact g_ret (q_1 rfl (h0 ha))
  have hc : cmv BinOp.eql (P.area : Int) 0 = false := by simp only [cmv, decide_eq_false_iff_not]; omega
  rw [hc]
  obtain ⟨p, T1, T2, _, hS⟩ := DepR.opn P.liv hS
  (repeat (first | refine g_sq ?_ | refine g_rg ?_ | refine g_r0 ?_ | refine g_ok rfl rfl ?_ | refine g_no rfl ?_ | refine g_no0 rfl ?_ | refine g_bk ?_ | refine g_b ?_ | refine g_sk ?_ | refine g_cT rfl ?_ | refine g_cF rfl ?_ | refine g_x rfl ?_ | refine g_lb ?_))
  refine g_l1 rfl rfl (hS.b  0 rfl) rfl ?_
  rw [if_neg ha]
  have hS := hS.selB (A := [_, _, _]) (B := B) [1, 0, 2] rfl rfl
  refine g_cl rfl rfl (c47 hS fun w T1 T3 v' hS => ?_)
  have hS := hS.selB (A := [_, _, _, _]) (B := B) [1, 2, 0, 3] rfl rfl
  obtain ⟨Z, hZ, hS⟩ := BsR.opn hS
  have hne : Z ≠ [] := fun e => h1.2.2.2 ha (by rw [e] at hZ; exact List.map_eq_nil_iff.1 hZ.symm)
  obtain ⟨z, Z, rfl⟩ := List.exists_cons_of_ne_nil hne
  have hlist : Z.map Prod.snd = P.list.tail := by rw [Dep.list, if_neg ha, ← hZ]; rfl
  obtain ⟨b1, cap1, rest1, hv1, hc1, hB1, hl1⟩ := row_blk hS 0 rfl (by simp)
  subst hv1
  rw [List.length_cons] at hc1
  (repeat (first | refine g_sq ?_ | refine g_rg ?_ | refine g_r0 ?_ | refine g_ok rfl rfl ?_ | refine g_no rfl ?_ | refine g_no0 rfl ?_ | refine g_bk ?_ | refine g_b ?_ | refine g_sk ?_ | refine g_cT rfl ?_ | refine g_cF rfl ?_ | refine g_x rfl ?_ | refine g_lb ?_))
  refine g_rq rfl rfl ⟨by decide, by simp only [List.length_cons]; omega, by simp only [List.length_cons]; omega, by omega⟩ ?_
  (repeat (first | refine g_sq ?_ | refine g_rg ?_ | refine g_r0 ?_ | refine g_ok rfl rfl ?_ | refine g_no rfl ?_ | refine g_no0 rfl ?_ | refine g_bk ?_ | refine g_b ?_ | refine g_sk ?_ | refine g_cT rfl ?_ | refine g_cF rfl ?_ | refine g_x rfl ?_ | refine g_lb ?_))
  have hS := row_tail hS 0 rfl
  have hS := hS.pool_sub (M' := Z) 1 rfl (fun q hq => List.mem_cons_of_mem _ hq)
  have hS : St w0 S0 w (rdR (.slice (some ⟨b1, if cap1 = 1 then 0 else 0 + 1 * 1, none⟩) Z.length (cap1 - 1)) 35 1 Z.length (Z.map Prod.fst) :: pool Z :: cel pb (DepC P p) 113 :: JouR T1 (p P.liv) d (frm P.liv P.bk) P.bk (P.j P.liv) :: JouR T2 (p !P.liv) d (frm (!P.liv) P.bk) P.bk (P.j !P.liv) :: B) := hS
  have hS := hS.selB (A := [_, _, _, _, _]) (B := B) [2, 3, 4, 0, 1] rfl rfl
  obtain ⟨S', hS⟩ := DepR.cls P.liv h1 rfl rfl rfl hS
  exact g_ret (q_1 rfl (h ha _ _ _ _ hlist hS))
theorem c62 (hS : St w0 S0 w (DepR S pb d P :: B)) (h : ∀ w' S' S2 v', St w0 S0 w' (DepR S' pb d P :: BsR S2 v' P.list :: B) → K v' w') : CK Try.prog 62 [dp pb] w K := by
  refine call_k Try.func62 k62 Try.ntmps62 (Nat.le_of_ble_eq_true rfl) ?_
  (repeat (first | refine g_sq ?_ | refine g_rg ?_ | refine g_r0 ?_ | refine g_ok rfl rfl ?_ | refine g_no rfl ?_ | refine g_no0 rfl ?_ | refine g_bk ?_ | refine g_b ?_ | refine g_sk ?_ | refine g_cT rfl ?_ | refine g_cF rfl ?_ | refine g_x rfl ?_ | refine g_lb ?_))
  refine g_cl rfl rfl (c68 hS (fun ha => ?_) (fun ha w S v b l hl hS => ?_))
  · (repeat (first | refine g_sq ?_ | refine g_rg ?_ | refine g_r0 ?_ | refine g_ok rfl rfl ?_ | refine g_no rfl ?_ | refine g_no0 rfl ?_ | refine g_bk ?_ | refine g_b ?_ | refine g_sk ?_ | refine g_cT rfl ?_ | refine g_cF rfl ?_ | refine g_x rfl ?_ | refine g_lb ?_))
    have hS := (pool_nil hS).front
    have hS := (hS.nilrow 35 1).front
    obtain ⟨S2, hS⟩ := BsR.cls (M := []) (Z := []) rfl hS
    have hS := hS.selB (A := [_, _]) (B := B) [1, 0] rfl rfl
    have h := h w S S2 (.slice none 0 0)
    rw [Dep.list, if_pos ha] at h
    exact g_ret (q_1 rfl (h hS))
  · have hfv := pool_form hS 1 rfl (v, b) (by simp)
    obtain ⟨av, nv, cv, ev⟩ := hfv
    simp only at ev
    subst ev
    (repeat (first | refine g_sq ?_ | refine g_rg ?_ | refine g_r0 ?_ | refine g_ok rfl rfl ?_ | refine g_no rfl ?_ | refine g_no0 rfl ?_ | refine g_bk ?_ | refine g_b ?_ | refine g_sk ?_ | refine g_cT rfl ?_ | refine g_cF rfl ?_ | refine g_x rfl ?_ | refine g_lb ?_))
    refine g_ef rfl (ef_bl (rs := [.slice av nv cv]) hS rfl fun g w hS => ?_)
    have hS := hS.front
    have hS := hS.selB (A := [_, _, _]) (B := B) [1, 0, 2] rfl rfl
    (repeat (first | refine g_sq ?_ | refine g_rg ?_ | refine g_r0 ?_ | refine g_ok rfl rfl ?_ | refine g_no rfl ?_ | refine g_no0 rfl ?_ | refine g_bk ?_ | refine g_b ?_ | refine g_sk ?_ | refine g_cT rfl ?_ | refine g_cF rfl ?_ | refine g_x rfl ?_ | refine g_lb ?_))
    refine g_cl rfl rfl (c66 hS (fun h0 => absurd h0 ha) (fun _ w S v' Z hZ hS => ?_))
    have hfz := form_one (pool_form hS 2 rfl)
    have hr : Rd v' 35 1 Z.length (Z.map Prod.fst) w := hS.ok 1 _ rfl
    have hr' := hr
    obtain ⟨a', c', rfl⟩ := Rd.form hr'
    have hS := hS.selB (A := [_, _, _, _, _]) (B := B) [0, 1, 2, 3, 4] rfl rfl
    have hS : St w0 S0 w (DepR S pb d P :: rdR (.slice a' Z.length c') 35 1 Z.length (Z.map Prod.fst) :: pool Z :: cel g [.slice av nv cv] 35 :: pool [(.slice av nv cv, b)] :: B) := hS
    have hS := hS.close_row (n := 1) (cap := 1) (sz := 1) (xs := [.slice av nv cv]) 3 rfl (Nat.le_refl _) rfl (List.prefix_refl _) rfl
    have hzl : Z.length ≤ 4096 := by
      have e := congrArg List.length hZ
      obtain ⟨h1, _, h2⟩ := DepR.blk hS
      have h3 := (h2 P.liv).1
      have := usedOf_len (P.j P.liv).l
      unfold Jou.used at h3
      rw [Dep.list, if_neg ha] at e
      simp only [List.length_map, List.length_tail] at e
      have := h1.2.1
      omega
    refine g_ef rfl (ef_ap (n := 1) (m := Z.length) (ys := Z.map Prod.fst) hS 3 rfl rfl rfl (.inl ⟨35, hr⟩) hfz (by omega) (by omega) fun vo w hS => ?_)
    have hS := pool_join (M := [(.slice av nv cv, b)]) (M' := Z) hS 4 2 rfl rfl (by decide)
    have hS : St w0 S0 w (DepR S pb d P :: rdR (.slice a' Z.length c') 35 1 Z.length (Z.map Prod.fst) :: emp :: row vo 35 1 (1 + Z.length) ([.slice av nv cv] ++ Z.map Prod.fst) :: pool ([(.slice av nv cv, b)] ++ Z) :: B) := hS
    have hS := hS.selB (A := [_, _, _, _, _]) (B := B) [3, 4, 0] rfl rfl
    have e1 : 1 + Z.length = ([(Value.slice av nv cv, b)] ++ Z).length := by rw [List.length_append]; rfl
    have e2 : [Value.slice av nv cv] ++ Z.map Prod.fst = ([(Value.slice av nv cv, b)] ++ Z).map Prod.fst := by rw [List.map_append]; rfl
    rw [e1, e2] at hS
    obtain ⟨S2, hS⟩ := BsR.cls (M := P.list) (by rw [List.map_append, hZ, hl]; rfl) hS
    have hS := hS.selB (A := [_, _]) (B := B) [1, 0] rfl rfl
    (repeat (first | refine g_sq ?_ | refine g_rg ?_ | refine g_r0 ?_ | refine g_ok rfl rfl ?_ | refine g_no rfl ?_ | refine g_no0 rfl ?_ | refine g_bk ?_ | refine g_b ?_ | refine g_sk ?_ | refine g_cT rfl ?_ | refine g_cF rfl ?_ | refine g_x rfl ?_ | refine g_lb ?_))
    exact g_ret (q_1 rfl (h _ _ _ _ hS))
end
end Go.Proofs.Ytegjocpjmfaigaa
