/- The journal: its groups; two lists of bytes. -/
import Derived.Test.YtegjocpjmfaigaaJg
set_option linter.unusedSimpArgs false
set_option linter.unusedVariables false
namespace Go.Proofs.Ytegjocpjmfaigaa
open Go.En

abbrev BZ := List (Value × List UInt8)
def BsB (v : Value) (M : List (List UInt8)) (Z : BZ) : Res := ((row v 35 1 Z.length (Z.map Prod.fst)).and (pool Z)).when (Z.map Prod.snd = M)
/-- a list of bytes that is owned -/
def BsR (S : Nat → Prop) (v : Value) (M : List (List UInt8)) : Res := Ex S (BsB v M)
/-- a list of bytes that can be read -/
def RdL (v : Value) (M : List (List UInt8)) (w : World) : Prop := ∃ (E : Nat) (Z : BZ), Z.map Prod.snd = M ∧ Rd v E 1 Z.length (Z.map Prod.fst) w ∧ ∀ p ∈ Z, ∃ E', Rd p.1 E' 1 p.2.length (bys p.2) w
section
variable {w w0 : World} {S0 S S1 : Nat → Prop} {K : Value → World → Prop} {jb d fr bk : Nat} {J : Jou} {D : Dev} {B L : List Res} {vl v : Value} {Z : GZ} {M : List (List UInt8)}
theorem BsR.opn (hS : St w0 S0 w (BsR S v M :: B)) : ∃ Z : BZ, Z.map Prod.snd = M ∧ St w0 S0 w (row v 35 1 Z.length (Z.map Prod.fst) :: pool Z :: B) := by
  obtain ⟨Z, hS⟩ := hS.ex 0 rfl
  obtain ⟨h1, hS⟩ := hS.cond 0 rfl
  refine ⟨Z, h1, ?_⟩
  have hS := (hS.split 0 rfl).front
  exact hS.selB (A := [_, _]) (B := B) [1, 0] rfl rfl
theorem BsR.cls {Z : BZ} (h1 : Z.map Prod.snd = M) (hS : St w0 S0 w (row v 35 1 Z.length (Z.map Prod.fst) :: pool Z :: B)) : ∃ S', St w0 S0 w (BsR S' v M :: B) := by
  have hS := hS.merge 0 1 rfl rfl (by decide)
  have hS := hS.toWhen (p := Z.map Prod.snd = M) 0 rfl h1
  obtain ⟨S', hS⟩ := hS.toEx (F := BsB v M) (x := Z) 0 rfl
  refine ⟨S', ?_⟩
  have hS : St w0 S0 w (BsR S' v M :: emp :: B) := hS
  exact St.sub (A := [BsR S' v M]) (List.sublist_cons_self _ _) hS
theorem BsR.rdl (hS : St w0 S0 w L) (i : Nat) (hi : L[i]? = some (BsR S v M)) : RdL v M w := by
  obtain ⟨Z, ⟨h1, h2, h3, _⟩, _⟩ := hS.ok i _ hi
  exact ⟨35, Z, h1, h2.rd, fun p hp => ⟨5, h3 p hp⟩⟩
theorem RdL.form (h : RdL v M w) : ∃ a c, v = .slice a M.length c := by
  obtain ⟨E, Z, h1, h2, _⟩ := h
  obtain ⟨a, c, e⟩ := Rd.form h2
  exact ⟨a, c, by rw [e, ← h1, List.length_map]⟩
theorem RdL.get (h : RdL v M w) {k : Nat} {bs : List UInt8} (hk : M[k]? = some bs) : ∃ b off cap l u E E', v = .slice (some ⟨b, off, none⟩) M.length cap ∧ Blr w b l E ∧ l[off + k * 1]? = some u ∧ Rd u E' 1 bs.length (bys bs) w := by
  obtain ⟨E, Z, h1, h2, h3⟩ := h
  have hkl := (List.getElem?_eq_some_iff.1 hk).1
  have hZl : Z.length = M.length := by rw [← h1, List.length_map]
  obtain ⟨b, off, cap, l, hv, _, hB, hx⟩ := h2.cellr (k := k) (by omega)
  have hz : Z[k]? = some (Z[k]'(by omega)) := List.getElem?_eq_getElem _
  generalize (Z[k]'(by omega)) = z at hz
  have hb : z.2 = bs := by
    rw [← h1, List.getElem?_map, hz] at hk
    exact Option.some.inj hk
  obtain ⟨E', h4⟩ := h3 z (List.mem_of_getElem? hz)
  rw [hb] at h4
  exact ⟨b, off, cap, l, z.1, E, E', by rw [hv, hZl], hB, by rw [hx, List.getElem?_map, hz]; rfl, h4⟩
theorem RdL.drew (h : RdL v M w) : RdL v M w.drew := by
  obtain ⟨E, Z, h1, h2, h3⟩ := h
  exact ⟨E, Z, h1, h2.same fun _ _ => rfl, fun p hp => by obtain ⟨E', h⟩ := h3 p hp; exact ⟨E', h.same fun _ _ => rfl⟩⟩
theorem c46 {u : Value} {A M : List (List UInt8)} (hA : RdL v A w) (hM : RdL u M w) (hn : A.length ≤ 1000000) (hS : St w0 S0 w L) (h : ∀ w', St w0 S0 w' L → K (.bool (decide (A = M))) w') : CK Try.prog 46 [v, u] w K := by
  obtain ⟨a1, c1, rfl⟩ := hA.form
  obtain ⟨a2, c2, rfl⟩ := hM.form
  refine call_k Try.func46 k46 Try.ntmps46 (Nat.le_of_ble_eq_true rfl) ?_
  (repeat (first | refine g_sq ?_ | refine g_rg ?_ | refine g_r0 ?_ | refine g_ok rfl rfl ?_ | refine g_no rfl ?_ | refine g_no0 rfl ?_ | refine g_bk ?_ | refine g_b ?_ | refine g_sk ?_ | refine g_cT rfl ?_ | refine g_cF rfl ?_ | refine g_x rfl ?_ | refine g_lb ?_))
  refine g_cd rfl (fun hc => ?_) (fun hc => ?_)
  all_goals simp only [cmv, Bool.not_eq_true', Bool.not_eq_false', decide_eq_true_eq, decide_eq_false_iff_not] at hc
  · have h := h w hS
    rw [decide_eq_false (fun e => hc (by rw [e]))] at h
    (repeat (first | refine g_sq ?_ | refine g_rg ?_ | refine g_r0 ?_ | refine g_ok rfl rfl ?_ | refine g_no rfl ?_ | refine g_no0 rfl ?_ | refine g_bk ?_ | refine g_b ?_ | refine g_sk ?_ | refine g_cT rfl ?_ | refine g_cF rfl ?_ | refine g_x rfl ?_ | refine g_lb ?_))
    exact g_ret (q_1 rfl h)
  have hlen : A.length = M.length := by omega
  (repeat (first | refine g_sq ?_ | refine g_rg ?_ | refine g_r0 ?_ | refine g_ok rfl rfl ?_ | refine g_no rfl ?_ | refine g_no0 rfl ?_ | refine g_bk ?_ | refine g_b ?_ | refine g_sk ?_ | refine g_cT rfl ?_ | refine g_cF rfl ?_ | refine g_x rfl ?_ | refine g_lb ?_))
  refine g_lp (ι := Nat) (fun k => [(0, .slice a1 A.length c1), (1, .slice a2 M.length c2), (5, .int .i64 k)]) (fun k w => k ≤ A.length ∧ (∀ j, j < k → A[j]? = M[j]?) ∧ St w0 S0 w L ∧ RdL (.slice a1 A.length c1) A w ∧ RdL (.slice a2 M.length c2) M w) (fun k => A.length - k) 0 ⟨rfl, rfl, rfl, trivial⟩ ⟨Nat.zero_le _, fun j hj => absurd hj (Nat.not_lt_zero j), hS, hA, hM⟩ ?_
  clear hS hA hM
  rintro k w ⟨hk, hsame, hS, hA, hM⟩
  (repeat (first | refine g_sq ?_ | refine g_rg ?_ | refine g_r0 ?_ | refine g_ok rfl rfl ?_ | refine g_no rfl ?_ | refine g_no0 rfl ?_ | refine g_bk ?_ | refine g_b ?_ | refine g_sk ?_ | refine g_cT rfl ?_ | refine g_cF rfl ?_ | refine g_x rfl ?_ | refine g_lb ?_))
  refine g_cd rfl (fun hz => ?_) (fun hz => ?_)
  all_goals simp only [cmv, decide_eq_true_eq, decide_eq_false_iff_not] at hz
  · obtain ⟨s1, hs1⟩ : ∃ s, A[k]? = some s := ⟨_, List.getElem?_eq_getElem (by omega)⟩
    obtain ⟨s2, hs2⟩ : ∃ s, M[k]? = some s := ⟨_, List.getElem?_eq_getElem (by omega)⟩
    (repeat (first | refine g_sq ?_ | refine g_rg ?_ | refine g_r0 ?_ | refine g_ok rfl rfl ?_ | refine g_no rfl ?_ | refine g_no0 rfl ?_ | refine g_bk ?_ | refine g_b ?_ | refine g_sk ?_ | refine g_cT rfl ?_ | refine g_cF rfl ?_ | refine g_x rfl ?_ | refine g_lb ?_))
    refine g_dr mixed ?_
    have hS := hS.drew
    have hA := hA.drew
    have hM := hM.drew
    obtain ⟨b1, o1, k1, l1, u1, E1, F1, e1, hB1, hx1, hr1⟩ := hA.get hs1
    obtain ⟨b2, o2, k2, l2, u2, E2, F2, e2, hB2, hx2, hr2⟩ := hM.get hs2
    cases e1; cases e2
    (repeat (first | refine d_ok rfl rfl rfl ?_ | refine d_no rfl rfl ?_))
    refine d_rq rfl rfl rfl ⟨by omega, by omega⟩ ?_
    refine d_l1r rfl rfl rfl hB1 hx1 ?_
    refine d_qt rfl rfl rfl (qt_bsR rfl hr1) ?_
    (repeat (first | refine d_ok rfl rfl rfl ?_ | refine d_no rfl rfl ?_))
    refine d_rq rfl rfl rfl ⟨by omega, by omega⟩ ?_
    refine d_l1r rfl rfl rfl hB2 hx2 ?_
    refine d_qt rfl rfl rfl (qt_bsR rfl hr2) ?_
    (repeat (first | refine d_ok rfl rfl rfl ?_ | refine d_no rfl rfl ?_))
    refine d_fin ?_
    (repeat (first | refine g_sq ?_ | refine g_rg ?_ | refine g_r0 ?_ | refine g_ok rfl rfl ?_ | refine g_no rfl ?_ | refine g_no0 rfl ?_ | refine g_bk ?_ | refine g_b ?_ | refine g_sk ?_ | refine g_cT rfl ?_ | refine g_cF rfl ?_ | refine g_x rfl ?_ | refine g_lb ?_))
    refine g_cd rfl (fun hy => ?_) (fun hy => ?_)
    · have hy : s1 ≠ s2 := by simpa using hy
      have h := h _ hS
      rw [decide_eq_false (fun e => hy (by rw [e, hs2] at hs1; exact (Option.some.inj hs1).symm))] at h
      (repeat (first | refine g_sq ?_ | refine g_rg ?_ | refine g_r0 ?_ | refine g_ok rfl rfl ?_ | refine g_no rfl ?_ | refine g_no0 rfl ?_ | refine g_bk ?_ | refine g_b ?_ | refine g_sk ?_ | refine g_cT rfl ?_ | refine g_cF rfl ?_ | refine g_x rfl ?_ | refine g_lb ?_))
      exact g_ret (q_1 rfl h)
    · have hy : s1 = s2 := by simpa using hy
      (repeat (first | refine g_sq ?_ | refine g_rg ?_ | refine g_r0 ?_ | refine g_ok rfl rfl ?_ | refine g_no rfl ?_ | refine g_no0 rfl ?_ | refine g_bk ?_ | refine g_b ?_ | refine g_sk ?_ | refine g_cT rfl ?_ | refine g_cF rfl ?_ | refine g_x rfl ?_ | refine g_lb ?_))
      refine g_rq rfl rfl (in64 (by simp only [arv]; omega)) ?_
      (repeat (first | refine g_sq ?_ | refine g_rg ?_ | refine g_r0 ?_ | refine g_ok rfl rfl ?_ | refine g_no rfl ?_ | refine g_no0 rfl ?_ | refine g_bk ?_ | refine g_b ?_ | refine g_sk ?_ | refine g_cT rfl ?_ | refine g_cF rfl ?_ | refine g_x rfl ?_ | refine g_lb ?_))
      refine g_l (k + 1) ⟨rfl, rfl, rfl, trivial⟩ ⟨by omega, fun j hj => ?_, hS, hA, hM⟩ (by omega)
      by_cases e : j = k
      · subst e; rw [hs1, hs2, hy]
      · exact hsame j (by omega)
  · have e : A = M := List.ext_getElem? fun j => by
      by_cases hj : j < A.length
      · exact hsame j (by omega)
      · rw [List.getElem?_eq_none (by omega), List.getElem?_eq_none (by omega)]
    have h := h _ hS
    rw [decide_eq_true e] at h
    (repeat (first | refine g_sq ?_ | refine g_rg ?_ | refine g_r0 ?_ | refine g_ok rfl rfl ?_ | refine g_no rfl ?_ | refine g_no0 rfl ?_ | refine g_bk ?_ | refine g_b ?_ | refine g_sk ?_ | refine g_cT rfl ?_ | refine g_cF rfl ?_ | refine g_x rfl ?_ | refine g_lb ?_))
    exact g_ret (q_1 rfl h)
theorem pool_nil (hS : St w0 S0 w L) : St w0 S0 w (L ++ [pool []]) := gp_nil hS
set_option maxRecDepth 100000 in
theorem c47 (hS : St w0 S0 w (JouR S jb d fr bk J :: B)) (h : ∀ w' S' S2 v', St w0 S0 w' (JouR S' jb d fr bk J :: BsR S2 v' (J.l.map Grp.b) :: B) → K v' w') : CK Try.prog 47 [dp jb] w K := by
  obtain ⟨vl, Z, k1, k2, k3, k4, hS⟩ := JouR.opn hS
  have hZl : Z.length = J.l.length := by rw [← k4, List.length_map]
  have hlen : Z.length ≤ 4096 := by have := usedOf_len J.l; have := k1.1; unfold Jou.used at this; omega
  obtain ⟨a, c, rfl⟩ := hS.rlen 1 rfl
  have hsl := gp_form hS 2 rfl
  refine call_k Try.func47 k47 Try.ntmps47 (Nat.le_of_ble_eq_true rfl) ?_
  (repeat (first | refine g_sq ?_ | refine g_rg ?_ | refine g_r0 ?_ | refine g_ok rfl rfl ?_ | refine g_no rfl ?_ | refine g_no0 rfl ?_ | refine g_bk ?_ | refine g_b ?_ | refine g_sk ?_ | refine g_cT rfl ?_ | refine g_cF rfl ?_ | refine g_x rfl ?_ | refine g_lb ?_))
  refine g_cl rfl rfl (b91 (hS.b 0 rfl) ?_)
  (repeat (first | refine g_sq ?_ | refine g_rg ?_ | refine g_r0 ?_ | refine g_ok rfl rfl ?_ | refine g_no rfl ?_ | refine g_no0 rfl ?_ | refine g_bk ?_ | refine g_b ?_ | refine g_sk ?_ | refine g_cT rfl ?_ | refine g_cF rfl ?_ | refine g_x rfl ?_ | refine g_lb ?_))
  refine g_l1 rfl rfl (hS.b  0 rfl) rfl ?_
  (repeat (first | refine g_sq ?_ | refine g_rg ?_ | refine g_r0 ?_ | refine g_ok rfl rfl ?_ | refine g_no rfl ?_ | refine g_no0 rfl ?_ | refine g_bk ?_ | refine g_b ?_ | refine g_sk ?_ | refine g_cT rfl ?_ | refine g_cF rfl ?_ | refine g_x rfl ?_ | refine g_lb ?_))
  have hS := (hS.nilrow 35 1).front
  have hS := (pool_nil hS).front
  refine g_lp (ι := Nat × Value) (fun x => [(3, x.2), (11, .slice a Z.length c), (12, .int .i64 Z.length), (13, .int .i64 x.1)])
    (fun x w => x.1 ≤ Z.length ∧ ∃ Zo : BZ, Zo.map Prod.snd = (J.l.take x.1).map Grp.b ∧ Zo.length = x.1 ∧ St w0 S0 w (pool Zo :: row x.2 35 1 Zo.length (Zo.map Prod.fst) :: cel jb (JouC (dp d) fr bk (.slice a Z.length c) J) 94 :: row (.slice a Z.length c) 134 3 Z.length (gz Z) :: gp Z :: B)) (fun x => Z.length - x.1) (0, .slice none 0 0) ⟨rfl, rfl, rfl, rfl, trivial⟩ ⟨Nat.zero_le _, [], rfl, rfl, hS⟩ ?_
  clear hS
  rintro ⟨k, vo⟩ w ⟨hk, Zo, hZo, hZk, hS⟩
  simp only at hk hZo hZk hS
  (repeat (first | refine g_sq ?_ | refine g_rg ?_ | refine g_r0 ?_ | refine g_ok rfl rfl ?_ | refine g_no rfl ?_ | refine g_no0 rfl ?_ | refine g_bk ?_ | refine g_b ?_ | refine g_sk ?_ | refine g_cT rfl ?_ | refine g_cF rfl ?_ | refine g_x rfl ?_ | refine g_lb ?_))
  refine g_cd rfl (fun hc => ?_) (fun hc => ?_)
  all_goals simp only [cmv, decide_eq_true_eq, decide_eq_false_iff_not] at hc
  · have hlt : k < Z.length := by omega
    have hz : Z[k]? = some Z[k] := List.getElem?_eq_getElem hlt
    have hzm : Z[k] ∈ Z := List.getElem_mem hlt
    generalize Z[k] = z at hz hzm
    have hg : J.l[k]? = some z.1 := by rw [← k4, List.getElem?_map, hz]; rfl
    have hgb := k1.2.2 z.1 (List.mem_of_getElem? hg)
    obtain ⟨b1, cap1, rest1, hv1, hc1, hB1, hl1⟩ := row_blk hS 3 rfl (by omega)
    cases hv1
    have h1c := gv1_one hsl hzm
    obtain ⟨az, nz, cz, ez⟩ := hsl z hzm
    (repeat (first | refine g_sq ?_ | refine g_rg ?_ | refine g_r0 ?_ | refine g_ok rfl rfl ?_ | refine g_no rfl ?_ | refine g_no0 rfl ?_ | refine g_bk ?_ | refine g_b ?_ | refine g_sk ?_ | refine g_cT rfl ?_ | refine g_cF rfl ?_ | refine g_x rfl ?_ | refine g_lb ?_))
    refine g_rq rfl rfl ⟨by omega, by omega⟩ ?_
    refine g_lm rfl rfl hB1 (by rw [hl1]; show 0 + k * 3 + 3 ≤ _; omega) ?_
    rw [show ((k : Int).toNat) = k from rfl, gz_get hz rest1]
    refine g_ef rfl (ef_al hS fun g w hS => ?_)
    have hS := hS.front
    refine g_ef0 rfl (ef_st hS 0 rfl rfl rfl rfl (Nat.le_of_ble_eq_true rfl) h1c fun w hS => ?_)
    have hS : St w0 S0 w (cel g (gv1 z) 134 :: _) := hS
    (repeat (first | refine g_sq ?_ | refine g_rg ?_ | refine g_r0 ?_ | refine g_ok rfl rfl ?_ | refine g_no rfl ?_ | refine g_no0 rfl ?_ | refine g_bk ?_ | refine g_b ?_ | refine g_sk ?_ | refine g_cT rfl ?_ | refine g_cF rfl ?_ | refine g_x rfl ?_ | refine g_lb ?_))
    refine g_l1 rfl rfl (hS.b  0 rfl) rfl ?_
    (repeat (first | refine g_sq ?_ | refine g_rg ?_ | refine g_r0 ?_ | refine g_ok rfl rfl ?_ | refine g_no rfl ?_ | refine g_no0 rfl ?_ | refine g_bk ?_ | refine g_b ?_ | refine g_sk ?_ | refine g_cT rfl ?_ | refine g_cF rfl ?_ | refine g_x rfl ?_ | refine g_lb ?_))
    have hrz : Rd z.2 5 1 z.1.b.length (bys z.1.b) w := hS.ok 5 _ rfl (z.2, z.1.b) (List.mem_map.2 ⟨z, hzm, rfl⟩)
    refine g_cl rfl rfl (c92 hS hrz (bys_one _) (by omega) fun v' w hS => ?_)
    have hS := hS.front
    obtain ⟨a', c', rfl⟩ := hS.rlen 0 rfl
    (repeat (first | refine g_sq ?_ | refine g_rg ?_ | refine g_r0 ?_ | refine g_ok rfl rfl ?_ | refine g_no rfl ?_ | refine g_no0 rfl ?_ | refine g_bk ?_ | refine g_b ?_ | refine g_sk ?_ | refine g_cT rfl ?_ | refine g_cF rfl ?_ | refine g_x rfl ?_ | refine g_lb ?_))
    refine g_ef rfl (ef_bl (rs := [.slice a' z.1.b.length c']) hS rfl fun g2 w hS => ?_)
    have hS := hS.front
    refine g_ef rfl (ef_ap (n := Zo.length) (m := 1) (ys := [.slice a' z.1.b.length c']) hS 4 rfl rfl rfl (.inl ⟨35, .inr ⟨g2, 0, 1, _, rfl, Nat.le_refl _, Nat.le_refl _, rfl, (hS.b 0 rfl).r⟩⟩) rfl (by omega) (by omega) fun vo1 w hS => ?_)
    have hS := hS.pool_add (M := Zo) (v := .slice a' z.1.b.length c') (bs := z.1.b) 3 1 rfl rfl (by decide)
    (repeat (first | refine g_sq ?_ | refine g_rg ?_ | refine g_r0 ?_ | refine g_ok rfl rfl ?_ | refine g_no rfl ?_ | refine g_no0 rfl ?_ | refine g_bk ?_ | refine g_b ?_ | refine g_sk ?_ | refine g_cT rfl ?_ | refine g_cF rfl ?_ | refine g_x rfl ?_ | refine g_lb ?_))
    refine g_rq rfl rfl (in64 (by simp only [arv]; omega)) ?_
    (repeat (first | refine g_sq ?_ | refine g_rg ?_ | refine g_r0 ?_ | refine g_ok rfl rfl ?_ | refine g_no rfl ?_ | refine g_no0 rfl ?_ | refine g_bk ?_ | refine g_b ?_ | refine g_sk ?_ | refine g_cT rfl ?_ | refine g_cF rfl ?_ | refine g_x rfl ?_ | refine g_lb ?_))
    have hS := hS.selB (A := [_, _, _, _, _, _, _, _]) (B := B) [3, 4, 5, 6, 7] rfl rfl
    refine g_l (k + 1, vo1) ⟨rfl, rfl, rfl, rfl, trivial⟩ ⟨by simp only; omega, Zo ++ [(.slice a' z.1.b.length c', z.1.b)], ?_, by simp [hZk], ?_⟩ (by simp only; omega)
    · have hgl := (List.getElem?_eq_some_iff.1 hg).1
      have hge := (List.getElem?_eq_some_iff.1 hg).2
      simp only
      rw [List.take_succ_eq_append_getElem hgl, List.map_append, List.map_append, hZo, hge]
      rfl
    · have e1 : (Zo ++ [(Value.slice a' z.1.b.length c', z.1.b)]).length = Zo.length + 1 := by simp
      have e2 : (Zo ++ [(Value.slice a' z.1.b.length c', z.1.b)]).map Prod.fst = Zo.map Prod.fst ++ [.slice a' z.1.b.length c'] := by simp
      rw [e1, e2]
      exact hS
  · have e : J.l.take k = J.l := List.take_of_length_le (by omega)
    rw [e] at hZo
    have hS := hS.selB (A := [_, _, _, _, _]) (B := B) [1, 0, 2, 3, 4] rfl rfl
    obtain ⟨S2, hS⟩ := BsR.cls hZo hS
    have hS := hS.selB (A := [_, _, _, _]) (B := B) [1, 2, 3, 0] rfl rfl
    obtain ⟨S', hS⟩ := JouR.cls k1 k2 k3 k4 hS
    (repeat (first | refine g_sq ?_ | refine g_rg ?_ | refine g_r0 ?_ | refine g_ok rfl rfl ?_ | refine g_no rfl ?_ | refine g_no0 rfl ?_ | refine g_bk ?_ | refine g_b ?_ | refine g_sk ?_ | refine g_cT rfl ?_ | refine g_cF rfl ?_ | refine g_x rfl ?_ | refine g_lb ?_))
    exact g_ret (q_1 rfl (h _ _ _ _ hS))
end
end Go.Proofs.Ytegjocpjmfaigaa
