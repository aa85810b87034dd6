/- The journal's groups, each of which may be turned; how much an append writes. -/
import Derived.Test.YtegjocpjmfaigaaOf
import Derived.Test.YtegjocpjmfaigaaEnO
import Derived.Test.YtegjocpjmfaigaaJx
set_option linter.unusedSimpArgs false
set_option linter.unusedVariables false
namespace Go.Proofs.Ytegjocpjmfaigaa
open Go.En

/-- bytes that are owned -/
def rbs (p : Value × List UInt8) : Res := row p.1 5 1 p.2.length (bys p.2)
theorem jdata_fit : ∀ (n : Nat) (rest : List UInt8) (D : Dev) (i : Nat), rest.length ≤ n → (jdata D i rest).1.cells.length = D.cells.length ∧ (jdata D i rest).1.waits.length ≤ D.waits.length + rest.length
  | n, rest, D, i, hn => by
    rw [jdata]
    split
    · exact ⟨rfl, by simp⟩
    · rename_i hne
      have hp : 0 < rest.length := List.length_pos_iff.2 hne
      have hf := write_fit D i (1 :: rest.take 119)
      split
      · exact ⟨hf.1, by have := hf.2; simp only; omega⟩
      · cases n with
        | zero => omega
        | succ n =>
          have := jdata_fit n (rest.drop 119) (D.write i (1 :: rest.take 119)).1 (i + 1) (by rw [List.length_drop]; omega)
          refine ⟨this.1.trans hf.1, ?_⟩
          have h2 := this.2
          have h3 := hf.2
          rw [List.length_drop] at h2
          omega
theorem jwrite_fit (D : Dev) (i : Nat) (g : Grp) : (jwrite D i g).1.cells.length = D.cells.length ∧ (jwrite D i g).1.waits.length ≤ D.waits.length + g.b.length + 3 := by
  have h1 := jdata_fit _ g.b D i (Nat.le_refl _)
  unfold jwrite
  simp only
  generalize jdata D i g.b = R at h1 ⊢
  have h2 := sync_fit R.1
  have h3 := write_fit R.1.sync.1 R.2.2 (endedB g.n g.b)
  have h4 := sync_fit (R.1.sync.1.write R.2.2 (endedB g.n g.b)).1
  obtain ⟨a1, a2⟩ := h1
  obtain ⟨b1, b2⟩ := h2
  obtain ⟨c1, c2⟩ := h3
  obtain ⟨e1, e2⟩ := h4
  split
  · exact ⟨a1, by simp only; omega⟩
  · split
    · exact ⟨b1.trans a1, by omega⟩
    · split
      · exact ⟨c1.trans (b1.trans a1), by omega⟩
      · exact ⟨e1.trans (c1.trans (b1.trans a1)), by omega⟩
theorem append_fit (J : Jou) (fr bk : Nat) (D : Dev) (b : List UInt8) : (J.append fr bk D b).2.1.cells.length = D.cells.length ∧ (J.append fr bk D b).2.1.waits.length ≤ D.waits.length + b.length + 3 := by
  have h := jwrite_fit D (fr + J.used) ⟨J.next, b⟩
  unfold Jou.append
  split
  · exact ⟨rfl, by simp only; omega⟩
  · split
    · exact ⟨rfl, by simp only; omega⟩
    · simp only
      split
      · exact h
      · exact h
section
variable {w w0 : World} {S0 S S1 : Nat → Prop} {K : Value → World → Prop} {jb d fr bk : Nat} {J : Jou} {D : Dev} {B L : List Res} {vl v : Value} {Z : GZ}
set_option maxRecDepth 100000 in
theorem c47o (hS : St w0 S0 w (JouR S jb d fr bk J :: B)) (h : ∀ w' S' (Zo : BZ) v', Zo.map Prod.snd = J.l.map Grp.b → St w0 S0 w' (JouR S' jb d fr bk J :: row v' 35 1 Zo.length (Zo.map Prod.fst) :: ows rbs Zo :: B) → K v' w') : CK Try.prog 47 [dp jb] w K := by
  obtain ⟨vl, Z, k1, k2, k3, k4, hS⟩ := JouR.opn hS
  have hZl : Z.length = J.l.length := by rw [← k4, List.length_map]
  have hlen : Z.length ≤ 4096 := by have := usedOf_len J.l; have := k1.1; unfold Jou.used at this; omega
  obtain ⟨a, c, rfl⟩ := hS.rlen 1 rfl
  have hsl := gp_form hS 2 rfl
  refine call_k Try.func47 k47 Try.ntmps47 (Nat.le_of_ble_eq_true rfl) ?_
  (repeat (first | refine g_sq ?_ | refine g_rg ?_ | refine g_r0 ?_ | refine g_ok rfl rfl ?_ | refine g_no rfl ?_ | refine g_no0 rfl ?_ | refine g_bk ?_ | refine g_b ?_ | refine g_sk ?_ | refine g_cT rfl ?_ | refine g_cF rfl ?_ | refine g_x rfl ?_ | refine g_lb ?_))
  refine g_cl rfl rfl (b91 (hS.b 0 rfl) ?_)
  (repeat (first | refine g_sq ?_ | refine g_rg ?_ | refine g_r0 ?_ | refine g_ok rfl rfl ?_ | refine g_no rfl ?_ | refine g_no0 rfl ?_ | refine g_bk ?_ | refine g_b ?_ | refine g_sk ?_ | refine g_cT rfl ?_ | refine g_cF rfl ?_ | refine g_x rfl ?_ | refine g_lb ?_))
  refine g_l1 rfl rfl (hS.b  0 rfl) rfl ?_
  (repeat (first | refine g_sq ?_ | refine g_rg ?_ | refine g_r0 ?_ | refine g_ok rfl rfl ?_ | refine g_no rfl ?_ | refine g_no0 rfl ?_ | refine g_bk ?_ | refine g_b ?_ | refine g_sk ?_ | refine g_cT rfl ?_ | refine g_cF rfl ?_ | refine g_x rfl ?_ | refine g_lb ?_))
  have hS := (hS.nilrow 35 1).front
  have hS := St.ows_nil rbs hS
  refine g_lp (ι := Nat × Value) (fun x => [(3, x.2), (11, .slice a Z.length c), (12, .int .i64 Z.length), (13, .int .i64 x.1)])
    (fun x w => x.1 ≤ Z.length ∧ ∃ Zo : BZ, Zo.map Prod.snd = (J.l.take x.1).map Grp.b ∧ Zo.length = x.1 ∧ St w0 S0 w (ows rbs Zo :: row x.2 35 1 Zo.length (Zo.map Prod.fst) :: cel jb (JouC (dp d) fr bk (.slice a Z.length c) J) 94 :: row (.slice a Z.length c) 134 3 Z.length (gz Z) :: gp Z :: B)) (fun x => Z.length - x.1) (0, .slice none 0 0) ⟨rfl, rfl, rfl, rfl, trivial⟩ ⟨Nat.zero_le _, [], rfl, rfl, hS⟩ ?_
  clear hS
  rintro ⟨k, vo⟩ w ⟨hk, Zo, hZo, hZk, hS⟩
  simp only at hk hZo hZk hS
  (repeat (first | refine g_sq ?_ | refine g_rg ?_ | refine g_r0 ?_ | refine g_ok rfl rfl ?_ | refine g_no rfl ?_ | refine g_no0 rfl ?_ | refine g_bk ?_ | refine g_b ?_ | refine g_sk ?_ | refine g_cT rfl ?_ | refine g_cF rfl ?_ | refine g_x rfl ?_ | refine g_lb ?_))
  refine g_cd rfl (fun hc => ?_) (fun hc => ?_)
  all_goals simp only [cmv, decide_eq_true_eq, decide_eq_false_iff_not] at hc
  · have hlt : k < Z.length := by omega
    have hz : Z[k]? = some Z[k] := List.getElem?_eq_getElem hlt
    have hzm : Z[k] ∈ Z := List.getElem_mem hlt
    generalize Z[k] = z at hz hzm
    have hg : J.l[k]? = some z.1 := by rw [← k4, List.getElem?_map, hz]; rfl
    have hgb := k1.2.2 z.1 (List.mem_of_getElem? hg)
    obtain ⟨b1, cap1, rest1, hv1, hc1, hB1, hl1⟩ := row_blk hS 3 rfl (by omega)
    cases hv1
    have h1c := gv1_one hsl hzm
    obtain ⟨az, nz, cz, ez⟩ := hsl z hzm
    (repeat (first | refine g_sq ?_ | refine g_rg ?_ | refine g_r0 ?_ | refine g_ok rfl rfl ?_ | refine g_no rfl ?_ | refine g_no0 rfl ?_ | refine g_bk ?_ | refine g_b ?_ | refine g_sk ?_ | refine g_cT rfl ?_ | refine g_cF rfl ?_ | refine g_x rfl ?_ | refine g_lb ?_))
    refine g_rq rfl rfl ⟨by omega, by omega⟩ ?_
    refine g_lm rfl rfl hB1 (by rw [hl1]; show 0 + k * 3 + 3 ≤ _; omega) ?_
    rw [show ((k : Int).toNat) = k from rfl, gz_get hz rest1]
    refine g_ef rfl (ef_al hS fun g w hS => ?_)
    have hS := hS.front
    refine g_ef0 rfl (ef_st hS 0 rfl rfl rfl rfl (Nat.le_of_ble_eq_true rfl) h1c fun w hS => ?_)
    have hS : St w0 S0 w (cel g (gv1 z) 134 :: _) := hS
    (repeat (first | refine g_sq ?_ | refine g_rg ?_ | refine g_r0 ?_ | refine g_ok rfl rfl ?_ | refine g_no rfl ?_ | refine g_no0 rfl ?_ | refine g_bk ?_ | refine g_b ?_ | refine g_sk ?_ | refine g_cT rfl ?_ | refine g_cF rfl ?_ | refine g_x rfl ?_ | refine g_lb ?_))
    refine g_l1 rfl rfl (hS.b  0 rfl) rfl ?_
    (repeat (first | refine g_sq ?_ | refine g_rg ?_ | refine g_r0 ?_ | refine g_ok rfl rfl ?_ | refine g_no rfl ?_ | refine g_no0 rfl ?_ | refine g_bk ?_ | refine g_b ?_ | refine g_sk ?_ | refine g_cT rfl ?_ | refine g_cF rfl ?_ | refine g_x rfl ?_ | refine g_lb ?_))
    have hrz : Rd z.2 5 1 z.1.b.length (bys z.1.b) w := hS.ok 5 _ rfl (z.2, z.1.b) (List.mem_map.2 ⟨z, hzm, rfl⟩)
    refine g_cl rfl rfl (c92 hS hrz (bys_one _) (by omega) fun v' w hS => ?_)
    have hS := hS.front
    obtain ⟨a', c', rfl⟩ := hS.rlen 0 rfl
    (repeat (first | refine g_sq ?_ | refine g_rg ?_ | refine g_r0 ?_ | refine g_ok rfl rfl ?_ | refine g_no rfl ?_ | refine g_no0 rfl ?_ | refine g_bk ?_ | refine g_b ?_ | refine g_sk ?_ | refine g_cT rfl ?_ | refine g_cF rfl ?_ | refine g_x rfl ?_ | refine g_lb ?_))
    refine g_ef rfl (ef_bl (rs := [.slice a' z.1.b.length c']) hS rfl fun g2 w hS => ?_)
    have hS := hS.front
    refine g_ef rfl (ef_ap (n := Zo.length) (m := 1) (ys := [.slice a' z.1.b.length c']) hS 4 rfl rfl rfl (.inl ⟨35, .inr ⟨g2, 0, 1, _, rfl, Nat.le_refl _, Nat.le_refl _, rfl, (hS.b 0 rfl).r⟩⟩) rfl (by omega) (by omega) fun vo1 w hS => ?_)
    (repeat (first | refine g_sq ?_ | refine g_rg ?_ | refine g_r0 ?_ | refine g_ok rfl rfl ?_ | refine g_no rfl ?_ | refine g_no0 rfl ?_ | refine g_bk ?_ | refine g_b ?_ | refine g_sk ?_ | refine g_cT rfl ?_ | refine g_cF rfl ?_ | refine g_x rfl ?_ | refine g_lb ?_))
    refine g_rq rfl rfl (in64 (by simp only [arv]; omega)) ?_
    (repeat (first | refine g_sq ?_ | refine g_rg ?_ | refine g_r0 ?_ | refine g_ok rfl rfl ?_ | refine g_no rfl ?_ | refine g_no0 rfl ?_ | refine g_bk ?_ | refine g_b ?_ | refine g_sk ?_ | refine g_cT rfl ?_ | refine g_cF rfl ?_ | refine g_x rfl ?_ | refine g_lb ?_))
    have hS := hS.selB (A := [_, _, _, _, _, _, _, _]) (B := B) [3, 1, 4, 5, 6, 7] rfl rfl
    have hS := St.ows_app (F := rbs) (x := (.slice a' z.1.b.length c', z.1.b)) hS
    refine g_l (k + 1, vo1) ⟨rfl, rfl, rfl, rfl, trivial⟩ ⟨by simp only; omega, Zo ++ [(.slice a' z.1.b.length c', z.1.b)], ?_, by simp [hZk], ?_⟩ (by simp only; omega)
    · have hgl := (List.getElem?_eq_some_iff.1 hg).1
      have hge := (List.getElem?_eq_some_iff.1 hg).2
      simp only
      rw [List.take_succ_eq_append_getElem hgl, List.map_append, List.map_append, hZo, hge]
      rfl
    · have e1 : (Zo ++ [(Value.slice a' z.1.b.length c', z.1.b)]).length = Zo.length + 1 := by simp
      have e2 : (Zo ++ [(Value.slice a' z.1.b.length c', z.1.b)]).map Prod.fst = Zo.map Prod.fst ++ [.slice a' z.1.b.length c'] := by simp
      rw [e1, e2]
      exact hS
  · have e : J.l.take k = J.l := List.take_of_length_le (by omega)
    rw [e] at hZo
    have hS := hS.selB (A := [_, _, _, _, _]) (B := B) [2, 3, 4, 1, 0] rfl rfl
    obtain ⟨S', hS⟩ := JouR.cls k1 k2 k3 k4 hS
    (repeat (first | refine g_sq ?_ | refine g_rg ?_ | refine g_r0 ?_ | refine g_ok rfl rfl ?_ | refine g_no rfl ?_ | refine g_no0 rfl ?_ | refine g_bk ?_ | refine g_b ?_ | refine g_sk ?_ | refine g_cT rfl ?_ | refine g_cF rfl ?_ | refine g_x rfl ?_ | refine g_lb ?_))
    exact g_ret (q_1 rfl (h _ _ _ _ hZo hS))
end
end Go.Proofs.Ytegjocpjmfaigaa
