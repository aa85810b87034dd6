/- The chapter's examples. -/
import Derived.Test.YtibofabkpgigoaaGreatDoorNd2
set_option linter.unusedSimpArgs false
set_option linter.unusedVariables false
namespace Go.Proofs.YtibofabkpgigoaaGreatDoor
open Go.En

def id1 : Id := ⟨1 :: List.replicate 31 0, by decide⟩
def id2 : Id := ⟨2 :: List.replicate 31 0, by decide⟩
def main_ : Bs := [109, 97, 105, 110]
theorem brk_main : brk main_ = 0 := by decide
theorem brk_ab : brk [97, 126, 98] ≠ 0 := by decide
theorem pev_bd {T : TT} {z : ZZ} {ps : List (Nat × Nat × Operand)} {out : List Value} (h : fillP T ps (zx z) = some out) : pev T (.bd z ps) = .ok (.agg ⟨out⟩) := by simp [pev, h]
theorem evcs_c {T : TT} {a : Operand} {l : List Operand} {sz : Nat} {cs r : List Value} (ha : ev T a = some (.agg ⟨cs⟩)) (hl : cs.length = sz) (hr : evcs T sz l = some r) : evcs T sz (a :: l) = some (cs ++ (r ++ [])) := by
  subst hl
  have e : Nat.beq cs.length cs.length = true := Nat.beq_refl _
  unfold evcs
  rw [ha, hr, List.append_nil]
  show (match Nat.beq cs.length cs.length with | true => some (cs ++ r) | false => none) = _
  rw [e]
theorem iset_of {l m : List Id} (hm : m.Pairwise (lts fun x : Id => x.1)) (h : ∀ x, x ∈ m ↔ x ∈ l) : iset l = m :=
  lts_unique _ id_inj (kset_sorted _ id_inj l) hm fun x => (mem_kset _ l x).trans (h x).symm
theorem iset_none : iset [] = [] := iset_of List.Pairwise.nil fun x => Iff.rfl
theorem iset_1 (x : Id) : iset [x] = [x] := iset_of (List.pairwise_singleton _ _) fun x => Iff.rfl
theorem iset_2 : iset [id2, id1, id2] = [id1, id2] := iset_of (by
  refine List.pairwise_cons.2 ⟨fun y hy => ?_, List.pairwise_singleton _ _⟩
  rw [List.mem_singleton.1 hy]
  exact ⟨by decide, by decide⟩) fun x => by simp; exact .inr
theorem nm_none : nmL main_ [] = [] := by unfold nmL; rw [iset_none]; rfl
theorem nm_1 (x : Id) : nmL main_ [x] = [(main_, x)] := by unfold nmL; rw [iset_1]; rfl
theorem nm_2 : nmL main_ [id2, id1, id2] = [(cfl main_ id1, id1), (cfl main_ id2, id2)] := by unfold nmL; rw [iset_2]; rfl
section
variable {w w0 : World} {S0 : Nat → Prop} {L B : List Res} {K : Value → World → Prop} {s : Bs}
set_option maxRecDepth 100000 in
theorem b_alive (hg : Gl w) (h : ∀ w', St w (fun _ => False) w' [] → K (.bool true) w') : CK Tryz.prog 7 [] w K := by
  have hS := St.nil w (fun _ => False)
  refine call_k Tryz.func7 k7 Tryz.ntmps7 (Nat.le_of_ble_eq_true rfl) ?_
  (repeat (first | refine g_sq ?_ | refine g_rg ?_ | refine g_r0 ?_ | refine g_ok rfl rfl ?_ | refine g_no rfl ?_ | refine g_no0 rfl ?_ | refine g_bk ?_ | refine g_b ?_ | refine g_sk ?_ | refine g_cT rfl ?_ | refine g_cF rfl ?_ | refine g_x rfl ?_ | refine g_lb ?_))
  refine g_ef rfl (ef_al hS fun b1 w1 hS => ?_)
  refine g_ef rfl (ef_al hS fun b2 w1 hS => ?_)
  refine g_ef0 rfl (ef_st hS 0 rfl rfl rfl rfl (Nat.le_of_ble_eq_true rfl) rfl fun w1 hS => ?_)
  refine g_ef0 rfl (ef_st hS 1 rfl rfl rfl rfl (Nat.le_of_ble_eq_true rfl) rfl fun w1 hS => ?_)
  replace hS : St w (fun _ => False) w1 [cel b1 (ic id1) 35, cel b2 (ic id2) 35] := hS
  (repeat (first | refine g_sq ?_ | refine g_rg ?_ | refine g_r0 ?_ | refine g_ok rfl rfl ?_ | refine g_no rfl ?_ | refine g_no0 rfl ?_ | refine g_bk ?_ | refine g_b ?_ | refine g_sk ?_ | refine g_cT rfl ?_ | refine g_cF rfl ?_ | refine g_x rfl ?_ | refine g_lb ?_))
  refine g_cl rfl rfl (b_Names (E0 := 0) (s := main_) (ids := []) (n := 0) rfl (by decide) (hg.in hS) (.inl ⟨⟨none, rfl⟩, rfl, rfl⟩) (fun h => absurd brk_main h) fun _ v1 w1 h' => ?_)
  replace hS := hS.call0.2 _ _ h'
  rw [nm_none] at hS
  obtain ⟨a0, c0, rfl⟩ := hS.rlen 2 rfl
  (repeat (first | refine g_sq ?_ | refine g_rg ?_ | refine g_r0 ?_ | refine g_ok rfl rfl ?_ | refine g_no rfl ?_ | refine g_no0 rfl ?_ | refine g_bk ?_ | refine g_b ?_ | refine g_sk ?_ | refine g_cT rfl ?_ | refine g_cF rfl ?_ | refine g_x rfl ?_ | refine g_lb ?_))
  refine g_lm rfl rfl (hS.b 0 rfl) (Nat.le_of_eq (ic_len id1).symm) ?_
  rw [List.drop_zero, List.take_of_length_le (Nat.le_of_eq (ic_len id1))]
  refine g_ef rfl (ef_bl (rs := fl ic [id1]) hS (by rw [show fl ic [id1] = ic id1 by simp [fl]]; exact evcs_1 rfl (ic_len _)) fun g1 w1 hS => ?_)
  have rb : ∀ {b n : Nat} {d : List Id} {w : World}, d.length = n → Blk w b (fl ic d) 35 → Rd (.slice (some ⟨b, 0, none⟩) n n) 35 32 n (fl ic d) w := fun {b n d w} hd hb =>
    .inr ⟨b, 0, n, _, rfl, Nat.le_refl _, by rw [fl_len ic_len, hd]; omega, by rw [List.drop_zero, List.take_of_length_le (by rw [fl_len ic_len, hd]; exact Nat.le_refl _)], hb.r⟩
  refine g_cl rfl rfl (b_Names (s := main_) (ids := [id1]) (n := 1) rfl (by decide) (hg.in hS) (rb rfl (hS.b 3 rfl)) (fun h => absurd brk_main h) fun _ v1 w1 h' => ?_)
  replace hS := hS.call0.2 _ _ h'
  rw [nm_1] at hS
  obtain ⟨a1, c1, rfl⟩ := hS.rlen 4 rfl
  (repeat (first | refine g_sq ?_ | refine g_rg ?_ | refine g_r0 ?_ | refine g_ok rfl rfl ?_ | refine g_no rfl ?_ | refine g_no0 rfl ?_ | refine g_bk ?_ | refine g_b ?_ | refine g_sk ?_ | refine g_cT rfl ?_ | refine g_cF rfl ?_ | refine g_x rfl ?_ | refine g_lb ?_))
  refine g_lm rfl rfl (hS.b 1 rfl) (Nat.le_of_eq (ic_len id2).symm) ?_
  refine g_lm rfl rfl (hS.b 0 rfl) (Nat.le_of_eq (ic_len id1).symm) ?_
  refine g_lm rfl rfl (hS.b 1 rfl) (Nat.le_of_eq (ic_len id2).symm) ?_
  rw [List.drop_zero, List.drop_zero, List.take_of_length_le (Nat.le_of_eq (ic_len id1)), List.take_of_length_le (Nat.le_of_eq (ic_len id2))]
  refine g_ef rfl (ef_bl (rs := fl ic [id2, id1, id2]) hS rfl fun g2 w1 hS => ?_)
  refine g_cl rfl rfl (b_Names (s := main_) (ids := [id2, id1, id2]) (n := 3) rfl (by decide) (hg.in hS) (rb rfl (hS.b 5 rfl)) (fun h => absurd brk_main h) fun _ v1 w1 h' => ?_)
  replace hS := hS.call0.2 _ _ h'
  rw [nm_2] at hS
  obtain ⟨a2, c2, rfl⟩ := hS.rlen 6 rfl
  (repeat (first | refine g_sq ?_ | refine g_rg ?_ | refine g_r0 ?_ | refine g_ok rfl rfl ?_ | refine g_no rfl ?_ | refine g_no0 rfl ?_ | refine g_bk ?_ | refine g_b ?_ | refine g_sk ?_ | refine g_cT rfl ?_ | refine g_cF rfl ?_ | refine g_x rfl ?_ | refine g_lb ?_))
  refine g_lm rfl rfl (hS.b 0 rfl) (Nat.le_of_eq (ic_len id1).symm) ?_
  rw [List.drop_zero, List.take_of_length_le (Nat.le_of_eq (ic_len id1))]
  refine g_ef rfl (ef_bl (rs := fl ic [id1]) hS (by rw [show fl ic [id1] = ic id1 by simp [fl]]; exact evcs_1 rfl (ic_len _)) fun g3 w1 hS => ?_)
  refine g_cl rfl rfl (b_Names (s := [97, 126, 98]) (ids := [id1]) (n := 1) rfl (by decide) (hg.in hS) (rb rfl (hS.b 7 rfl)) (fun _ w1 h' => ?_) fun h => absurd h brk_ab)
  replace hS := hS.call0.2 _ _ h'
  rw [List.append_nil] at hS
  (repeat (first | refine g_sq ?_ | refine g_rg ?_ | refine g_r0 ?_ | refine g_ok rfl rfl ?_ | refine g_no rfl ?_ | refine g_no0 rfl ?_ | refine g_bk ?_ | refine g_b ?_ | refine g_sk ?_ | refine g_cT rfl ?_ | refine g_cF rfl ?_ | refine g_x rfl ?_ | refine g_lb ?_))
  refine g_dr mixed ?_
  replace hS := hS.drew
  have l1 := ic_len id1
  have l2 := ic_len id2
  have d1 : ((ic id1).drop 0).take 32 = ic id1 := by rw [List.drop_zero, List.take_of_length_le (Nat.le_of_eq l1)]
  have d2 : ((ic id2).drop 0).take 32 = ic id2 := by rw [List.drop_zero, List.take_of_length_le (Nat.le_of_eq l2)]
  refine d_lm rfl rfl rfl (hS.b 0 rfl) (Nat.le_of_eq l1.symm) ?_
  refine d_lm rfl rfl rfl (hS.b 0 rfl) (Nat.le_of_eq l1.symm) ?_
  refine d_lm rfl rfl rfl (hS.b 1 rfl) (Nat.le_of_eq l2.symm) ?_
  refine d_lm rfl rfl rfl (hS.b 1 rfl) (Nat.le_of_eq l2.symm) ?_
  rw [d1, d2]
  refine d_cl rfl rfl rfl (b_Text id1.2 fun w1 h' => ?_)
  replace hS := hS.call0.2 _ _ h'
  rw [List.append_nil] at hS
  refine ⟨rc_m rfl rfl rfl rfl (hS.b 0 rfl) (Nat.le_of_eq l1.symm) d1 (rc_m rfl rfl rfl rfl (hS.b 1 rfl) (Nat.le_of_eq l2.symm) d2 (rc_m rfl rfl rfl rfl (hS.b 1 rfl) (Nat.le_of_eq l2.symm) d2 rc_0)), ?_⟩
  refine d_rq rfl rfl rfl (by simp [Lib.size_eq, hex_len, id1]) ?_
  have es : ∀ id : Id, (⟨#[109, 97, 105, 110, 126]⟩ : ByteArray) ++ ⟨(hex id.1).toArray⟩ = ⟨(cfl main_ id).toArray⟩ := fun id => by
    have : sv (cfl main_ id) = .string ((⟨#[109, 97, 105, 110, 126]⟩ : ByteArray) ++ ⟨(hex id.1).toArray⟩) := by
      rw [← sv_of]; congr 1
    unfold sv at this
    exact (Value.string.inj this).symm
  rw [es]
  refine d_ok rfl rfl (pev_bd (fill_li (cfl main_ id1, id1) rfl rfl)) ?_
  refine d_cl rfl rfl rfl (b_Text id2.2 fun w1 h' => ?_)
  replace hS := hS.call0.2 _ _ h'
  rw [List.append_nil] at hS
  refine ⟨rc_m rfl rfl rfl rfl (hS.b 0 rfl) (Nat.le_of_eq l1.symm) d1 (rc_m rfl rfl rfl rfl (hS.b 1 rfl) (Nat.le_of_eq l2.symm) d2 rc_0), ?_⟩
  refine d_rq rfl rfl rfl (by simp [Lib.size_eq, hex_len, id2]) ?_
  rw [es]
  refine d_ok rfl rfl (pev_bd (fill_li (cfl main_ id2, id2) rfl rfl)) ?_
  refine d_e rfl rfl ?_
  refine ef_bl (rs := fl lc [(cfl main_ id1, id1), (cfl main_ id2, id2)]) hS (evcs_c rfl (lc_len _) (evcs_1 rfl (lc_len _))) fun g4 w1 hS => ⟨rc_0, ?_⟩
  (repeat (first | refine d_ok rfl rfl rfl ?_ | refine d_no rfl rfl ?_))
  refine d_fin ?_
  (repeat (first | refine g_sq ?_ | refine g_rg ?_ | refine g_r0 ?_ | refine g_ok rfl rfl ?_ | refine g_no rfl ?_ | refine g_no0 rfl ?_ | refine g_bk ?_ | refine g_b ?_ | refine g_sk ?_ | refine g_cT rfl ?_ | refine g_cF rfl ?_ | refine g_x rfl ?_ | refine g_lb ?_))
  refine g_lm rfl rfl (hS.b 0 rfl) (Nat.le_of_eq l1.symm) ?_
  rw [d1]
  refine g_ok rfl (pev_bd (fill_li (main_, id1) rfl rfl)) ?_
  refine g_ef rfl (ef_bl (rs := fl lc [(main_, id1)]) hS (by rw [show fl lc [(main_, id1)] = lc (main_, id1) by simp [fl]]; exact evcs_1 rfl (lc_len _)) fun g5 w1 hS => ?_)
  have rl : ∀ {b n : Nat} {d : List Li} {w : World}, d.length = n → Blk w b (fl lc d) 41 → Rd (.slice (some ⟨b, 0, none⟩) n n) 41 33 n (fl lc d) w := fun {b n d w} hd hb =>
    .inr ⟨b, 0, n, _, rfl, Nat.le_refl _, by rw [fl_len lc_len, hd]; omega, by rw [List.drop_zero, List.take_of_length_le (by rw [fl_len lc_len, hd]; exact Nat.le_refl _)], hb.r⟩
  refine g_cl rfl rfl (r_Same (d := [(main_, id1)]) (e := [(main_, id1)]) rfl rfl (by decide) (by decide) (Ow.rd (hS.ok 4 _ rfl)) (rl rfl (hS.b 9 rfl)) fun w1 h' => ?_)
  replace hS := hS.call0.2 _ _ h'
  rw [List.append_nil] at hS
  rw [decide_eq_true rfl]
  (repeat (first | refine g_sq ?_ | refine g_rg ?_ | refine g_r0 ?_ | refine g_ok rfl rfl ?_ | refine g_no rfl ?_ | refine g_no0 rfl ?_ | refine g_bk ?_ | refine g_b ?_ | refine g_sk ?_ | refine g_cT rfl ?_ | refine g_cF rfl ?_ | refine g_x rfl ?_ | refine g_lb ?_))
  refine g_cl rfl rfl (r_Same (d := [(cfl main_ id1, id1), (cfl main_ id2, id2)]) (e := [(cfl main_ id1, id1), (cfl main_ id2, id2)]) rfl rfl (by decide) (by decide) (Ow.rd (hS.ok 6 _ rfl)) (rl rfl (hS.b 8 rfl)) fun w1 h' => ?_)
  replace hS := hS.call0.2 _ _ h'
  rw [List.append_nil] at hS
  rw [decide_eq_true rfl]
  (repeat (first | refine g_sq ?_ | refine g_rg ?_ | refine g_r0 ?_ | refine g_ok rfl rfl ?_ | refine g_no rfl ?_ | refine g_no0 rfl ?_ | refine g_bk ?_ | refine g_b ?_ | refine g_sk ?_ | refine g_cT rfl ?_ | refine g_cF rfl ?_ | refine g_x rfl ?_ | refine g_lb ?_))
  exact g_ret (q_1 rfl (h _ (hS.sel [] rfl rfl)))
end
end Go.Proofs.YtibofabkpgigoaaGreatDoor
