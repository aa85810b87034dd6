/- The statement DepotSafe: the walk. -/
import Derived.Test.YtegjocpjmfaigaaNk
set_option linter.unusedSimpArgs false
set_option linter.unusedVariables false
namespace Go.Proofs.Ytegjocpjmfaigaa
open Go.En

section
variable {w w0 : World} {S0 S S1 : Nat → Prop} {K : Value → World → Prop} {E : TypeId} {L B : List Res} {pb d : Nat} {D : Dev}
/-- behind what was done: what came of it -/
def SafM (N k : Nat) (kind : Int) (v : Bool) (l : List Grp) (P : Dep) (D : Dev) (M : List (List UInt8)) (e : Int) : Prop :=
  (e = 0 ∧ D.down = false ∧ D.waits = [] ∧ ∃ v' l', PI P N v' l' ∧ Dk D.cells N v' l' ∧ M = l'.map Grp.b ∧ lastOf l' ≤ k + 1) ∨
  (e ≠ 0 ∧ e ≠ 141 ∧ D.down = false ∧ D.waits = [] ∧ PI P N v l ∧ Dk D.cells N v l) ∨
  (e = 141 ∧ D.down = true ∧ D.waits = [] ∧ (Dk D.cells N v l ∨ (kind ≠ 3 ∧ ∃ v' l', Dk D.cells N v' l' ∧ M = l'.map Grp.b ∧ lastOf l' ≤ k + 1)))
theorem saf_append {P : Dep} {D : Dev} {N k : Nat} {v : Bool} {l : List Grp} {b : List UInt8} {kind : Int} (hP : PI P N v l) (hD : Dk D.cells N v l) (hd : D.down = false) (hwt : D.waits = []) (hw : D.wf) (hb : b.length ≤ 1000) (hN : 4 ≤ N ∧ N ≤ 4096) (hlk : lastOf l ≤ k) (hk : k < 255) (h3 : kind ≠ 3) : SafM N k kind v l (P.append D b).1 (P.append D b).2.1 (l.map Grp.b ++ [b]) (P.append D b).2.2 := by
  have hmap : ∀ n, (l ++ [(⟨n, b⟩ : Grp)]).map Grp.b = l.map Grp.b ++ [b] := fun n => by rw [List.map_append]; rfl
  have hlast : ∀ n, lastOf (l ++ [(⟨n, b⟩ : Grp)]) = n := fun n => lastOf_app _ _
  rcases depot_append (b := b) hP hD hd hwt hw hb hN (by omega) with ⟨hl, e⟩ | ⟨hl, hfit, P', e, hP'⟩ | ⟨hl, hfit, P', D', e, hd', hw', hP', hD'⟩ | ⟨hl, hfit, P', D', e, hd', hw', hD'⟩
  · rw [e]; exact .inr (.inl ⟨by simp, by simp, hd, hwt, hP, hD⟩)
  · rw [e]; exact .inr (.inl ⟨by simp, by simp, hd, hwt, hP', hD⟩)
  · rw [e]; exact .inl ⟨rfl, hd', hw', v, _, hP', hD', (hmap _).symm, by rw [hlast]; omega⟩
  · rw [e]; exact .inr (.inr ⟨rfl, hd', hw', hD'.imp id fun h => ⟨h3, v, _, h, (hmap _).symm, by rw [hlast]; omega⟩⟩)
theorem saf_compact {P : Dep} {D : Dev} {N k : Nat} {v : Bool} {l : List Grp} {b : List UInt8} {kind : Int} (hP : PI P N v l) (hD : Dk D.cells N v l) (hd : D.down = false) (hwt : D.waits = []) (hw : D.wf) (hb : b.length ≤ 1000) (hN : 4 ≤ N ∧ N ≤ 4096) (hlk : lastOf l ≤ k) (hk : k < 255) (h3 : kind ≠ 3) : SafM N k kind v l (P.compact D b).1 (P.compact D b).2.1 [b] (P.compact D b).2.2 := by
  have hlast : lastOf [(⟨lastOf l + 1, b⟩ : Grp)] = lastOf l + 1 := rfl
  rcases depot_compact (b := b) hP hD hd hwt hw hb hN (by omega) with ⟨hfit, e⟩ | ⟨hfit, P', D', e, hd', hw', hP', hD'⟩ | ⟨hfit, P', D', e, hd', hw', hD'⟩
  · rw [e]; exact .inr (.inl ⟨by simp, by simp, hd, hwt, hP, hD⟩)
  · rw [e]; exact .inl ⟨rfl, hd', hw', _, _, hP', hD', rfl, by rw [hlast]; omega⟩
  · rw [e]; exact .inr (.inr ⟨rfl, hd', hw', hD'.imp id fun h => ⟨h3, _, _, h, rfl, by rw [hlast]; omega⟩⟩)
theorem saf_crash {P : Dep} {D : Dev} {N k : Nat} {v : Bool} {l : List Grp} {M : List (List UInt8)} {kind : Int} (f : Fal) (hD : Dk D.cells N v l) (hwt : D.waits = []) : SafM N k kind v l P (D.crash f) M 141 := by
  refine .inr (.inr ⟨rfl, rfl, rfl, .inl ?_⟩)
  have : (D.crash f).cells = D.cells := by
    show crashC f 0 D.waits D.cells = D.cells
    rw [hwt]; rfl
  rw [this]
  exact hD
set_option maxRecDepth 100000 in
set_option maxHeartbeats 2000000 in
theorem l16 {bl : Int} {v : Value} {ops : List Odp} (h0 : 0 ≤ bl ∧ bl ≤ 255) (hv : OpsP E v ops w0) (h : ∀ w', Fr w0 (fun _ => False) w' → K (.bool true) w') : CK Try.prog 16 [.int .u8 bl, v] w0 K := by
  have hS := St.nil w0 (fun _ => False)
  have hfin : ∀ {w' : World} {L : List Res}, St w0 (fun _ => False) w' L → K (.bool true) w' := fun hS => h _ hS.fr
  obtain ⟨N, hN1, hN2, hN⟩ := blocks40 h0
  obtain ⟨a, c, rfl⟩ := Rd.form hv.1
  refine call_k Try.func16 k16 Try.ntmps16 (Nat.le_of_ble_eq_true rfl) ?_
  (repeat (first | refine g_sq ?_ | refine g_rg ?_ | refine g_r0 ?_ | refine g_ok rfl rfl ?_ | refine g_no rfl ?_ | refine g_no0 rfl ?_ | refine g_bk ?_ | refine g_b ?_ | refine g_sk ?_ | refine g_cT rfl ?_ | refine g_cF rfl ?_ | refine g_x rfl ?_ | refine g_lb ?_))
  refine g_cl rfl rfl (c56 hS fun w hS => ?_)
  (repeat (first | refine g_sq ?_ | refine g_rg ?_ | refine g_r0 ?_ | refine g_ok rfl rfl ?_ | refine g_no rfl ?_ | refine g_no0 rfl ?_ | refine g_bk ?_ | refine g_b ?_ | refine g_sk ?_ | refine g_cT rfl ?_ | refine g_cF rfl ?_ | refine g_x rfl ?_ | refine g_lb ?_))
  refine g_rq rfl rfl (by decide) ?_
  rw [hN]
  refine g_rq rfl rfl (in64 (by simp only [arv]; omega)) ?_
  rw [show arv BinOp.add 4 ((N : Int) - 4) = (N : Int) by simp only [arv]; omega]
  refine g_cl rfl rfl (c57 ⟨hN1, by omega⟩ hS fun w S S1 pb d hS => ?_)
  have hS : St w0 (fun _ => False) w [DepR S pb d (openP (Dev.new N)), DevR S1 d (Dev.new N)] := hS
  (repeat (first | refine g_sq ?_ | refine g_rg ?_ | refine g_r0 ?_ | refine g_ok rfl rfl ?_ | refine g_no rfl ?_ | refine g_no0 rfl ?_ | refine g_bk ?_ | refine g_b ?_ | refine g_sk ?_ | refine g_cT rfl ?_ | refine g_cF rfl ?_ | refine g_x rfl ?_ | refine g_lb ?_))
  refine g_cl rfl rfl (l58 (OpsP.to hv hS) (fun hg => ?_) (fun hg => ?_))
  · (repeat (first | refine g_sq ?_ | refine g_rg ?_ | refine g_r0 ?_ | refine g_ok rfl rfl ?_ | refine g_no rfl ?_ | refine g_no0 rfl ?_ | refine g_bk ?_ | refine g_b ?_ | refine g_sk ?_ | refine g_cT rfl ?_ | refine g_cF rfl ?_ | refine g_x rfl ?_ | refine g_lb ?_))
    exact g_ret (q_1 rfl (hfin hS))
  have h60 := hg.1
  have hS := hS.nilrow 35 1
  (repeat (first | refine g_sq ?_ | refine g_rg ?_ | refine g_r0 ?_ | refine g_ok rfl rfl ?_ | refine g_no rfl ?_ | refine g_no0 rfl ?_ | refine g_bk ?_ | refine g_b ?_ | refine g_sk ?_ | refine g_cT rfl ?_ | refine g_cF rfl ?_ | refine g_x rfl ?_ | refine g_lb ?_))
  refine g_lp (ι := Nat × Nat × Value) (fun x => [(1, .slice a ops.length c), (5, .bool true), (6, dp d), (7, dp x.2.1), (8, x.2.2), (35, .int .i64 ops.length), (36, .int .i64 x.1)])
    (fun x w => x.1 ≤ ops.length ∧ ∃ (S S1 : Nat → Prop) (P : Dep) (D : Dev) (v : Bool) (l : List Grp) (Z : BZ), PI P N v l ∧ Dk D.cells N v l ∧ D.down = false ∧ D.waits = [] ∧ lastOf l ≤ x.1 ∧ Z.map Prod.snd = l.map Grp.b ∧ (∀ p ∈ Z, Ext w0 p) ∧ St w0 (fun _ => False) w [DepR S x.2.1 d P, DevR S1 d D, row x.2.2 35 1 Z.length (Z.map Prod.fst)]) (fun x => ops.length - x.1) (0, pb, .slice none 0 0) ⟨rfl, rfl, rfl, rfl, rfl, rfl, rfl, trivial⟩
    ⟨Nat.zero_le _, S, S1, _, _, false, [], [], pi_new hN1, dk_new hN1, rfl, rfl, Nat.zero_le _, rfl, (fun p hp => nomatch hp), hS⟩ ?_
  clear hS
  rintro ⟨k, pb, vh⟩ w ⟨hk, S, S1, P, D, bv, l, Z, hP, hD, hdn, hwt, hlk, hZ, hext, hS⟩
  simp only at hk hlk hS
  have hem := hD.em
  have hus := hD.used
  have hll := list_len (P := P) hD (by omega)
  have hZl : Z.length = l.length := by have := congrArg List.length hZ; simpa using this
  have hZs : Z.length ≤ 4096 := by have := usedOf_len l; omega
  obtain ⟨ah, ch, rfl⟩ := hS.rlen 2 rfl
  (repeat (first | refine g_sq ?_ | refine g_rg ?_ | refine g_r0 ?_ | refine g_ok rfl rfl ?_ | refine g_no rfl ?_ | refine g_no0 rfl ?_ | refine g_bk ?_ | refine g_b ?_ | refine g_sk ?_ | refine g_cT rfl ?_ | refine g_cF rfl ?_ | refine g_x rfl ?_ | refine g_lb ?_))
  refine g_cd rfl (fun hq => ?_) (fun hq => ?_)
  all_goals simp only [cmv, decide_eq_true_eq, decide_eq_false_iff_not] at hq
  · obtain ⟨o, bo, off, cap, lo, av, cv, ho, hmem, he, hov, hxt, hlo, hget, hf3, hB⟩ := odp_at hv (k := k) (by omega)
    cases he
    have h1000 := hg.2 o hmem
    have hx1 : lo[off + k * 5 + 1]? = some (.slice av o.bs.length cv) := by rw [hget 1 (by decide), ← hov]; rfl
    rw [hov] at hxt
    have hwf := (DevR.blk (hS.sel [1] rfl rfl)).1
    have hone : (Z.map Prod.fst).all (·.oneCell') = true := form_one fun z hz => by
      obtain ⟨E', hr⟩ := hext z hz
      obtain ⟨a', c', e'⟩ := Rd.form hr
      exact ⟨a', _, c', e'⟩
    (repeat (first | refine g_sq ?_ | refine g_rg ?_ | refine g_r0 ?_ | refine g_ok rfl rfl ?_ | refine g_no rfl ?_ | refine g_no0 rfl ?_ | refine g_bk ?_ | refine g_b ?_ | refine g_sk ?_ | refine g_cT rfl ?_ | refine g_cF rfl ?_ | refine g_x rfl ?_ | refine g_lb ?_))
    refine g_atx (ι := Nat × Value × Int) 2 (fun x => [(1, .slice (some ⟨bo, off, none⟩) ops.length c), (5, .bool true), (6, dp d), (7, dp x.1), (8, .slice ah Z.length ch), (9, .int .i64 k), (10, x.2.1), (11, .int .i64 x.2.2), (35, .int .i64 ops.length), (36, .int .i64 k)])
      (fun x w => ∃ (S S1 : Nat → Prop) (P' : Dep) (D' : Dev) (M : BZ), SafM N k o.k bv l P' D' (M.map Prod.snd) x.2.2 ∧ (∀ p ∈ M, Ext w0 p) ∧ M.length ≤ 1000000 ∧ St w0 (fun _ => False) w [DepR S x.1 d P', DevR S1 d D', row (.slice ah Z.length ch) 35 1 Z.length (Z.map Prod.fst), row x.2.1 35 1 M.length (M.map Prod.fst)]) rfl ?_ ?_
    · refine g_rq rfl rfl ⟨by omega, by omega⟩ ?_
      (repeat (first | refine g_sq ?_ | refine g_rg ?_ | refine g_r0 ?_ | refine g_ok rfl rfl ?_ | refine g_no rfl ?_ | refine g_no0 rfl ?_ | refine g_bk ?_ | refine g_b ?_ | refine g_sk ?_ | refine g_cT rfl ?_ | refine g_cF rfl ?_ | refine g_x rfl ?_ | refine g_lb ?_))
      refine g_l1r (v := .int .i64 o.k) rfl rfl (hB hS) (hget 0 (by decide)) ?_
      (repeat (first | refine g_sq ?_ | refine g_rg ?_ | refine g_r0 ?_ | refine g_ok rfl rfl ?_ | refine g_no rfl ?_ | refine g_no0 rfl ?_ | refine g_bk ?_ | refine g_b ?_ | refine g_sk ?_ | refine g_cT rfl ?_ | refine g_cF rfl ?_ | refine g_x rfl ?_ | refine g_lb ?_))
      refine g_cd rfl (fun hz => ?_) (fun hz => ?_)
      all_goals simp only [cmv, decide_eq_true_eq, decide_eq_false_iff_not] at hz
      · -- an entry
        have hS := hS.nilrow 35 1
        (repeat (first | refine g_sq ?_ | refine g_rg ?_ | refine g_r0 ?_ | refine g_ok rfl rfl ?_ | refine g_no rfl ?_ | refine g_no0 rfl ?_ | refine g_bk ?_ | refine g_b ?_ | refine g_sk ?_ | refine g_cT rfl ?_ | refine g_cF rfl ?_ | refine g_x rfl ?_ | refine g_lb ?_))
        refine g_dr mixed ?_
        have hS := hS.drew
        have hS : St w0 (fun _ => False) w.drew [DepR S pb d P, DevR S1 d D, row (.slice ah Z.length ch) 35 1 Z.length (Z.map Prod.fst), row (.slice none 0 0) 35 1 0 []] := hS
        (repeat (first | refine d_ok rfl rfl rfl ?_ | refine d_no rfl rfl ?_))
        refine d_rq rfl rfl rfl ⟨by omega, by omega⟩ ?_
        (repeat (first | refine d_ok rfl rfl rfl ?_ | refine d_no rfl rfl ?_))
        refine d_l1r rfl rfl rfl (hB hS) hx1 ?_
        have hextM : ∀ p ∈ Z ++ [(Value.slice av o.bs.length cv, o.bs)], Ext w0 p := fun p hp => by
          rcases List.mem_append.1 hp with hp | hp
          · exact hext p hp
          · simp at hp; subst hp; exact hxt
        have hML : (Z ++ [(Value.slice av o.bs.length cv, o.bs)]).length = 0 + Z.length + 1 := by simp
        have hMf : (Z ++ [(Value.slice av o.bs.length cv, o.bs)]).map Prod.fst = ([] ++ Z.map Prod.fst) ++ [.slice av o.bs.length cv] := by simp
        have hMs : (Z ++ [(Value.slice av o.bs.length cv, o.bs)]).map Prod.snd = l.map Grp.b ++ [o.bs] := by rw [List.map_append, hZ]; rfl
        refine d_a2 ?_ (d_a1 ?_)
        · refine d_e rfl rfl ?_
          refine ef_ap (n := 0) (m := Z.length) (ys := Z.map Prod.fst) hS 3 rfl rfl rfl (.inl ⟨35, Ow.rd (hS.ok 2 _ rfl)⟩) hone (by omega) (by omega) fun vm w hS => ⟨rc_1r rfl rfl rfl rfl (hB hS) hx1 rc_0, ?_⟩
          refine d_e rfl rfl ?_
          refine ef_bl (rs := [.slice av o.bs.length cv]) hS rfl fun g w hS => ⟨rc_0, ?_⟩
          refine d_e rfl rfl ?_
          refine ef_ap (n := 0 + Z.length) (m := 1) (ys := [.slice av o.bs.length cv]) hS 3 rfl rfl rfl (.inl ⟨35, .inr ⟨g, 0, 1, _, rfl, Nat.le_refl _, Nat.le_refl _, rfl, (hS.b 4 rfl).r⟩⟩) rfl (by omega) (by omega) fun vm1 w hS => ⟨rc_0, ?_⟩
          refine d_e rfl rfl ?_
          refine ef_qt ((pev_ok rfl).2 _) ⟨rc_0, ?_⟩
          refine d_fin ?_
          (repeat (first | refine g_sq ?_ | refine g_rg ?_ | refine g_r0 ?_ | refine g_ok rfl rfl ?_ | refine g_no rfl ?_ | refine g_no0 rfl ?_ | refine g_bk ?_ | refine g_b ?_ | refine g_sk ?_ | refine g_cT rfl ?_ | refine g_cF rfl ?_ | refine g_x rfl ?_ | refine g_lb ?_))
          refine g_rq rfl rfl ⟨by omega, by omega⟩ ?_
          (repeat (first | refine g_sq ?_ | refine g_rg ?_ | refine g_r0 ?_ | refine g_ok rfl rfl ?_ | refine g_no rfl ?_ | refine g_no0 rfl ?_ | refine g_bk ?_ | refine g_b ?_ | refine g_sk ?_ | refine g_cT rfl ?_ | refine g_cF rfl ?_ | refine g_x rfl ?_ | refine g_lb ?_))
          refine g_l1r rfl rfl (hB hS) hx1 ?_
          obtain ⟨E2, hu⟩ := hxt.rd hS
          refine g_cl rfl rfl (c63 (bs := o.bs) (by omega) (by rw [hwt]; decide) hu (fun x hx => ⟨hxt.dis hS 0 rfl x hx, hxt.dis hS 1 rfl x hx⟩) hS fun w S S1 hS => ?_)
          (repeat (first | refine g_sq ?_ | refine g_rg ?_ | refine g_r0 ?_ | refine g_ok rfl rfl ?_ | refine g_no rfl ?_ | refine g_no0 rfl ?_ | refine g_bk ?_ | refine g_b ?_ | refine g_sk ?_ | refine g_cT rfl ?_ | refine g_cF rfl ?_ | refine g_x rfl ?_ | refine g_lb ?_))
          refine g_jx (pb, vm1, (P.append D o.bs).2.2) ⟨rfl, rfl, rfl, rfl, rfl, rfl, rfl, rfl, rfl, rfl, trivial⟩ ⟨S, S1, (P.append D o.bs).1, (P.append D o.bs).2.1, Z ++ [(Value.slice av o.bs.length cv, o.bs)], ?_, hextM, by rw [hML]; omega, ?_⟩
          · rw [hMs]
            exact saf_append hP hD hdn hwt hwf h1000 ⟨hN1, by omega⟩ hlk (by omega) (by omega)
          · rw [hML, hMf]
            exact hS.sel [0, 1, 2, 3] rfl rfl
        · refine d_e rfl rfl ?_
          refine ef_bl (rs := [.slice av o.bs.length cv]) hS rfl fun g w hS => ⟨rc_0, ?_⟩
          refine d_e rfl rfl ?_
          refine ef_ap (n := 0) (m := Z.length) (ys := Z.map Prod.fst) hS 3 rfl rfl rfl (.inl ⟨35, Ow.rd (hS.ok 2 _ rfl)⟩) hone (by omega) (by omega) fun vm w hS => ⟨rc_0, ?_⟩
          refine d_e rfl rfl ?_
          refine ef_ap (n := 0 + Z.length) (m := 1) (ys := [.slice av o.bs.length cv]) hS 3 rfl rfl rfl (.inl ⟨35, .inr ⟨g, 0, 1, _, rfl, Nat.le_refl _, Nat.le_refl _, rfl, (hS.b 4 rfl).r⟩⟩) rfl (by omega) (by omega) fun vm1 w hS => ⟨rc_0, ?_⟩
          refine d_e rfl rfl ?_
          refine ef_qt ((pev_ok rfl).2 _) ⟨rc_0, ?_⟩
          refine d_fin ?_
          (repeat (first | refine g_sq ?_ | refine g_rg ?_ | refine g_r0 ?_ | refine g_ok rfl rfl ?_ | refine g_no rfl ?_ | refine g_no0 rfl ?_ | refine g_bk ?_ | refine g_b ?_ | refine g_sk ?_ | refine g_cT rfl ?_ | refine g_cF rfl ?_ | refine g_x rfl ?_ | refine g_lb ?_))
          refine g_rq rfl rfl ⟨by omega, by omega⟩ ?_
          (repeat (first | refine g_sq ?_ | refine g_rg ?_ | refine g_r0 ?_ | refine g_ok rfl rfl ?_ | refine g_no rfl ?_ | refine g_no0 rfl ?_ | refine g_bk ?_ | refine g_b ?_ | refine g_sk ?_ | refine g_cT rfl ?_ | refine g_cF rfl ?_ | refine g_x rfl ?_ | refine g_lb ?_))
          refine g_l1r rfl rfl (hB hS) hx1 ?_
          obtain ⟨E2, hu⟩ := hxt.rd hS
          refine g_cl rfl rfl (c63 (bs := o.bs) (by omega) (by rw [hwt]; decide) hu (fun x hx => ⟨hxt.dis hS 0 rfl x hx, hxt.dis hS 1 rfl x hx⟩) hS fun w S S1 hS => ?_)
          (repeat (first | refine g_sq ?_ | refine g_rg ?_ | refine g_r0 ?_ | refine g_ok rfl rfl ?_ | refine g_no rfl ?_ | refine g_no0 rfl ?_ | refine g_bk ?_ | refine g_b ?_ | refine g_sk ?_ | refine g_cT rfl ?_ | refine g_cF rfl ?_ | refine g_x rfl ?_ | refine g_lb ?_))
          refine g_jx (pb, vm1, (P.append D o.bs).2.2) ⟨rfl, rfl, rfl, rfl, rfl, rfl, rfl, rfl, rfl, rfl, trivial⟩ ⟨S, S1, (P.append D o.bs).1, (P.append D o.bs).2.1, Z ++ [(Value.slice av o.bs.length cv, o.bs)], ?_, hextM, by rw [hML]; omega, ?_⟩
          · rw [hMs]
            exact saf_append hP hD hdn hwt hwf h1000 ⟨hN1, by omega⟩ hlk (by omega) (by omega)
          · rw [hML, hMf]
            exact hS.sel [0, 1, 2, 3] rfl rfl
      · (repeat (first | refine g_sq ?_ | refine g_rg ?_ | refine g_r0 ?_ | refine g_ok rfl rfl ?_ | refine g_no rfl ?_ | refine g_no0 rfl ?_ | refine g_bk ?_ | refine g_b ?_ | refine g_sk ?_ | refine g_cT rfl ?_ | refine g_cF rfl ?_ | refine g_x rfl ?_ | refine g_lb ?_))
        refine g_cd rfl (fun hz1 => ?_) (fun hz1 => ?_)
        all_goals simp only [cmv, decide_eq_true_eq, decide_eq_false_iff_not] at hz1
        · -- a snapshot
          (repeat (first | refine g_sq ?_ | refine g_rg ?_ | refine g_r0 ?_ | refine g_ok rfl rfl ?_ | refine g_no rfl ?_ | refine g_no0 rfl ?_ | refine g_bk ?_ | refine g_b ?_ | refine g_sk ?_ | refine g_cT rfl ?_ | refine g_cF rfl ?_ | refine g_x rfl ?_ | refine g_lb ?_))
          refine g_rq rfl rfl ⟨by omega, by omega⟩ ?_
          (repeat (first | refine g_sq ?_ | refine g_rg ?_ | refine g_r0 ?_ | refine g_ok rfl rfl ?_ | refine g_no rfl ?_ | refine g_no0 rfl ?_ | refine g_bk ?_ | refine g_b ?_ | refine g_sk ?_ | refine g_cT rfl ?_ | refine g_cF rfl ?_ | refine g_x rfl ?_ | refine g_lb ?_))
          refine g_l1r rfl rfl (hB hS) hx1 ?_
          refine g_ef rfl (ef_bl (rs := [.slice av o.bs.length cv]) hS rfl fun g w hS => ?_)
          have hS := hS.close_row (n := 1) (cap := 1) (sz := 1) (xs := [.slice av o.bs.length cv]) 3 rfl (Nat.le_refl _) rfl (List.prefix_refl _) rfl
          have hS : St w0 (fun _ => False) w [DepR S pb d P, DevR S1 d D, row (.slice ah Z.length ch) 35 1 Z.length (Z.map Prod.fst), row (.slice (some ⟨g, 0, none⟩) 1 1) 35 1 1 [.slice av o.bs.length cv]] := hS
          (repeat (first | refine g_sq ?_ | refine g_rg ?_ | refine g_r0 ?_ | refine g_ok rfl rfl ?_ | refine g_no rfl ?_ | refine g_no0 rfl ?_ | refine g_bk ?_ | refine g_b ?_ | refine g_sk ?_ | refine g_cT rfl ?_ | refine g_cF rfl ?_ | refine g_x rfl ?_ | refine g_lb ?_))
          refine g_rq rfl rfl ⟨by omega, by omega⟩ ?_
          (repeat (first | refine g_sq ?_ | refine g_rg ?_ | refine g_r0 ?_ | refine g_ok rfl rfl ?_ | refine g_no rfl ?_ | refine g_no0 rfl ?_ | refine g_bk ?_ | refine g_b ?_ | refine g_sk ?_ | refine g_cT rfl ?_ | refine g_cF rfl ?_ | refine g_x rfl ?_ | refine g_lb ?_))
          refine g_l1r rfl rfl (hB hS) hx1 ?_
          obtain ⟨E2, hu⟩ := hxt.rd hS
          refine g_cl rfl rfl (c65 (bs := o.bs) (by omega) (by rw [hwt]; decide) hu (fun x hx => ⟨hxt.dis hS 0 rfl x hx, hxt.dis hS 1 rfl x hx⟩) hS fun w S S1 hS => ?_)
          (repeat (first | refine g_sq ?_ | refine g_rg ?_ | refine g_r0 ?_ | refine g_ok rfl rfl ?_ | refine g_no rfl ?_ | refine g_no0 rfl ?_ | refine g_bk ?_ | refine g_b ?_ | refine g_sk ?_ | refine g_cT rfl ?_ | refine g_cF rfl ?_ | refine g_x rfl ?_ | refine g_lb ?_))
          exact g_jx (pb, .slice (some ⟨g, 0, none⟩) 1 1, (P.compact D o.bs).2.2) ⟨rfl, rfl, rfl, rfl, rfl, rfl, rfl, rfl, rfl, rfl, trivial⟩ ⟨S, S1, (P.compact D o.bs).1, (P.compact D o.bs).2.1, [(Value.slice av o.bs.length cv, o.bs)], saf_compact hP hD hdn hwt hwf h1000 ⟨hN1, by omega⟩ hlk (by omega) (by omega), (fun p hp => by simp at hp; subst hp; exact hxt), Nat.le_of_ble_eq_true rfl, hS⟩
        (repeat (first | refine g_sq ?_ | refine g_rg ?_ | refine g_r0 ?_ | refine g_ok rfl rfl ?_ | refine g_no rfl ?_ | refine g_no0 rfl ?_ | refine g_bk ?_ | refine g_b ?_ | refine g_sk ?_ | refine g_cT rfl ?_ | refine g_cF rfl ?_ | refine g_x rfl ?_ | refine g_lb ?_))
        refine g_cd rfl (fun hz2 => ?_) (fun hz2 => ?_)
        · -- it is armed
          (repeat (first | refine g_sq ?_ | refine g_rg ?_ | refine g_r0 ?_ | refine g_ok rfl rfl ?_ | refine g_no rfl ?_ | refine g_no0 rfl ?_ | refine g_bk ?_ | refine g_b ?_ | refine g_sk ?_ | refine g_cT rfl ?_ | refine g_cF rfl ?_ | refine g_x rfl ?_ | refine g_lb ?_))
          refine g_rq rfl rfl ⟨by omega, by omega⟩ ?_
          (repeat (first | refine g_sq ?_ | refine g_rg ?_ | refine g_r0 ?_ | refine g_ok rfl rfl ?_ | refine g_no rfl ?_ | refine g_no0 rfl ?_ | refine g_bk ?_ | refine g_b ?_ | refine g_sk ?_ | refine g_cT rfl ?_ | refine g_cF rfl ?_ | refine g_x rfl ?_ | refine g_lb ?_))
          refine g_lmr rfl rfl (hB hS) (by show off + k * 5 + 2 + 3 ≤ _; omega) ?_
          rw [show List.take 3 (List.drop (off + (k : Int).toNat * 5 + 2) lo) = (falV o.f).cells.toList from hf3]
          have hS := hS.sel [1, 0, 2] rfl rfl
          refine g_cl rfl rfl (c32 (f := o.f) hS fun w S1 hS => ?_)
          rw [hdn] at hS
          have hS : St w0 (fun _ => False) w [DevR S1 d (D.arm o.f), DepR S pb d P, row (.slice ah Z.length ch) 35 1 Z.length (Z.map Prod.fst)] := hS
          (repeat (first | refine g_sq ?_ | refine g_rg ?_ | refine g_r0 ?_ | refine g_ok rfl rfl ?_ | refine g_no rfl ?_ | refine g_no0 rfl ?_ | refine g_bk ?_ | refine g_b ?_ | refine g_sk ?_ | refine g_cT rfl ?_ | refine g_cF rfl ?_ | refine g_x rfl ?_ | refine g_lb ?_))
          refine g_rq rfl rfl (in64 (by simp only [arv]; omega)) ?_
          (repeat (first | refine g_sq ?_ | refine g_rg ?_ | refine g_r0 ?_ | refine g_ok rfl rfl ?_ | refine g_no rfl ?_ | refine g_no0 rfl ?_ | refine g_bk ?_ | refine g_b ?_ | refine g_sk ?_ | refine g_cT rfl ?_ | refine g_cF rfl ?_ | refine g_x rfl ?_ | refine g_lb ?_))
          exact g_l (k + 1, pb, .slice ah Z.length ch) ⟨rfl, rfl, rfl, rfl, rfl, rfl, rfl, trivial⟩ ⟨by simp only; omega, S, S1, P, D.arm o.f, bv, l, Z, hP, hD, hdn, hwt, by simp only; omega, hZ, hext, hS.sel [1, 0, 2] rfl rfl⟩ (by simp only; omega)
        (repeat (first | refine g_sq ?_ | refine g_rg ?_ | refine g_r0 ?_ | refine g_ok rfl rfl ?_ | refine g_no rfl ?_ | refine g_no0 rfl ?_ | refine g_bk ?_ | refine g_b ?_ | refine g_sk ?_ | refine g_cT rfl ?_ | refine g_cF rfl ?_ | refine g_x rfl ?_ | refine g_lb ?_))
        refine g_cd rfl (fun hz3 => ?_) (fun hz3 => ?_)
        · -- it crashes
          (repeat (first | refine g_sq ?_ | refine g_rg ?_ | refine g_r0 ?_ | refine g_ok rfl rfl ?_ | refine g_no rfl ?_ | refine g_no0 rfl ?_ | refine g_bk ?_ | refine g_b ?_ | refine g_sk ?_ | refine g_cT rfl ?_ | refine g_cF rfl ?_ | refine g_x rfl ?_ | refine g_lb ?_))
          refine g_rq rfl rfl ⟨by omega, by omega⟩ ?_
          (repeat (first | refine g_sq ?_ | refine g_rg ?_ | refine g_r0 ?_ | refine g_ok rfl rfl ?_ | refine g_no rfl ?_ | refine g_no0 rfl ?_ | refine g_bk ?_ | refine g_b ?_ | refine g_sk ?_ | refine g_cT rfl ?_ | refine g_cF rfl ?_ | refine g_x rfl ?_ | refine g_lb ?_))
          refine g_lmr rfl rfl (hB hS) (by show off + k * 5 + 2 + 3 ≤ _; omega) ?_
          rw [show List.take 3 (List.drop (off + (k : Int).toNat * 5 + 2) lo) = (falV o.f).cells.toList from hf3]
          have hS := hS.sel [1, 0, 2] rfl rfl
          refine g_cl rfl rfl (c27 (f := o.f) hS fun w S1 hS => ?_)
          rw [hdn] at hS
          have hS : St w0 (fun _ => False) w [DevR S1 d (D.crash o.f), DepR S pb d P, row (.slice ah Z.length ch) 35 1 Z.length (Z.map Prod.fst)] := hS
          have hS := hS.nilrow 35 1
          (repeat (first | refine g_sq ?_ | refine g_rg ?_ | refine g_r0 ?_ | refine g_ok rfl rfl ?_ | refine g_no rfl ?_ | refine g_no0 rfl ?_ | refine g_bk ?_ | refine g_b ?_ | refine g_sk ?_ | refine g_cT rfl ?_ | refine g_cF rfl ?_ | refine g_x rfl ?_ | refine g_lb ?_))
          exact g_jx (pb, .slice none 0 0, 141) ⟨rfl, rfl, rfl, rfl, rfl, rfl, rfl, rfl, rfl, rfl, trivial⟩ ⟨S, S1, P, D.crash o.f, [], saf_crash o.f hD hwt, (fun p hp => nomatch hp), by decide, hS.sel [1, 0, 2, 3] rfl rfl⟩
        · (repeat (first | refine g_sq ?_ | refine g_rg ?_ | refine g_r0 ?_ | refine g_ok rfl rfl ?_ | refine g_no rfl ?_ | refine g_no0 rfl ?_ | refine g_bk ?_ | refine g_b ?_ | refine g_sk ?_ | refine g_cT rfl ?_ | refine g_cF rfl ?_ | refine g_x rfl ?_ | refine g_lb ?_))
          refine g_rq rfl rfl (in64 (by simp only [arv]; omega)) ?_
          (repeat (first | refine g_sq ?_ | refine g_rg ?_ | refine g_r0 ?_ | refine g_ok rfl rfl ?_ | refine g_no rfl ?_ | refine g_no0 rfl ?_ | refine g_bk ?_ | refine g_b ?_ | refine g_sk ?_ | refine g_cT rfl ?_ | refine g_cF rfl ?_ | refine g_x rfl ?_ | refine g_lb ?_))
          exact g_l (k + 1, pb, .slice ah Z.length ch) ⟨rfl, rfl, rfl, rfl, rfl, rfl, rfl, trivial⟩ ⟨by simp only; omega, S, S1, P, D, bv, l, Z, hP, hD, hdn, hwt, by simp only; omega, hZ, hext, hS⟩ (by simp only; omega)
    · clear hS
      rintro ⟨pb, vm, e⟩ T w hT ⟨S, S1, P', D', M, hM, hextM, hMl, hS⟩
      simp only at hM hS
      refine g_wkc hT ?_
      obtain ⟨am, cm, rfl⟩ := hS.rlen 3 rfl
      (repeat (first | refine g_sq ?_ | refine g_rg ?_ | refine g_r0 ?_ | refine g_ok rfl rfl ?_ | refine g_no rfl ?_ | refine g_no0 rfl ?_ | refine g_bk ?_ | refine g_b ?_ | refine g_sk ?_ | refine g_cT rfl ?_ | refine g_cF rfl ?_ | refine g_x rfl ?_ | refine g_lb ?_))
      refine g_cd rfl (fun he => ?_) (fun he => ?_)
      all_goals simp only [cmv, decide_eq_true_eq, decide_eq_false_iff_not] at he
      · rcases hM with ⟨_, hd', hw', v', l', hP', hD', hMs, hlast⟩ | ⟨h1, _⟩ | ⟨h1, _⟩
        · (repeat (first | refine g_sq ?_ | refine g_rg ?_ | refine g_r0 ?_ | refine g_ok rfl rfl ?_ | refine g_no rfl ?_ | refine g_no0 rfl ?_ | refine g_bk ?_ | refine g_b ?_ | refine g_sk ?_ | refine g_cT rfl ?_ | refine g_cF rfl ?_ | refine g_x rfl ?_ | refine g_lb ?_))
          refine g_rq rfl rfl (in64 (by simp only [arv]; omega)) ?_
          (repeat (first | refine g_sq ?_ | refine g_rg ?_ | refine g_r0 ?_ | refine g_ok rfl rfl ?_ | refine g_no rfl ?_ | refine g_no0 rfl ?_ | refine g_bk ?_ | refine g_b ?_ | refine g_sk ?_ | refine g_cT rfl ?_ | refine g_cF rfl ?_ | refine g_x rfl ?_ | refine g_lb ?_))
          exact g_l (k + 1, pb, .slice am M.length cm) ⟨rfl, rfl, rfl, rfl, rfl, rfl, rfl, trivial⟩ ⟨by simp only; omega, S, S1, P', D', v', l', M, hP', hD', hd', hw', hlast, hMs, hextM, hS.sel [0, 1, 3] rfl rfl⟩ (by simp only; omega)
        · exact absurd he h1
        · omega
      (repeat (first | refine g_sq ?_ | refine g_rg ?_ | refine g_r0 ?_ | refine g_ok rfl rfl ?_ | refine g_no rfl ?_ | refine g_no0 rfl ?_ | refine g_bk ?_ | refine g_b ?_ | refine g_sk ?_ | refine g_cT rfl ?_ | refine g_cF rfl ?_ | refine g_x rfl ?_ | refine g_lb ?_))
      refine g_cd rfl (fun he2 => ?_) (fun he2 => ?_)
      all_goals simp only [cmv, Bool.not_eq_true', Bool.not_eq_false', decide_eq_true_eq, decide_eq_false_iff_not] at he2
      · rcases hM with ⟨h1, _⟩ | ⟨_, _, hd', hw', hP', hD'⟩ | ⟨h1, _⟩
        · exact absurd h1 he
        · (repeat (first | refine g_sq ?_ | refine g_rg ?_ | refine g_r0 ?_ | refine g_ok rfl rfl ?_ | refine g_no rfl ?_ | refine g_no0 rfl ?_ | refine g_bk ?_ | refine g_b ?_ | refine g_sk ?_ | refine g_cT rfl ?_ | refine g_cF rfl ?_ | refine g_x rfl ?_ | refine g_lb ?_))
          refine g_cl rfl rfl (c62 hS fun w S S2 vg hS => ?_)
          rw [hP'.list hem] at hS
          have hr2 := rdl_row hS 3 rfl hext
          rw [hZ] at hr2
          (repeat (first | refine g_sq ?_ | refine g_rg ?_ | refine g_r0 ?_ | refine g_ok rfl rfl ?_ | refine g_no rfl ?_ | refine g_no0 rfl ?_ | refine g_bk ?_ | refine g_b ?_ | refine g_sk ?_ | refine g_cT rfl ?_ | refine g_cF rfl ?_ | refine g_x rfl ?_ | refine g_lb ?_))
          refine g_cl rfl rfl (c46 (BsR.rdl hS 1 rfl) hr2 hll hS fun w hS => ?_)
          rw [decide_eq_true rfl]
          (repeat (first | refine g_sq ?_ | refine g_rg ?_ | refine g_r0 ?_ | refine g_ok rfl rfl ?_ | refine g_no rfl ?_ | refine g_no0 rfl ?_ | refine g_bk ?_ | refine g_b ?_ | refine g_sk ?_ | refine g_cT rfl ?_ | refine g_cF rfl ?_ | refine g_x rfl ?_ | refine g_lb ?_))
          refine g_rq rfl rfl (in64 (by simp only [arv]; omega)) ?_
          (repeat (first | refine g_sq ?_ | refine g_rg ?_ | refine g_r0 ?_ | refine g_ok rfl rfl ?_ | refine g_no rfl ?_ | refine g_no0 rfl ?_ | refine g_bk ?_ | refine g_b ?_ | refine g_sk ?_ | refine g_cT rfl ?_ | refine g_cF rfl ?_ | refine g_x rfl ?_ | refine g_lb ?_))
          exact g_l (k + 1, pb, .slice ah Z.length ch) ⟨rfl, rfl, rfl, rfl, rfl, rfl, rfl, trivial⟩ ⟨by simp only; omega, S, S1, P', D', bv, l, Z, hP', hD', hd', hw', by simp only; omega, hZ, hext, hS.sel [0, 2, 3] rfl rfl⟩ (by simp only; omega)
        · exact absurd h1 he2
      rcases hM with ⟨h1, _⟩ | ⟨_, h1, _⟩ | ⟨_, hd', hw', hor⟩
      · exact absurd h1 he
      · exact absurd he2 h1
      have hS := hS.sel [1, 2, 3] rfl rfl
      (repeat (first | refine g_sq ?_ | refine g_rg ?_ | refine g_r0 ?_ | refine g_ok rfl rfl ?_ | refine g_no rfl ?_ | refine g_no0 rfl ?_ | refine g_bk ?_ | refine g_b ?_ | refine g_sk ?_ | refine g_cT rfl ?_ | refine g_cF rfl ?_ | refine g_x rfl ?_ | refine g_lb ?_))
      refine g_cl rfl rfl (c29 hS fun w S1 hS => ?_)
      have hbl : D'.boot.cells.length = N := by
        rcases hor with h | ⟨_, v', l', h, _⟩
        · exact h.len
        · exact h.len
      (repeat (first | refine g_sq ?_ | refine g_rg ?_ | refine g_r0 ?_ | refine g_ok rfl rfl ?_ | refine g_no rfl ?_ | refine g_no0 rfl ?_ | refine g_bk ?_ | refine g_b ?_ | refine g_sk ?_ | refine g_cT rfl ?_ | refine g_cF rfl ?_ | refine g_x rfl ?_ | refine g_lb ?_))
      refine g_cl rfl rfl (c67 (by rw [hbl]; omega) hS (fun h => by rw [hbl] at h; omega) (fun _ hd => absurd hd (by simp [Dev.boot])) (fun _ _ w S S1 pq hS => ?_))
      (repeat (first | refine g_sq ?_ | refine g_rg ?_ | refine g_r0 ?_ | refine g_ok rfl rfl ?_ | refine g_no rfl ?_ | refine g_no0 rfl ?_ | refine g_bk ?_ | refine g_b ?_ | refine g_sk ?_ | refine g_cT rfl ?_ | refine g_cF rfl ?_ | refine g_x rfl ?_ | refine g_lb ?_))
      refine g_cl rfl rfl (c62 hS fun w S S2 vg hS => ?_)
      rcases hor with hK | ⟨h3, v', l', hK, hMs, hlast⟩
      · have hR : PI (openP D'.boot) N bv l := depot_open (D := D'.boot) hK rfl rfl hN1 (by omega)
        generalize openP D'.boot = R at hS hR
        rw [hR.list hem] at hS
        have hr2 := rdl_row hS 3 rfl hext
        rw [hZ] at hr2
        (repeat (first | refine g_sq ?_ | refine g_rg ?_ | refine g_r0 ?_ | refine g_ok rfl rfl ?_ | refine g_no rfl ?_ | refine g_no0 rfl ?_ | refine g_bk ?_ | refine g_b ?_ | refine g_sk ?_ | refine g_cT rfl ?_ | refine g_cF rfl ?_ | refine g_x rfl ?_ | refine g_lb ?_))
        refine g_cl rfl rfl (c46 (BsR.rdl hS 1 rfl) hr2 hll hS fun w hS => ?_)
        rw [decide_eq_true rfl]
        (repeat (first | refine g_sq ?_ | refine g_rg ?_ | refine g_r0 ?_ | refine g_ok rfl rfl ?_ | refine g_no rfl ?_ | refine g_no0 rfl ?_ | refine g_bk ?_ | refine g_b ?_ | refine g_sk ?_ | refine g_cT rfl ?_ | refine g_cF rfl ?_ | refine g_x rfl ?_ | refine g_lb ?_))
        refine g_rq rfl rfl (in64 (by simp only [arv]; omega)) ?_
        (repeat (first | refine g_sq ?_ | refine g_rg ?_ | refine g_r0 ?_ | refine g_ok rfl rfl ?_ | refine g_no rfl ?_ | refine g_no0 rfl ?_ | refine g_bk ?_ | refine g_b ?_ | refine g_sk ?_ | refine g_cT rfl ?_ | refine g_cF rfl ?_ | refine g_x rfl ?_ | refine g_lb ?_))
        exact g_l (k + 1, pq, .slice ah Z.length ch) ⟨rfl, rfl, rfl, rfl, rfl, rfl, rfl, trivial⟩ ⟨by simp only; omega, S, S1, R, D'.boot, bv, l, Z, hR, hK, rfl, rfl, by simp only; omega, hZ, hext, hS.sel [0, 2, 3] rfl rfl⟩ (by simp only; omega)
      · have hR : PI (openP D'.boot) N v' l' := depot_open (D := D'.boot) hK rfl rfl hN1 (by omega)
        have hll' := list_len (P := P) hK (by omega)
        generalize openP D'.boot = R at hS hR
        rw [hR.list hK.em] at hS
        have hr2 := rdl_row hS 3 rfl hext
        rw [hZ] at hr2
        (repeat (first | refine g_sq ?_ | refine g_rg ?_ | refine g_r0 ?_ | refine g_ok rfl rfl ?_ | refine g_no rfl ?_ | refine g_no0 rfl ?_ | refine g_bk ?_ | refine g_b ?_ | refine g_sk ?_ | refine g_cT rfl ?_ | refine g_cF rfl ?_ | refine g_x rfl ?_ | refine g_lb ?_))
        refine g_cl rfl rfl (c46 (BsR.rdl hS 1 rfl) hr2 hll' hS fun w hS => ?_)
        by_cases heq : l'.map Grp.b = l.map Grp.b
        · rw [decide_eq_true heq]
          (repeat (first | refine g_sq ?_ | refine g_rg ?_ | refine g_r0 ?_ | refine g_ok rfl rfl ?_ | refine g_no rfl ?_ | refine g_no0 rfl ?_ | refine g_bk ?_ | refine g_b ?_ | refine g_sk ?_ | refine g_cT rfl ?_ | refine g_cF rfl ?_ | refine g_x rfl ?_ | refine g_lb ?_))
          refine g_rq rfl rfl (in64 (by simp only [arv]; omega)) ?_
          (repeat (first | refine g_sq ?_ | refine g_rg ?_ | refine g_r0 ?_ | refine g_ok rfl rfl ?_ | refine g_no rfl ?_ | refine g_no0 rfl ?_ | refine g_bk ?_ | refine g_b ?_ | refine g_sk ?_ | refine g_cT rfl ?_ | refine g_cF rfl ?_ | refine g_x rfl ?_ | refine g_lb ?_))
          exact g_l (k + 1, pq, .slice ah Z.length ch) ⟨rfl, rfl, rfl, rfl, rfl, rfl, rfl, trivial⟩ ⟨by simp only; omega, S, S1, R, D'.boot, v', l', Z, hR, hK, rfl, rfl, hlast, hZ.trans heq.symm, hext, hS.sel [0, 2, 3] rfl rfl⟩ (by simp only; omega)
        · rw [decide_eq_false heq]
          (repeat (first | refine g_sq ?_ | refine g_rg ?_ | refine g_r0 ?_ | refine g_ok rfl rfl ?_ | refine g_no rfl ?_ | refine g_no0 rfl ?_ | refine g_bk ?_ | refine g_b ?_ | refine g_sk ?_ | refine g_cT rfl ?_ | refine g_cF rfl ?_ | refine g_x rfl ?_ | refine g_lb ?_))
          refine g_rq rfl rfl ⟨by omega, by omega⟩ ?_
          (repeat (first | refine g_sq ?_ | refine g_rg ?_ | refine g_r0 ?_ | refine g_ok rfl rfl ?_ | refine g_no rfl ?_ | refine g_no0 rfl ?_ | refine g_bk ?_ | refine g_b ?_ | refine g_sk ?_ | refine g_cT rfl ?_ | refine g_cF rfl ?_ | refine g_x rfl ?_ | refine g_lb ?_))
          refine g_l1r (v := .int .i64 o.k) rfl rfl (hB hS) (hget 0 (by decide)) ?_
          (repeat (first | refine g_sq ?_ | refine g_rg ?_ | refine g_r0 ?_ | refine g_ok rfl rfl ?_ | refine g_no rfl ?_ | refine g_no0 rfl ?_ | refine g_bk ?_ | refine g_b ?_ | refine g_sk ?_ | refine g_cT rfl ?_ | refine g_cF rfl ?_ | refine g_x rfl ?_ | refine g_lb ?_))
          rw [show cmv BinOp.eql o.k 3 = false by simp only [cmv, decide_eq_false_iff_not]; exact h3]
          have hr3 := rdl_row hS 4 rfl hextM
          rw [hMs] at hr3
          (repeat (first | refine g_sq ?_ | refine g_rg ?_ | refine g_r0 ?_ | refine g_ok rfl rfl ?_ | refine g_no rfl ?_ | refine g_no0 rfl ?_ | refine g_bk ?_ | refine g_b ?_ | refine g_sk ?_ | refine g_cT rfl ?_ | refine g_cF rfl ?_ | refine g_x rfl ?_ | refine g_lb ?_))
          refine g_cl rfl rfl (c46 (BsR.rdl hS 1 rfl) hr3 hll' hS fun w hS => ?_)
          rw [decide_eq_true rfl]
          (repeat (first | refine g_sq ?_ | refine g_rg ?_ | refine g_r0 ?_ | refine g_ok rfl rfl ?_ | refine g_no rfl ?_ | refine g_no0 rfl ?_ | refine g_bk ?_ | refine g_b ?_ | refine g_sk ?_ | refine g_cT rfl ?_ | refine g_cF rfl ?_ | refine g_x rfl ?_ | refine g_lb ?_))
          refine g_rq rfl rfl (in64 (by simp only [arv]; omega)) ?_
          (repeat (first | refine g_sq ?_ | refine g_rg ?_ | refine g_r0 ?_ | refine g_ok rfl rfl ?_ | refine g_no rfl ?_ | refine g_no0 rfl ?_ | refine g_bk ?_ | refine g_b ?_ | refine g_sk ?_ | refine g_cT rfl ?_ | refine g_cF rfl ?_ | refine g_x rfl ?_ | refine g_lb ?_))
          exact g_l (k + 1, pq, .slice am M.length cm) ⟨rfl, rfl, rfl, rfl, rfl, rfl, rfl, trivial⟩ ⟨by simp only; omega, S, S1, R, D'.boot, v', l', M, hR, hK, rfl, rfl, hlast, hMs, hextM, hS.sel [0, 2, 4] rfl rfl⟩ (by simp only; omega)
  · -- the end
    (repeat (first | refine g_sq ?_ | refine g_rg ?_ | refine g_r0 ?_ | refine g_ok rfl rfl ?_ | refine g_no rfl ?_ | refine g_no0 rfl ?_ | refine g_bk ?_ | refine g_b ?_ | refine g_sk ?_ | refine g_cT rfl ?_ | refine g_cF rfl ?_ | refine g_x rfl ?_ | refine g_lb ?_))
    refine g_cl rfl rfl (c62 hS fun w S S2 vg hS => ?_)
    rw [hP.list hem] at hS
    (repeat (first | refine g_sq ?_ | refine g_rg ?_ | refine g_r0 ?_ | refine g_ok rfl rfl ?_ | refine g_no rfl ?_ | refine g_no0 rfl ?_ | refine g_bk ?_ | refine g_b ?_ | refine g_sk ?_ | refine g_cT rfl ?_ | refine g_cF rfl ?_ | refine g_x rfl ?_ | refine g_lb ?_))
    have hr2 := rdl_row hS 3 rfl hext
    rw [hZ] at hr2
    refine g_cl rfl rfl (c46 (BsR.rdl hS 1 rfl) hr2 hll hS fun w hS => ?_)
    rw [decide_eq_true rfl]
    (repeat (first | refine g_sq ?_ | refine g_rg ?_ | refine g_r0 ?_ | refine g_ok rfl rfl ?_ | refine g_no rfl ?_ | refine g_no0 rfl ?_ | refine g_bk ?_ | refine g_b ?_ | refine g_sk ?_ | refine g_cT rfl ?_ | refine g_cF rfl ?_ | refine g_x rfl ?_ | refine g_lb ?_))
    exact g_ret (q_1 rfl (hfin hS))
end
end Go.Proofs.Ytegjocpjmfaigaa
