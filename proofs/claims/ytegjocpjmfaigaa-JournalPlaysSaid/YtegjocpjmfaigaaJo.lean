/- The statement JournalFits: the walk. -/
import Derived.Test.YtegjocpjmfaigaaJn
set_option linter.unusedSimpArgs false
set_option linter.unusedVariables false
namespace Go.En
section
variable {E : Env} {ks : List KI} {T : TT} {D : List Deferred} {w : World} {Q : QX}
/-- the second part taken apart, ahead of its time -/
theorem g_sq2 {A B C : MC} (h : G E (.c A :: .c B :: .c C :: ks) T D w Q) : G E (.c A :: .c (.sq B C) :: ks) T D w Q := fun hd c a hc hd' ha =>
  wpIn_mono (h hd c a hc hd' ha) (LQ.mono fun e T D w hq => by
    cases e with
    | normal => exact g_sq hq
    | _ => exact hq)
end
end Go.En
namespace Go.Proofs.Ytegjocpjmfaigaa
open Go.En

theorem blocks19 {n : Int} (h : 0 ≤ n ∧ n ≤ 255) : ∃ N : Nat, 2 ≤ N ∧ N ≤ 20 ∧ (IntKind.i64.wrap n).tmod 19 = (N : Int) - 2 := by
  rw [wrap_in (k := .i64) (in64 (by omega))]
  refine ⟨(2 + n % 19).toNat, by omega, by omega, ?_⟩
  rw [Int.tmod_eq_emod_of_nonneg h.1]
  omega
theorem cmv_neq (a : Int) : cmv BinOp.neq a a = false := by simp [cmv]
/-- groups that were appended one behind the other -/
def grps (s : Nat) (H : List (List UInt8)) : List Grp := H.mapIdx fun i b => ⟨s + i, b⟩
theorem grps_app (s : Nat) (H : List (List UInt8)) (b : List UInt8) : grps s (H ++ [b]) = grps s H ++ [⟨s + H.length, b⟩] := by simp [grps, List.mapIdx_append]
theorem grps_len (s : Nat) (H : List (List UInt8)) : (grps s H).length = H.length := by simp [grps]
theorem grps_b (s : Nat) (H : List (List UInt8)) : (grps s H).map Grp.b = H := by
  apply List.ext_getElem?
  intro i
  simp only [grps, List.getElem?_map, List.getElem?_mapIdx]
  cases H[i]? <;> rfl
theorem grps_last (s : Nat) (H : List (List UInt8)) (h : H ≠ []) : lastOf (grps s H) = s + H.length - 1 := by
  have hp : 0 < H.length := List.length_pos_iff.2 h
  unfold lastOf
  rw [List.getLast?_eq_getElem?, grps_len]
  have : (grps s H)[H.length - 1]? = some ⟨s + (H.length - 1), H[H.length - 1]⟩ := by
    simp only [grps, List.getElem?_mapIdx]
    rw [List.getElem?_eq_getElem (by omega)]
    rfl
  rw [this]
  show s + (H.length - 1) = _
  omega
theorem grps_last1 (H : List (List UInt8)) : lastOf (grps 1 H) = H.length := by
  by_cases h : H = []
  · subst h; rfl
  · rw [grps_last 1 H h]
    omega
section
variable {w w0 : World} {S0 S S1 : Nat → Prop} {K : Value → World → Prop} {L : List Res} {v : Value} {M : List (List UInt8)}
/-- what came in is read as it was -/
theorem RdL.to (h : RdL v M w0) (hS : St w0 (fun _ => False) w L) : RdL v M w := by
  obtain ⟨E, Z, h1, h2, h3⟩ := h
  refine ⟨E, Z, h1, hS.ro (r := rdR v E 1 Z.length (Z.map Prod.fst)) h2 fun x hx => ⟨h2.lt x hx, fun h => h⟩, fun p hp => ?_⟩
  obtain ⟨E', h4⟩ := h3 p hp
  exact ⟨E', hS.ro (r := rdR p.1 E' 1 p.2.length (bys p.2)) h4 fun x hx => ⟨h4.lt x hx, fun h => h⟩⟩
/-- bytes that came in -/
def Ext (w0 : World) (p : Value × List UInt8) : Prop := ∃ E, Rd p.1 E 1 p.2.length (bys p.2) w0
theorem Ext.rd {p : Value × List UInt8} (h : Ext w0 p) (hS : St w0 (fun _ => False) w L) : ∃ E, Rd p.1 E 1 p.2.length (bys p.2) w := by
  obtain ⟨E, h⟩ := h
  exact ⟨E, hS.ro (r := rdR p.1 E 1 p.2.length (bys p.2)) h fun x hx => ⟨h.lt x hx, fun h => h⟩⟩
theorem Ext.dis {p : Value × List UInt8} (h : Ext w0 p) (hS : St w0 (fun _ => False) w L) (i : Nat) {r : Res} (hi : L[i]? = some r) : ∀ x, vb p.1 x → ¬ r.ids x := fun x hx hr => by
  obtain ⟨E, h⟩ := h
  have := h.lt x hx
  rcases hS.src _ _ hi x hr with h | h
  · exact h
  · omega
/-- an element of a list that came in -/
theorem RdL.ext (h : RdL v M w0) {k : Nat} {bs : List UInt8} (hk : M[k]? = some bs) : ∃ b off cap l u E, v = .slice (some ⟨b, off, none⟩) M.length cap ∧ l[off + k * 1]? = some u ∧ Ext w0 (u, bs) ∧ ∀ {w L}, St w0 (fun _ => False) w L → Blr w b l E := by
  obtain ⟨E, Z, h1, h2, h3⟩ := h
  have hkl := (List.getElem?_eq_some_iff.1 hk).1
  have hZl : Z.length = M.length := by rw [← h1, List.length_map]
  obtain ⟨b, off, cap, l, hv, hnc, hB, hx⟩ := h2.cellr (k := k) (by omega)
  have hz : Z[k]? = some (Z[k]'(by omega)) := List.getElem?_eq_getElem _
  generalize (Z[k]'(by omega)) = z at hz
  have hb : z.2 = bs := by
    rw [← h1, List.getElem?_map, hz] at hk
    exact Option.some.inj hk
  obtain ⟨E', h4⟩ := h3 z (List.mem_of_getElem? hz)
  rw [hb] at h4
  refine ⟨b, off, cap, l, z.1, E, by rw [hv, hZl], by rw [hx, List.getElem?_map, hz]; rfl, ⟨E', h4⟩, fun {w L} hS => ?_⟩
  have hlt : b < w0.heap.size := h2.lt b (by rw [hv]; exact ⟨rfl, by omega⟩)
  exact hB.same (hS.fr.kept b hlt (fun h => h))
/-- an owned list of bytes that came in -/
theorem rdl_row {Z : BZ} (hS : St w0 (fun _ => False) w L) (i : Nat) (hi : L[i]? = some (row v 35 1 Z.length (Z.map Prod.fst))) (he : ∀ p ∈ Z, Ext w0 p) : RdL v (Z.map Prod.snd) w :=
  ⟨35, Z, rfl, Ow.rd (hS.ok i _ hi), fun p hp => (he p hp).rd hS⟩
set_option maxRecDepth 100000 in
set_option maxHeartbeats 1000000 in
theorem l8 {bl : Int} (h0 : 0 ≤ bl ∧ bl ≤ 255) (hv : RdL v M w0) (h : ∀ w', Fr w0 (fun _ => False) w' → K (.bool true) w') : CK Try.prog 8 [.int .u8 bl, v] w0 K := by
  have hS := St.nil w0 (fun _ => False)
  have hfin : ∀ {w' : World} {L : List Res}, St w0 (fun _ => False) w' L → K (.bool true) w' := fun hS => h _ hS.fr
  obtain ⟨N, hN1, hN2, hN⟩ := blocks19 h0
  obtain ⟨a, c, rfl⟩ := hv.form
  refine call_k Try.func8 k8 Try.ntmps8 (Nat.le_of_ble_eq_true rfl) ?_
  (repeat (first | refine g_sq ?_ | refine g_rg ?_ | refine g_r0 ?_ | refine g_ok rfl rfl ?_ | refine g_no rfl ?_ | refine g_no0 rfl ?_ | refine g_bk ?_ | refine g_b ?_ | refine g_sk ?_ | refine g_cT rfl ?_ | refine g_cF rfl ?_ | refine g_x rfl ?_ | refine g_lb ?_))
  refine g_cl rfl rfl (c38 hS fun w hS => ?_)
  (repeat (first | refine g_sq ?_ | refine g_rg ?_ | refine g_r0 ?_ | refine g_ok rfl rfl ?_ | refine g_no rfl ?_ | refine g_no0 rfl ?_ | refine g_bk ?_ | refine g_b ?_ | refine g_sk ?_ | refine g_cT rfl ?_ | refine g_cF rfl ?_ | refine g_x rfl ?_ | refine g_lb ?_))
  refine g_rq rfl rfl (by decide) ?_
  rw [hN]
  refine g_rq rfl rfl (in64 (by simp only [arv]; omega)) ?_
  rw [show arv BinOp.add 2 ((N : Int) - 2) = (N : Int) by simp only [arv]; omega]
  (repeat (first | refine g_sq ?_ | refine g_rg ?_ | refine g_r0 ?_ | refine g_ok rfl rfl ?_ | refine g_no rfl ?_ | refine g_no0 rfl ?_ | refine g_bk ?_ | refine g_b ?_ | refine g_sk ?_ | refine g_cT rfl ?_ | refine g_cF rfl ?_ | refine g_x rfl ?_ | refine g_lb ?_))
  refine g_cl rfl rfl (c18 hS (fun hn => absurd ⟨by omega, by omega⟩ hn) (fun hn w S1 d hS => ?_))
  have hS : St w0 (fun _ => False) w [DevR S1 d (Dev.new N)] := hS
  have hl0 : (Dev.new N).cells.length = N := List.length_replicate
  (repeat (first | refine g_sq ?_ | refine g_rg ?_ | refine g_r0 ?_ | refine g_ok rfl rfl ?_ | refine g_no rfl ?_ | refine g_no0 rfl ?_ | refine g_bk ?_ | refine g_b ?_ | refine g_sk ?_ | refine g_cT rfl ?_ | refine g_cF rfl ?_ | refine g_x rfl ?_ | refine g_lb ?_))
  generalize hq : cmv BinOp.gtr (M.length : Int) 40 = q
  cases q
  all_goals simp only [cmv, decide_eq_true_eq, decide_eq_false_iff_not] at hq
  rotate_left
  · (repeat (first | refine g_sq ?_ | refine g_rg ?_ | refine g_r0 ?_ | refine g_ok rfl rfl ?_ | refine g_no rfl ?_ | refine g_no0 rfl ?_ | refine g_bk ?_ | refine g_b ?_ | refine g_sk ?_ | refine g_cT rfl ?_ | refine g_cF rfl ?_ | refine g_x rfl ?_ | refine g_lb ?_))
    exact g_ret (q_1 rfl (hfin hS))
  have hbad : ¬ badA (Dev.new N) 0 (N : Int) := by unfold badA; rw [hl0]; omega
  (repeat (first | refine g_sq ?_ | refine g_rg ?_ | refine g_r0 ?_ | refine g_ok rfl rfl ?_ | refine g_no rfl ?_ | refine g_no0 rfl ?_ | refine g_bk ?_ | refine g_b ?_ | refine g_sk ?_ | refine g_cT rfl ?_ | refine g_cF rfl ?_ | refine g_x rfl ?_ | refine g_lb ?_))
  refine g_cl rfl rfl (c39 (fr := 0) (bk := (N : Int)) (by omega) hS (fun hb => absurd hb hbad) (fun _ hd => absurd hd (by simp [Dev.new])) (fun _ _ w S S1 jb hS => ?_))
  rw [show (0 : Int).toNat = 0 from rfl, Int.toNat_natCast, open_new (Nat.le_refl _)] at hS
  have hS := hS.nilrow 35 1
  (repeat (first | refine g_sq ?_ | refine g_rg ?_ | refine g_r0 ?_ | refine g_ok rfl rfl ?_ | refine g_no rfl ?_ | refine g_no0 rfl ?_ | refine g_bk ?_ | refine g_b ?_ | refine g_sk ?_ | refine g_cT rfl ?_ | refine g_cF rfl ?_ | refine g_x rfl ?_ | refine g_lb ?_))
  refine g_lp (ι := Nat × Value × List (List UInt8)) (fun x => [(5, .bool true), (6, .int .i64 N), (7, dp d), (9, dp jb), (11, x.2.1), (12, .int .i64 (usedOf (grps 1 x.2.2))), (48, .slice a M.length c), (49, .int .i64 M.length), (50, .int .i64 x.1)])
    (fun x w => x.1 ≤ M.length ∧ x.2.2.length ≤ x.1 ∧ ∃ S S1 D Z, D.calm ∧ D.cells.length = N ∧ D.waits = [] ∧ Z.map Prod.snd = x.2.2 ∧ (∀ p ∈ Z, Ext w0 p) ∧
      St w0 (fun _ => False) w [JouR S jb d 0 N ⟨grps 1 x.2.2, x.2.2.length + 1, false⟩, DevR S1 d D, row x.2.1 35 1 Z.length (Z.map Prod.fst)]) (fun x => M.length - x.1) (0, .slice none 0 0, []) ⟨rfl, rfl, rfl, rfl, rfl, rfl, rfl, rfl, rfl, trivial⟩
    ⟨Nat.zero_le _, Nat.le_refl _, S, S1, Dev.new N, [], new_calm N, hl0, rfl, rfl, (fun p hp => nomatch hp), hS⟩ ?_
  clear hS
  rintro ⟨k, vh, H⟩ w ⟨hk, hHk, S, S1, D, Z, hcm, hDl, hDw, hZH, hext, hS⟩
  simp only at hk hHk hZH hS
  have hZl : Z.length = H.length := by rw [← hZH, List.length_map]
  (repeat (first | refine g_sq ?_ | refine g_rg ?_ | refine g_r0 ?_ | refine g_ok rfl rfl ?_ | refine g_no rfl ?_ | refine g_no0 rfl ?_ | refine g_bk ?_ | refine g_b ?_ | refine g_sk ?_ | refine g_cT rfl ?_ | refine g_cF rfl ?_ | refine g_x rfl ?_ | refine g_lb ?_))
  refine g_cd rfl (fun hc => ?_) (fun hc => ?_)
  all_goals simp only [cmv, decide_eq_true_eq, decide_eq_false_iff_not] at hc
  · obtain ⟨bs, hbs⟩ : ∃ s, M[k]? = some s := ⟨_, List.getElem?_eq_getElem (by omega)⟩
    obtain ⟨b1, o1, c1, l1, u, E, e1, hx1, hxt, hB⟩ := hv.ext hbs
    cases e1
    obtain ⟨E', hu⟩ := hxt.rd hS
    obtain ⟨au, cu, eu⟩ := Rd.form hu
    simp only at eu
    subst eu
    (repeat (first | refine g_sq ?_ | refine g_rg ?_ | refine g_r0 ?_ | refine g_ok rfl rfl ?_ | refine g_no rfl ?_ | refine g_no0 rfl ?_ | refine g_bk ?_ | refine g_b ?_ | refine g_sk ?_ | refine g_cT rfl ?_ | refine g_cF rfl ?_ | refine g_x rfl ?_ | refine g_lb ?_))
    refine g_rq rfl rfl ⟨by omega, by omega⟩ ?_
    refine g_l1r rfl rfl (hB hS) hx1 ?_
    (repeat (first | refine g_sq ?_ | refine g_rg ?_ | refine g_r0 ?_ | refine g_ok rfl rfl ?_ | refine g_no rfl ?_ | refine g_no0 rfl ?_ | refine g_bk ?_ | refine g_b ?_ | refine g_sk ?_ | refine g_cT rfl ?_ | refine g_cF rfl ?_ | refine g_x rfl ?_ | refine g_lb ?_))
    refine g_cd rfl (fun hz => ?_) (fun hz => ?_)
    all_goals simp only [cmv, decide_eq_true_eq, decide_eq_false_iff_not] at hz
    · (repeat (first | refine g_sq ?_ | refine g_rg ?_ | refine g_r0 ?_ | refine g_ok rfl rfl ?_ | refine g_no rfl ?_ | refine g_no0 rfl ?_ | refine g_bk ?_ | refine g_b ?_ | refine g_sk ?_ | refine g_cT rfl ?_ | refine g_cF rfl ?_ | refine g_x rfl ?_ | refine g_lb ?_))
      exact g_ret (q_1 rfl (hfin hS))
    have hwJ := (JouR.blk hS).1
    have hused : usedOf (grps 1 H) ≤ N := hwJ.1
    have hwf := (DevR.blk (hS.sel [1] rfl rfl)).1
    (repeat (first | refine g_sq ?_ | refine g_rg ?_ | refine g_r0 ?_ | refine g_ok rfl rfl ?_ | refine g_no rfl ?_ | refine g_no0 rfl ?_ | refine g_bk ?_ | refine g_b ?_ | refine g_sk ?_ | refine g_cT rfl ?_ | refine g_cF rfl ?_ | refine g_x rfl ?_ | refine g_lb ?_))
    refine g_cl rfl rfl (c40 (n := bs.length) (by omega) ?_)
    (repeat (first | refine g_sq ?_ | refine g_rg ?_ | refine g_r0 ?_ | refine g_ok rfl rfl ?_ | refine g_no rfl ?_ | refine g_no0 rfl ?_ | refine g_bk ?_ | refine g_b ?_ | refine g_sk ?_ | refine g_cT rfl ?_ | refine g_cF rfl ?_ | refine g_x rfl ?_ | refine g_lb ?_))
    refine g_cl rfl rfl (c41 hS fun w S hS => ?_)
    obtain ⟨E2, hu2⟩ := hxt.rd hS
    (repeat (first | refine g_sq ?_ | refine g_rg ?_ | refine g_r0 ?_ | refine g_ok rfl rfl ?_ | refine g_no rfl ?_ | refine g_no0 rfl ?_ | refine g_bk ?_ | refine g_b ?_ | refine g_sk ?_ | refine g_cT rfl ?_ | refine g_cF rfl ?_ | refine g_x rfl ?_ | refine g_lb ?_))
    refine g_cl rfl rfl (c42 (bs := bs) (by omega) (by rw [hDw]; decide) hu2 (fun x hx => ⟨hxt.dis hS 0 rfl x hx, hxt.dis hS 1 rfl x hx⟩) hS fun w S S1 hS => ?_)
    have hub : ∀ b : List UInt8, usedOf (grps 1 (H ++ [b])) = usedOf (grps 1 H) + blk b.length := fun b => by rw [grps_app, usedOf_app]; simp [usedOf, Grp.many]
    have hblk : blk bs.length ≤ 10 := by unfold blk; omega
    have hju : (⟨grps 1 H, H.length + 1, false⟩ : Jou).used = usedOf (grps 1 H) := rfl
    refine g_ok rfl rfl ?_
    refine g_r0 ?_
    refine g_sq ?_
    refine g_sq2 ?_
    refine g_atx (ι := Value × List (List UInt8)) 2 (fun x => [(5, .bool true), (6, .int .i64 N), (7, dp d), (9, dp jb), (11, x.1), (12, .int .i64 (usedOf (grps 1 x.2))), (48, .slice (some ⟨b1, o1, none⟩) M.length c), (49, .int .i64 M.length), (50, .int .i64 k)])
      (fun x w => x.2.length ≤ k + 1 ∧ ∃ (S S1 : Nat → Prop) (D : Dev) (Z : BZ), D.calm ∧ D.cells.length = N ∧ D.waits = [] ∧ Z.map Prod.snd = x.2 ∧ (∀ p ∈ Z, Ext w0 p) ∧
        St w0 (fun _ => False) w [JouR S jb d 0 N ⟨grps 1 x.2, x.2.length + 1, false⟩, DevR S1 d D, row x.1 35 1 Z.length (Z.map Prod.fst)]) rfl ?_ ?_
    · by_cases hfit : blk bs.length ≤ N - usedOf (grps 1 H)
      · -- it fits
        obtain ⟨D', ea, hc', hw', hl', ht', _⟩ := append_calm (J := ⟨grps 1 H, H.length + 1, false⟩) (D := D) (fr := 0) (bk := N) (b := bs) hcm hwf rfl hfit (by show H.length + 1 ≤ maxN; unfold maxN; omega) hused (by omega) (by rw [hDw]; simp; omega)
        rw [ea] at hS ⊢
        have hd1 : cmv BinOp.leq (blk bs.length : Int) ((N - usedOf (grps 1 H) : Nat) : Int) = true := by simp only [cmv, decide_eq_true_eq]; omega
        rw [hju, hd1]
        have hgl : grps 1 H ++ [⟨H.length + 1, bs⟩] = grps 1 (H ++ [bs]) := by rw [grps_app, Nat.add_comm]
        simp only at hS
        rw [hgl] at hS
        have hlen2 : (H ++ [bs]).length = H.length + 1 := by simp
        (repeat (first | refine g_sq ?_ | refine g_rg ?_ | refine g_r0 ?_ | refine g_ok rfl rfl ?_ | refine g_no rfl ?_ | refine g_no0 rfl ?_ | refine g_bk ?_ | refine g_b ?_ | refine g_sk ?_ | refine g_cT rfl ?_ | refine g_cF rfl ?_ | refine g_x rfl ?_ | refine g_lb ?_))
        refine g_ef rfl (ef_bl (rs := [.slice au bs.length cu]) hS rfl fun g w hS => ?_)
        refine g_ef rfl (ef_ap (n := Z.length) (m := 1) (ys := [.slice au bs.length cu]) hS 2 rfl rfl rfl (.inl ⟨35, .inr ⟨g, 0, 1, _, rfl, Nat.le_refl _, Nat.le_refl _, rfl, (hS.b 3 rfl).r⟩⟩) rfl (by omega) (by omega) fun vh1 w hS => ?_)
        (repeat (first | refine g_sq ?_ | refine g_rg ?_ | refine g_r0 ?_ | refine g_ok rfl rfl ?_ | refine g_no rfl ?_ | refine g_no0 rfl ?_ | refine g_bk ?_ | refine g_b ?_ | refine g_sk ?_ | refine g_cT rfl ?_ | refine g_cF rfl ?_ | refine g_x rfl ?_ | refine g_lb ?_))
        refine g_rq rfl rfl (in64 (by simp only [arv]; omega)) ?_
        rw [show arv BinOp.add (usedOf (grps 1 H) : Int) (blk bs.length : Int) = ((usedOf (grps 1 (H ++ [bs])) : Nat) : Int) by simp only [arv]; rw [hub]; omega]
        (repeat (first | refine g_sq ?_ | refine g_rg ?_ | refine g_r0 ?_ | refine g_ok rfl rfl ?_ | refine g_no rfl ?_ | refine g_no0 rfl ?_ | refine g_bk ?_ | refine g_b ?_ | refine g_sk ?_ | refine g_cT rfl ?_ | refine g_cF rfl ?_ | refine g_x rfl ?_ | refine g_lb ?_))
        refine g_jx (vh1, H ++ [bs]) ⟨rfl, rfl, rfl, rfl, rfl, rfl, rfl, rfl, rfl, trivial⟩ ⟨by simp only; omega, S, S1, D', Z ++ [(Value.slice au bs.length cu, bs)], hc', by omega, ht', by rw [List.map_append, hZH]; rfl, fun p hp => ?_, ?_⟩
        · rcases List.mem_append.1 hp with hp | hp
          · exact hext p hp
          · simp at hp; subst hp; exact hxt
        · have e1 : (Z ++ [(Value.slice au bs.length cu, bs)]).length = Z.length + 1 := by simp
          have e2 : (Z ++ [(Value.slice au bs.length cu, bs)]).map Prod.fst = Z.map Prod.fst ++ [.slice au bs.length cu] := by simp
          simp only
          rw [e1, e2, hlen2]
          exact hS.sel [0, 1, 2] rfl rfl
      · rw [append_full rfl hfit] at hS ⊢
        have hd1 : cmv BinOp.leq (blk bs.length : Int) ((N - usedOf (grps 1 H) : Nat) : Int) = false := by simp only [cmv, decide_eq_false_iff_not]; omega
        rw [hju, hd1]
        (repeat (first | refine g_sq ?_ | refine g_rg ?_ | refine g_r0 ?_ | refine g_ok rfl rfl ?_ | refine g_no rfl ?_ | refine g_no0 rfl ?_ | refine g_bk ?_ | refine g_b ?_ | refine g_sk ?_ | refine g_cT rfl ?_ | refine g_cF rfl ?_ | refine g_x rfl ?_ | refine g_lb ?_))
        exact g_jx (vh, H) ⟨rfl, rfl, rfl, rfl, rfl, rfl, rfl, rfl, rfl, trivial⟩ ⟨by simp only; omega, S, S1, D, Z, hcm, hDl, hDw, hZH, hext, hS⟩
    · clear hS hZl hHk hZH hext hcm hDl hDw hwJ hused hwf hub hju hu hu2 hB
      rintro ⟨vh, H⟩ T w hT ⟨hHk, S, S1, D, Z, hcm, hDl, hDw, hZH, hext, hS⟩
      simp only at hHk hZH hS
      have hZl : Z.length = H.length := by rw [← hZH, List.length_map]
      have hused : usedOf (grps 1 H) ≤ N := (JouR.blk hS).1.1
      obtain ⟨ah, ch, rfl⟩ := hS.rlen 2 rfl
      refine g_wkc hT ?_
      (repeat (first | refine g_sq ?_ | refine g_rg ?_ | refine g_r0 ?_ | refine g_ok rfl rfl ?_ | refine g_no rfl ?_ | refine g_no0 rfl ?_ | refine g_bk ?_ | refine g_b ?_ | refine g_sk ?_ | refine g_cT rfl ?_ | refine g_cF rfl ?_ | refine g_x rfl ?_ | refine g_lb ?_))
      refine g_cl rfl rfl (c43 hS fun w S hS => ?_)
      rw [show (⟨grps 1 H, H.length + 1, false⟩ : Jou).used = usedOf (grps 1 H) from rfl]
      (repeat (first | refine g_sq ?_ | refine g_rg ?_ | refine g_r0 ?_ | refine g_ok rfl rfl ?_ | refine g_no rfl ?_ | refine g_no0 rfl ?_ | refine g_bk ?_ | refine g_b ?_ | refine g_sk ?_ | refine g_cT rfl ?_ | refine g_cF rfl ?_ | refine g_x rfl ?_ | refine g_lb ?_))
      rw [cmv_neq (usedOf (grps 1 H) : Int)]
      (repeat (first | refine g_sq ?_ | refine g_rg ?_ | refine g_r0 ?_ | refine g_ok rfl rfl ?_ | refine g_no rfl ?_ | refine g_no0 rfl ?_ | refine g_bk ?_ | refine g_b ?_ | refine g_sk ?_ | refine g_cT rfl ?_ | refine g_cF rfl ?_ | refine g_x rfl ?_ | refine g_lb ?_))
      refine g_cl rfl rfl (c41 hS fun w S hS => ?_)
      rw [show (⟨grps 1 H, H.length + 1, false⟩ : Jou).used = usedOf (grps 1 H) from rfl]
      (repeat (first | refine g_sq ?_ | refine g_rg ?_ | refine g_r0 ?_ | refine g_ok rfl rfl ?_ | refine g_no rfl ?_ | refine g_no0 rfl ?_ | refine g_bk ?_ | refine g_b ?_ | refine g_sk ?_ | refine g_cT rfl ?_ | refine g_cF rfl ?_ | refine g_x rfl ?_ | refine g_lb ?_))
      refine g_rq rfl rfl (in64 (by simp only [arv]; omega)) ?_
      rw [show arv BinOp.sub (N : Int) (usedOf (grps 1 H) : Int) = ((N - usedOf (grps 1 H) : Nat) : Int) by simp only [arv]; omega]
      (repeat (first | refine g_sq ?_ | refine g_rg ?_ | refine g_r0 ?_ | refine g_ok rfl rfl ?_ | refine g_no rfl ?_ | refine g_no0 rfl ?_ | refine g_bk ?_ | refine g_b ?_ | refine g_sk ?_ | refine g_cT rfl ?_ | refine g_cF rfl ?_ | refine g_x rfl ?_ | refine g_lb ?_))
      rw [cmv_neq ((N - usedOf (grps 1 H) : Nat) : Int)]
      (repeat (first | refine g_sq ?_ | refine g_rg ?_ | refine g_r0 ?_ | refine g_ok rfl rfl ?_ | refine g_no rfl ?_ | refine g_no0 rfl ?_ | refine g_bk ?_ | refine g_b ?_ | refine g_sk ?_ | refine g_cT rfl ?_ | refine g_cF rfl ?_ | refine g_x rfl ?_ | refine g_lb ?_))
      refine g_cl rfl rfl (c44 hS fun w S hS => ?_)
      rw [show (⟨grps 1 H, H.length + 1, false⟩ : Jou).last = lastOf (grps 1 H) from rfl, grps_last1, hZl]
      (repeat (first | refine g_sq ?_ | refine g_rg ?_ | refine g_r0 ?_ | refine g_ok rfl rfl ?_ | refine g_no rfl ?_ | refine g_no0 rfl ?_ | refine g_bk ?_ | refine g_b ?_ | refine g_sk ?_ | refine g_cT rfl ?_ | refine g_cF rfl ?_ | refine g_x rfl ?_ | refine g_lb ?_))
      rw [cmv_neq (H.length : Int)]
      (repeat (first | refine g_sq ?_ | refine g_rg ?_ | refine g_r0 ?_ | refine g_ok rfl rfl ?_ | refine g_no rfl ?_ | refine g_no0 rfl ?_ | refine g_bk ?_ | refine g_b ?_ | refine g_sk ?_ | refine g_cT rfl ?_ | refine g_cF rfl ?_ | refine g_x rfl ?_ | refine g_lb ?_))
      refine g_cl rfl rfl (c45 hS ?_)
      (repeat (first | refine g_sq ?_ | refine g_rg ?_ | refine g_r0 ?_ | refine g_ok rfl rfl ?_ | refine g_no rfl ?_ | refine g_no0 rfl ?_ | refine g_bk ?_ | refine g_b ?_ | refine g_sk ?_ | refine g_cT rfl ?_ | refine g_cF rfl ?_ | refine g_x rfl ?_ | refine g_lb ?_))
      refine g_rq rfl rfl (in64 (by simp only [arv]; omega)) ?_
      rw [show arv BinOp.add (H.length : Int) 1 = ((H.length + 1 : Nat) : Int) by simp only [arv]; omega]
      (repeat (first | refine g_sq ?_ | refine g_rg ?_ | refine g_r0 ?_ | refine g_ok rfl rfl ?_ | refine g_no rfl ?_ | refine g_no0 rfl ?_ | refine g_bk ?_ | refine g_b ?_ | refine g_sk ?_ | refine g_cT rfl ?_ | refine g_cF rfl ?_ | refine g_x rfl ?_ | refine g_lb ?_))
      rw [cmv_neq ((H.length + 1 : Nat) : Int)]
      (repeat (first | refine g_sq ?_ | refine g_rg ?_ | refine g_r0 ?_ | refine g_ok rfl rfl ?_ | refine g_no rfl ?_ | refine g_no0 rfl ?_ | refine g_bk ?_ | refine g_b ?_ | refine g_sk ?_ | refine g_cT rfl ?_ | refine g_cF rfl ?_ | refine g_x rfl ?_ | refine g_lb ?_))
      refine g_cl rfl rfl (c47 hS fun w S S2 vg hS => ?_)
      (repeat (first | refine g_sq ?_ | refine g_rg ?_ | refine g_r0 ?_ | refine g_ok rfl rfl ?_ | refine g_no rfl ?_ | refine g_no0 rfl ?_ | refine g_bk ?_ | refine g_b ?_ | refine g_sk ?_ | refine g_cT rfl ?_ | refine g_cF rfl ?_ | refine g_x rfl ?_ | refine g_lb ?_))
      have hr1 := BsR.rdl hS 1 rfl
      have hr2 := rdl_row hS 3 rfl hext
      rw [hZl, hZH] at hr2
      refine g_cl rfl rfl (c46 hr1 hr2 (by rw [grps_b]; omega) hS fun w hS => ?_)
      rw [decide_eq_true (grps_b 1 H)]
      (repeat (first | refine g_sq ?_ | refine g_rg ?_ | refine g_r0 ?_ | refine g_ok rfl rfl ?_ | refine g_no rfl ?_ | refine g_no0 rfl ?_ | refine g_bk ?_ | refine g_b ?_ | refine g_sk ?_ | refine g_cT rfl ?_ | refine g_cF rfl ?_ | refine g_x rfl ?_ | refine g_lb ?_))
      refine g_rq rfl rfl (in64 (by simp only [arv]; omega)) ?_
      (repeat (first | refine g_sq ?_ | refine g_rg ?_ | refine g_r0 ?_ | refine g_ok rfl rfl ?_ | refine g_no rfl ?_ | refine g_no0 rfl ?_ | refine g_bk ?_ | refine g_b ?_ | refine g_sk ?_ | refine g_cT rfl ?_ | refine g_cF rfl ?_ | refine g_x rfl ?_ | refine g_lb ?_))
      refine g_l (k + 1, .slice ah H.length ch, H) ⟨rfl, rfl, rfl, rfl, rfl, rfl, rfl, rfl, rfl, trivial⟩ ⟨by simp only; omega, hHk, S, S1, D, Z, hcm, hDl, hDw, hZH, hext, ?_⟩ (by simp only; omega)
      have hS := hS.sel [0, 2, 3] rfl rfl
      rw [hZl] at hS ⊢
      exact hS
  · (repeat (first | refine g_sq ?_ | refine g_rg ?_ | refine g_r0 ?_ | refine g_ok rfl rfl ?_ | refine g_no rfl ?_ | refine g_no0 rfl ?_ | refine g_bk ?_ | refine g_b ?_ | refine g_sk ?_ | refine g_cT rfl ?_ | refine g_cF rfl ?_ | refine g_x rfl ?_ | refine g_lb ?_))
    refine g_cl rfl rfl (d31 (hS.sel [1] rfl rfl) ?_)
    rw [hDw]
    (repeat (first | refine g_sq ?_ | refine g_rg ?_ | refine g_r0 ?_ | refine g_ok rfl rfl ?_ | refine g_no rfl ?_ | refine g_no0 rfl ?_ | refine g_bk ?_ | refine g_b ?_ | refine g_sk ?_ | refine g_cT rfl ?_ | refine g_cF rfl ?_ | refine g_x rfl ?_ | refine g_lb ?_))
    exact g_ret (q_1 rfl (hfin hS))
end
end Go.Proofs.Ytegjocpjmfaigaa
