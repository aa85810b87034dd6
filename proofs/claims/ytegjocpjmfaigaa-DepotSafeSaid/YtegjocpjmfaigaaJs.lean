/- The statement JournalAnew: the walk. -/
import Derived.Test.YtegjocpjmfaigaaJr
set_option linter.unusedSimpArgs false
set_option linter.unusedVariables false
namespace Go.Proofs.Ytegjocpjmfaigaa
open Go.En

theorem putL_mem {l xs : List (List UInt8)} {i : Nat} {b : List UInt8} (h : b ∈ putL l i xs) : b ∈ l ∨ b ∈ xs := by
  unfold putL at h
  rcases List.mem_append.1 h with h | h
  · rcases List.mem_append.1 h with h | h
    · exact .inl (List.mem_of_mem_take h)
    · exact .inr h
  · exact .inl (List.mem_of_mem_drop h)
theorem putL_at {a xs r : List (List UInt8)} {i : Nat} (h : a.length = i) : putL (a ++ r) i xs = a ++ (xs ++ r.drop xs.length) := by
  subst h
  unfold putL
  rw [List.take_left' rfl, List.append_assoc, List.drop_append]
  rw [List.drop_of_length_le (by omega), List.nil_append]
  congr 3
  omega
theorem grps_first {s : Nat} {H : List (List UInt8)} (h : H ≠ []) (n : Nat) (q : Bool) : (⟨grps s H, n, q⟩ : Jou).first = s := by
  cases H with
  | nil => exact absurd rfl h
  | cons b H =>
    show (match grps s (b :: H) with | [] => 0 | g :: _ => g.n) = s
    simp only [grps, List.mapIdx_cons, Nat.add_zero]
/-- what a journal that was begun anew has written -/
def AnewI (s : Nat) (H : List (List UInt8)) (D : Dev) : Prop := ∃ rest, D.all = gsb (grps s H) ++ rest ∧ ∀ b ∈ rest, numd b < s
theorem anew_step {s : Nat} {H : List (List UInt8)} {D D' : Dev} {b : List UInt8} (h : AnewI s H D) (he : D'.all = putL D.all (0 + usedOf (grps s H)) (gblocks ⟨s + H.length, b⟩)) : AnewI s (H ++ [b]) D' := by
  obtain ⟨rest, h1, h2⟩ := h
  refine ⟨rest.drop (gblocks ⟨s + H.length, b⟩).length, ?_, fun c hc => h2 c (List.mem_of_mem_drop hc)⟩
  rw [he, h1, Nat.zero_add, putL_at (gsb_len _), grps_app, gsb_app]
  simp [gsb]
theorem anew_open {s : Nat} {H : List (List UInt8)} {D : Dev} {N : Nat} (h : AnewI s H D) (hd : D.down = false) (hl : D.cells.length = N) (hs : 1 ≤ s) (hm : s + H.length ≤ 1000) (hb : ∀ b ∈ H, b.length ≤ 1000) (hH : H ≠ []) : openJ D 0 N = ⟨grps s H, s + H.length, false⟩ := by
  obtain ⟨rest, h1, h2⟩ := h
  have hp : 0 < H.length := List.length_pos_iff.2 hH
  have hmx : maxN = 4611686018427387904 := rfl
  have hg : ∀ g ∈ grps s H, (1 ≤ g.n ∧ g.n ≤ maxN) ∧ g.b.length < 4294967296 := fun g hg => by
    obtain ⟨k1, k2, k3⟩ := grps_mem hg
    have := hb _ k3
    exact ⟨⟨by omega, by omega⟩, by omega⟩
  have ha : area D 0 N = gsb (grps s H) ++ rest := by rw [← hl, area_all hd, h1]
  have ho : opened (gsb (grps s H) ++ rest) = grps s H := by
    refine opened_parse hg (rise_grps s H 0 (by omega)) fun g hgs => ?_
    obtain ⟨b, hbm, hbn, _⟩ := stand_num _ _ _ _ hgs
    have := h2 b hbm
    rw [grps_last s H hH]
    omega
  have hgr : great (gsb (grps s H) ++ rest) = s + H.length - 1 := by
    apply Nat.le_antisymm
    · refine great_mem fun b hb => ?_
      rcases List.mem_append.1 hb with hb | hb
      · simp only [gsb, List.mem_flatten, List.mem_map] at hb
        obtain ⟨_, ⟨g, hgm, rfl⟩, hb⟩ := hb
        have k := grps_mem hgm
        have := numd_gblocks (hg g hgm).1.1 (hg g hgm).1.2 hb
        omega
      · have := h2 b hb; omega
    · have hlast : (⟨s + (H.length - 1), H[H.length - 1]⟩ : Grp) ∈ grps s H := by
        simp only [grps, List.mem_mapIdx]
        exact ⟨H.length - 1, by omega, rfl⟩
      have hmem : endedB (s + (H.length - 1)) H[H.length - 1] ∈ gsb (grps s H) ++ rest := by
        refine List.mem_append_left _ ?_
        simp only [gsb, List.mem_flatten, List.mem_map]
        exact ⟨_, ⟨_, hlast, rfl⟩, List.mem_append_right _ (List.mem_singleton.2 rfl)⟩
      have := great_ge hmem
      rw [numd_ended _ (by omega) (by omega)] at this
      omega
  unfold openJ
  rw [ha, ho, hgr]
  congr 1
  omega
section
variable {w w0 : World} {S0 S S1 : Nat → Prop} {K : Value → World → Prop} {L : List Res} {v v2 : Value} {M M2 : List (List UInt8)}
set_option maxRecDepth 100000 in
set_option maxHeartbeats 1000000 in
theorem l9 {bl by' : Int} (h0 : 0 ≤ bl ∧ bl ≤ 255) (hv : RdL v M w0) (hv2 : RdL v2 M2 w0) (hby : 0 ≤ by' ∧ by' ≤ 255) (h : ∀ w', Fr w0 (fun _ => False) w' → K (.bool true) w') : CK Try.prog 9 [.int .u8 bl, v, v2, .int .u8 by'] w0 K := by
  have hS := St.nil w0 (fun _ => False)
  have hfin : ∀ {w' : World} {L : List Res}, St w0 (fun _ => False) w' L → K (.bool true) w' := fun hS => h _ hS.fr
  obtain ⟨N, hN1, hN2, hN⟩ := blocks19 h0
  obtain ⟨y, rfl⟩ : ∃ y : Nat, by' = (y : Int) := ⟨by'.toNat, by omega⟩
  have hwy : IntKind.i64.wrap (y : Int) = (y : Int) := wrap_in (k := .i64) (in64 (by omega))
  have hmx : maxN = 4611686018427387904 := rfl
  obtain ⟨a, c, rfl⟩ := hv.form
  obtain ⟨a2, c2, rfl⟩ := hv2.form
  refine call_k Try.func9 k9 Try.ntmps9 (Nat.le_of_ble_eq_true rfl) ?_
  (repeat (first | refine g_sq ?_ | refine g_rg ?_ | refine g_r0 ?_ | refine g_ok rfl rfl ?_ | refine g_no rfl ?_ | refine g_no0 rfl ?_ | refine g_bk ?_ | refine g_b ?_ | refine g_sk ?_ | refine g_cT rfl ?_ | refine g_cF rfl ?_ | refine g_x rfl ?_ | refine g_lb ?_))
  refine g_cl rfl rfl (c38 hS fun w hS => ?_)
  (repeat (first | refine g_sq ?_ | refine g_rg ?_ | refine g_r0 ?_ | refine g_ok rfl rfl ?_ | refine g_no rfl ?_ | refine g_no0 rfl ?_ | refine g_bk ?_ | refine g_b ?_ | refine g_sk ?_ | refine g_cT rfl ?_ | refine g_cF rfl ?_ | refine g_x rfl ?_ | refine g_lb ?_))
  refine g_rq rfl rfl (by decide) ?_
  rw [hN]
  refine g_rq rfl rfl (in64 (by simp only [arv]; omega)) ?_
  rw [show arv BinOp.add 2 ((N : Int) - 2) = (N : Int) by simp only [arv]; omega]
  (repeat (first | refine g_sq ?_ | refine g_rg ?_ | refine g_r0 ?_ | refine g_ok rfl rfl ?_ | refine g_no rfl ?_ | refine g_no0 rfl ?_ | refine g_bk ?_ | refine g_b ?_ | refine g_sk ?_ | refine g_cT rfl ?_ | refine g_cF rfl ?_ | refine g_x rfl ?_ | refine g_lb ?_))
  refine g_cl rfl rfl (c18 hS (fun hn => absurd ⟨by omega, by omega⟩ hn) (fun hn w S1 d hS => ?_))
  have hS : St w0 (fun _ => False) w [DevR S1 d (Dev.new N)] := hS
  have hl0 : (Dev.new N).cells.length = N := List.length_replicate
  (repeat (first | refine g_sq ?_ | refine g_rg ?_ | refine g_r0 ?_ | refine g_ok rfl rfl ?_ | refine g_no rfl ?_ | refine g_no0 rfl ?_ | refine g_bk ?_ | refine g_b ?_ | refine g_sk ?_ | refine g_cT rfl ?_ | refine g_cF rfl ?_ | refine g_x rfl ?_ | refine g_lb ?_))
  generalize hq : cmv BinOp.gtr (M.length : Int) 20 = q
  cases q
  all_goals simp only [cmv, decide_eq_true_eq, decide_eq_false_iff_not] at hq
  rotate_left
  · (repeat (first | refine g_sq ?_ | refine g_rg ?_ | refine g_r0 ?_ | refine g_ok rfl rfl ?_ | refine g_no rfl ?_ | refine g_no0 rfl ?_ | refine g_bk ?_ | refine g_b ?_ | refine g_sk ?_ | refine g_cT rfl ?_ | refine g_cF rfl ?_ | refine g_x rfl ?_ | refine g_lb ?_))
    exact g_ret (q_1 rfl (hfin hS))
  (repeat (first | refine g_sq ?_ | refine g_rg ?_ | refine g_r0 ?_ | refine g_ok rfl rfl ?_ | refine g_no rfl ?_ | refine g_no0 rfl ?_ | refine g_bk ?_ | refine g_b ?_ | refine g_sk ?_ | refine g_cT rfl ?_ | refine g_cF rfl ?_ | refine g_x rfl ?_ | refine g_lb ?_))
  generalize hq2 : cmv BinOp.gtr (M2.length : Int) 20 = q2
  cases q2
  all_goals simp only [cmv, decide_eq_true_eq, decide_eq_false_iff_not] at hq2
  rotate_left
  · (repeat (first | refine g_sq ?_ | refine g_rg ?_ | refine g_r0 ?_ | refine g_ok rfl rfl ?_ | refine g_no rfl ?_ | refine g_no0 rfl ?_ | refine g_bk ?_ | refine g_b ?_ | refine g_sk ?_ | refine g_cT rfl ?_ | refine g_cF rfl ?_ | refine g_x rfl ?_ | refine g_lb ?_))
    exact g_ret (q_1 rfl (hfin hS))
  have hbad : ¬ badA (Dev.new N) 0 (N : Int) := by unfold badA; rw [hl0]; omega
  (repeat (first | refine g_sq ?_ | refine g_rg ?_ | refine g_r0 ?_ | refine g_ok rfl rfl ?_ | refine g_no rfl ?_ | refine g_no0 rfl ?_ | refine g_bk ?_ | refine g_b ?_ | refine g_sk ?_ | refine g_cT rfl ?_ | refine g_cF rfl ?_ | refine g_x rfl ?_ | refine g_lb ?_))
  refine g_cl rfl rfl (c39 (fr := 0) (bk := (N : Int)) (by omega) hS (fun hb => absurd hb hbad) (fun _ hd => absurd hd (by simp [Dev.new])) (fun _ _ w S S1 jb hS => ?_))
  rw [show (0 : Int).toNat = 0 from rfl, Int.toNat_natCast, open_new (Nat.le_refl _)] at hS
  have hz0 : ∀ b ∈ (Dev.new N).all, numd b < 1 := by
    intro b hb
    rw [new_all] at hb
    have : b = List.replicate 128 0 := List.eq_of_mem_replicate hb
    subst this
    decide +kernel
  (repeat (first | refine g_sq ?_ | refine g_rg ?_ | refine g_r0 ?_ | refine g_ok rfl rfl ?_ | refine g_no rfl ?_ | refine g_no0 rfl ?_ | refine g_bk ?_ | refine g_b ?_ | refine g_sk ?_ | refine g_cT rfl ?_ | refine g_cF rfl ?_ | refine g_x rfl ?_ | refine g_lb ?_))
  refine g_lp (ι := Nat) (fun k => [(2, .slice a2 M2.length c2), (3, .int .u8 y), (9, .bool true), (10, .int .i64 N), (11, dp d), (13, dp jb), (58, .slice a M.length c), (59, .int .i64 M.length), (60, .int .i64 k)])
    (fun k w => k ≤ M.length ∧ ∃ (S S1 : Nat → Prop) (D : Dev) (J : Jou), D.calm ∧ D.cells.length = N ∧ D.waits = [] ∧ J.shut = false ∧ 1 ≤ J.next ∧ J.next ≤ k + 1 ∧ (∀ b ∈ D.all, numd b < J.next) ∧
      St w0 (fun _ => False) w [JouR S jb d 0 N J, DevR S1 d D]) (fun k => M.length - k) 0 ⟨rfl, rfl, rfl, rfl, rfl, rfl, rfl, rfl, rfl, trivial⟩
    ⟨Nat.zero_le _, S, S1, Dev.new N, ⟨[], 1, false⟩, new_calm N, hl0, rfl, rfl, Nat.le_refl _, Nat.le_refl _, hz0, hS⟩ ?_
  clear hS hz0
  rintro k w ⟨hk, S, S1, D, J, hcm, hDl, hDw, hsh, hJ1, hJk, hnd, hS⟩
  (repeat (first | refine g_sq ?_ | refine g_rg ?_ | refine g_r0 ?_ | refine g_ok rfl rfl ?_ | refine g_no rfl ?_ | refine g_no0 rfl ?_ | refine g_bk ?_ | refine g_b ?_ | refine g_sk ?_ | refine g_cT rfl ?_ | refine g_cF rfl ?_ | refine g_x rfl ?_ | refine g_lb ?_))
  refine g_cd rfl (fun hc => ?_) (fun hc => ?_)
  all_goals simp only [cmv, decide_eq_true_eq, decide_eq_false_iff_not] at hc
  · -- a group ahead
    obtain ⟨bs, hbs⟩ : ∃ s, M[k]? = some s := ⟨_, List.getElem?_eq_getElem (by omega)⟩
    obtain ⟨b1, o1, c1, l1, u, E, e1, hx1, hxt, hB⟩ := hv.ext hbs
    cases e1
    obtain ⟨E', hu⟩ := hxt.rd hS
    obtain ⟨au, cu, eu⟩ := Rd.form hu
    simp only at eu
    subst eu
    (repeat (first | refine g_sq ?_ | refine g_rg ?_ | refine g_r0 ?_ | refine g_ok rfl rfl ?_ | refine g_no rfl ?_ | refine g_no0 rfl ?_ | refine g_bk ?_ | refine g_b ?_ | refine g_sk ?_ | refine g_cT rfl ?_ | refine g_cF rfl ?_ | refine g_x rfl ?_ | refine g_lb ?_))
    refine g_rq rfl rfl ⟨by omega, by omega⟩ ?_
    refine g_l1r rfl rfl (hB hS) hx1 ?_
    (repeat (first | refine g_sq ?_ | refine g_rg ?_ | refine g_r0 ?_ | refine g_ok rfl rfl ?_ | refine g_no rfl ?_ | refine g_no0 rfl ?_ | refine g_bk ?_ | refine g_b ?_ | refine g_sk ?_ | refine g_cT rfl ?_ | refine g_cF rfl ?_ | refine g_x rfl ?_ | refine g_lb ?_))
    refine g_cd rfl (fun hz => ?_) (fun hz => ?_)
    all_goals simp only [cmv, decide_eq_true_eq, decide_eq_false_iff_not] at hz
    · (repeat (first | refine g_sq ?_ | refine g_rg ?_ | refine g_r0 ?_ | refine g_ok rfl rfl ?_ | refine g_no rfl ?_ | refine g_no0 rfl ?_ | refine g_bk ?_ | refine g_b ?_ | refine g_sk ?_ | refine g_cT rfl ?_ | refine g_cF rfl ?_ | refine g_x rfl ?_ | refine g_lb ?_))
      exact g_ret (q_1 rfl (hfin hS))
    have hwJ := (JouR.blk hS).1
    have hwf := (DevR.blk (hS.sel [1] rfl rfl)).1
    have hblk : blk bs.length ≤ 10 := by unfold blk; omega
    (repeat (first | refine g_sq ?_ | refine g_rg ?_ | refine g_r0 ?_ | refine g_ok rfl rfl ?_ | refine g_no rfl ?_ | refine g_no0 rfl ?_ | refine g_bk ?_ | refine g_b ?_ | refine g_sk ?_ | refine g_cT rfl ?_ | refine g_cF rfl ?_ | refine g_x rfl ?_ | refine g_lb ?_))
    refine g_cl rfl rfl (c42 (bs := bs) (by omega) (by rw [hDw]; decide) hu (fun x hx => ⟨hxt.dis hS 0 rfl x hx, hxt.dis hS 1 rfl x hx⟩) hS fun w S S1 hS => ?_)
    (repeat (first | refine g_sq ?_ | refine g_rg ?_ | refine g_r0 ?_ | refine g_ok rfl rfl ?_ | refine g_no rfl ?_ | refine g_no0 rfl ?_ | refine g_bk ?_ | refine g_b ?_ | refine g_sk ?_ | refine g_cT rfl ?_ | refine g_cF rfl ?_ | refine g_x rfl ?_ | refine g_lb ?_))
    refine g_rq rfl rfl (in64 (by simp only [arv]; omega)) ?_
    (repeat (first | refine g_sq ?_ | refine g_rg ?_ | refine g_r0 ?_ | refine g_ok rfl rfl ?_ | refine g_no rfl ?_ | refine g_no0 rfl ?_ | refine g_bk ?_ | refine g_b ?_ | refine g_sk ?_ | refine g_cT rfl ?_ | refine g_cF rfl ?_ | refine g_x rfl ?_ | refine g_lb ?_))
    refine g_l (k + 1) ⟨rfl, rfl, rfl, rfl, rfl, rfl, rfl, rfl, rfl, trivial⟩ ⟨by omega, ?_⟩ (by omega)
    by_cases hfit : blk bs.length ≤ N - J.used
    · obtain ⟨D', ea, hc', hw', hl', ht', hal⟩ := append_calm (J := J) (D := D) (fr := 0) (bk := N) (b := bs) hcm hwf hsh hfit (by omega) hwJ.1 (by omega) (by rw [hDw]; simp; omega)
      rw [ea] at hS
      refine ⟨S, S1, D', _, hc', hl'.trans hDl, ht', rfl, by simp only; omega, by simp only; omega, fun b hb => ?_, hS⟩
      rw [hal] at hb
      simp only
      rcases putL_mem hb with hb | hb
      · have := hnd b hb; omega
      · have := numd_gblocks (g := ⟨J.next, bs⟩) hJ1 (by show J.next ≤ maxN; omega) hb
        simp only at this
        omega
    · rw [append_full hsh hfit] at hS
      exact ⟨S, S1, D, J, hcm, hDl, hDw, hsh, hJ1, by omega, hnd, hS⟩
  -- begun anew
  (repeat (first | refine g_sq ?_ | refine g_rg ?_ | refine g_r0 ?_ | refine g_ok rfl rfl ?_ | refine g_no rfl ?_ | refine g_no0 rfl ?_ | refine g_bk ?_ | refine g_b ?_ | refine g_sk ?_ | refine g_cT rfl ?_ | refine g_cF rfl ?_ | refine g_x rfl ?_ | refine g_lb ?_))
  refine g_cl rfl rfl (c45 hS ?_)
  (repeat (first | refine g_sq ?_ | refine g_rg ?_ | refine g_r0 ?_ | refine g_ok rfl rfl ?_ | refine g_no rfl ?_ | refine g_no0 rfl ?_ | refine g_bk ?_ | refine g_b ?_ | refine g_sk ?_ | refine g_cT rfl ?_ | refine g_cF rfl ?_ | refine g_x rfl ?_ | refine g_lb ?_))
  rw [hwy]
  refine g_rq rfl rfl (in64 (by simp only [arv]; omega)) ?_
  rw [show arv BinOp.add (J.next : Int) (y : Int) = ((J.next + y : Nat) : Int) by simp only [arv]; omega]
  (repeat (first | refine g_sq ?_ | refine g_rg ?_ | refine g_r0 ?_ | refine g_ok rfl rfl ?_ | refine g_no rfl ?_ | refine g_no0 rfl ?_ | refine g_bk ?_ | refine g_b ?_ | refine g_sk ?_ | refine g_cT rfl ?_ | refine g_cF rfl ?_ | refine g_x rfl ?_ | refine g_lb ?_))
  rw [hwy]
  refine g_rq rfl rfl (in64 (by simp only [arv]; omega)) ?_
  refine g_rq rfl rfl (in64 (by simp only [arv]; omega)) ?_
  rw [show arv BinOp.sub (arv BinOp.sub ((J.next + y : Nat) : Int) (y : Int)) 1 = (J.next : Int) - 1 by simp only [arv]; omega]
  refine g_cl rfl rfl (c48 (n := (J.next : Int) - 1) hS (fun _ => ?_) (fun hn => absurd (.inl (by omega)) hn))
  (repeat (first | refine g_sq ?_ | refine g_rg ?_ | refine g_r0 ?_ | refine g_ok rfl rfl ?_ | refine g_no rfl ?_ | refine g_no0 rfl ?_ | refine g_bk ?_ | refine g_b ?_ | refine g_sk ?_ | refine g_cT rfl ?_ | refine g_cF rfl ?_ | refine g_x rfl ?_ | refine g_lb ?_))
  refine g_cl rfl rfl (c48 (n := ((J.next + y : Nat) : Int)) hS (fun hn => by omega) (fun _ w S hS => ?_))
  have hs1 : 1 ≤ J.next + y := by omega
  have hs2 : J.next + y ≤ 300 := by omega
  have hA : AnewI (J.next + y) [] D := ⟨D.all, rfl, fun b hb => by have := hnd b hb; omega⟩
  have hS : St w0 (fun _ => False) w [JouR S jb d 0 N (J.begin (((J.next + y : Nat) : Int)).toNat), DevR S1 d D] := hS
  rw [Int.toNat_natCast] at hS
  have hJe : J.begin (J.next + y) = ⟨grps (J.next + y) [], J.next + y + ([] : List (List UInt8)).length, false⟩ := by
    unfold Jou.begin
    rw [hsh]
    rfl
  rw [hJe] at hS
  generalize J.next + y = s at *
  clear hJe hnd hJ1 hJk hsh
  have hS := hS.nilrow 35 1
  (repeat (first | refine g_sq ?_ | refine g_rg ?_ | refine g_r0 ?_ | refine g_ok rfl rfl ?_ | refine g_no rfl ?_ | refine g_no0 rfl ?_ | refine g_bk ?_ | refine g_b ?_ | refine g_sk ?_ | refine g_cT rfl ?_ | refine g_cF rfl ?_ | refine g_x rfl ?_ | refine g_lb ?_))
  refine g_lp (ι := Nat × Value × List (List UInt8)) (fun x => [(9, .bool true), (10, .int .i64 N), (11, dp d), (13, dp jb), (17, .int .i64 s), (18, x.2.1), (91, .slice a2 M2.length c2), (92, .int .i64 M2.length), (93, .int .i64 x.1)])
    (fun x w => x.1 ≤ M2.length ∧ x.2.2.length ≤ x.1 ∧ (∀ b ∈ x.2.2, b.length ≤ 1000) ∧ ∃ (S S1 : Nat → Prop) (D : Dev) (Z : BZ), D.calm ∧ D.cells.length = N ∧ D.waits = [] ∧ AnewI s x.2.2 D ∧ Z.map Prod.snd = x.2.2 ∧ (∀ p ∈ Z, Ext w0 p) ∧
      St w0 (fun _ => False) w [JouR S jb d 0 N ⟨grps s x.2.2, s + x.2.2.length, false⟩, DevR S1 d D, row x.2.1 35 1 Z.length (Z.map Prod.fst)]) (fun x => M2.length - x.1) (0, .slice none 0 0, []) ⟨rfl, rfl, rfl, rfl, rfl, rfl, rfl, rfl, rfl, trivial⟩
    ⟨Nat.zero_le _, Nat.le_refl _, (fun b hb => nomatch hb), S, S1, D, [], hcm, hDl, hDw, hA, rfl, (fun p hp => nomatch hp), hS⟩ ?_
  clear hS hA hcm hDl hDw
  rintro ⟨k2, vh, H⟩ w ⟨hk2, hHk, hHb, S, S1, D, Z, hcm, hDl, hDw, hA, hZH, hext, hS⟩
  simp only at hk2 hHk hHb hA hZH hS
  have hZl : Z.length = H.length := by rw [← hZH, List.length_map]
  obtain ⟨ah, ch, rfl⟩ := hS.rlen 2 rfl
  (repeat (first | refine g_sq ?_ | refine g_rg ?_ | refine g_r0 ?_ | refine g_ok rfl rfl ?_ | refine g_no rfl ?_ | refine g_no0 rfl ?_ | refine g_bk ?_ | refine g_b ?_ | refine g_sk ?_ | refine g_cT rfl ?_ | refine g_cF rfl ?_ | refine g_x rfl ?_ | refine g_lb ?_))
  refine g_cd rfl (fun hc2 => ?_) (fun hc2 => ?_)
  all_goals simp only [cmv, decide_eq_true_eq, decide_eq_false_iff_not] at hc2
  · obtain ⟨bs, hbs⟩ : ∃ s, M2[k2]? = some s := ⟨_, List.getElem?_eq_getElem (by omega)⟩
    obtain ⟨b1, o1, c1, l1, u, E, e1, hx1, hxt, hB⟩ := hv2.ext hbs
    cases e1
    obtain ⟨E', hu⟩ := hxt.rd hS
    obtain ⟨au, cu, eu⟩ := Rd.form hu
    simp only at eu
    subst eu
    (repeat (first | refine g_sq ?_ | refine g_rg ?_ | refine g_r0 ?_ | refine g_ok rfl rfl ?_ | refine g_no rfl ?_ | refine g_no0 rfl ?_ | refine g_bk ?_ | refine g_b ?_ | refine g_sk ?_ | refine g_cT rfl ?_ | refine g_cF rfl ?_ | refine g_x rfl ?_ | refine g_lb ?_))
    refine g_rq rfl rfl ⟨by omega, by omega⟩ ?_
    refine g_l1r rfl rfl (hB hS) hx1 ?_
    (repeat (first | refine g_sq ?_ | refine g_rg ?_ | refine g_r0 ?_ | refine g_ok rfl rfl ?_ | refine g_no rfl ?_ | refine g_no0 rfl ?_ | refine g_bk ?_ | refine g_b ?_ | refine g_sk ?_ | refine g_cT rfl ?_ | refine g_cF rfl ?_ | refine g_x rfl ?_ | refine g_lb ?_))
    refine g_cd rfl (fun hz => ?_) (fun hz => ?_)
    all_goals simp only [cmv, decide_eq_true_eq, decide_eq_false_iff_not] at hz
    · (repeat (first | refine g_sq ?_ | refine g_rg ?_ | refine g_r0 ?_ | refine g_ok rfl rfl ?_ | refine g_no rfl ?_ | refine g_no0 rfl ?_ | refine g_bk ?_ | refine g_b ?_ | refine g_sk ?_ | refine g_cT rfl ?_ | refine g_cF rfl ?_ | refine g_x rfl ?_ | refine g_lb ?_))
      exact g_ret (q_1 rfl (hfin hS))
    have hwJ := (JouR.blk hS).1
    have hwf := (DevR.blk (hS.sel [1] rfl rfl)).1
    have hblk : blk bs.length ≤ 10 := by unfold blk; omega
    (repeat (first | refine g_sq ?_ | refine g_rg ?_ | refine g_r0 ?_ | refine g_ok rfl rfl ?_ | refine g_no rfl ?_ | refine g_no0 rfl ?_ | refine g_bk ?_ | refine g_b ?_ | refine g_sk ?_ | refine g_cT rfl ?_ | refine g_cF rfl ?_ | refine g_x rfl ?_ | refine g_lb ?_))
    refine g_cl rfl rfl (c42 (bs := bs) (by omega) (by rw [hDw]; decide) hu (fun x hx => ⟨hxt.dis hS 0 rfl x hx, hxt.dis hS 1 rfl x hx⟩) hS fun w S S1 hS => ?_)
    by_cases hfit : blk bs.length ≤ N - (⟨grps s H, s + H.length, false⟩ : Jou).used
    · obtain ⟨D', ea, hc', hw', hl', ht', hal⟩ := append_calm (J := ⟨grps s H, s + H.length, false⟩) (D := D) (fr := 0) (bk := N) (b := bs) hcm hwf rfl hfit (by show s + H.length ≤ maxN; omega) hwJ.1 (by omega) (by rw [hDw]; simp; omega)
      rw [ea] at hS ⊢
      simp only at hS
      have hA2 := anew_step hA hal
      have hgl : grps s H ++ [⟨s + H.length, bs⟩] = grps s (H ++ [bs]) := by rw [grps_app]
      rw [hgl] at hS
      have hlen2 : (H ++ [bs]).length = H.length + 1 := by simp
      (repeat (first | refine g_sq ?_ | refine g_rg ?_ | refine g_r0 ?_ | refine g_ok rfl rfl ?_ | refine g_no rfl ?_ | refine g_no0 rfl ?_ | refine g_bk ?_ | refine g_b ?_ | refine g_sk ?_ | refine g_cT rfl ?_ | refine g_cF rfl ?_ | refine g_x rfl ?_ | refine g_lb ?_))
      refine g_ef rfl (ef_bl (rs := [.slice au bs.length cu]) hS rfl fun g w hS => ?_)
      refine g_ef rfl (ef_ap (n := Z.length) (m := 1) (ys := [.slice au bs.length cu]) hS 2 rfl rfl rfl (.inl ⟨35, .inr ⟨g, 0, 1, _, rfl, Nat.le_refl _, Nat.le_refl _, rfl, (hS.b 3 rfl).r⟩⟩) rfl (by omega) (by omega) fun vh1 w hS => ?_)
      have hS : St w0 (fun _ => False) w [JouR S jb d 0 N ⟨grps s (H ++ [bs]), s + (H ++ [bs]).length, false⟩, DevR S1 d D', row vh1 35 1 (Z ++ [(Value.slice au bs.length cu, bs)]).length ((Z ++ [(Value.slice au bs.length cu, bs)]).map Prod.fst)] := by
        have e1 : (Z ++ [(Value.slice au bs.length cu, bs)]).length = Z.length + 1 := by simp
        have e2 : (Z ++ [(Value.slice au bs.length cu, bs)]).map Prod.fst = Z.map Prod.fst ++ [.slice au bs.length cu] := by simp
        rw [e1, e2, hlen2, ← Nat.add_assoc]
        exact hS.sel [0, 1, 2] rfl rfl
      have hext2 : ∀ p ∈ Z ++ [(Value.slice au bs.length cu, bs)], Ext w0 p := fun p hp => by
        rcases List.mem_append.1 hp with hp | hp
        · exact hext p hp
        · simp at hp; subst hp; exact hxt
      have hZ2 : (Z ++ [(Value.slice au bs.length cu, bs)]).map Prod.snd = H ++ [bs] := by rw [List.map_append, hZH]; rfl
      have hHb2 : ∀ b ∈ H ++ [bs], b.length ≤ 1000 := fun b hb => by
        rcases List.mem_append.1 hb with hb | hb
        · exact hHb b hb
        · simp at hb; subst hb; omega
      have hH2 : H ++ [bs] ≠ [] := by simp
      generalize (Z ++ [(Value.slice au bs.length cu, bs)]) = Z2 at hS hext2 hZ2
      generalize H ++ [bs] = H2 at hS hZ2 hlen2 hA2 hHb2 hH2 ⊢
      have hZl2 : Z2.length = H2.length := by rw [← hZ2, List.length_map]
      obtain ⟨ah2, ch2, rfl⟩ := hS.rlen 2 rfl
      have ho := anew_open hA2 hc'.1 (hl'.trans hDl) (by omega) (by omega) hHb2 hH2
      have hbad2 : ¬ badA D' 0 (N : Int) := by unfold badA; rw [hl'.trans hDl]; omega
      have hS := hS.sel [1, 0, 2] rfl rfl
      have hDl' := hl'.trans hDl
      (repeat (first | refine g_sq ?_ | refine g_rg ?_ | refine g_r0 ?_ | refine g_ok rfl rfl ?_ | refine g_no rfl ?_ | refine g_no0 rfl ?_ | refine g_bk ?_ | refine g_b ?_ | refine g_sk ?_ | refine g_cT rfl ?_ | refine g_cF rfl ?_ | refine g_x rfl ?_ | refine g_lb ?_))
      refine g_cl rfl rfl (c39 (fr := 0) (bk := (N : Int)) (by omega) hS (fun hb => absurd hb hbad2) (fun _ hd => absurd (hc'.1.symm.trans hd) (by decide)) (fun _ _ w S2 S3 jk hS => ?_))
      rw [show (0 : Int).toNat = 0 from rfl, Int.toNat_natCast, ho] at hS
      (repeat (first | refine g_sq ?_ | refine g_rg ?_ | refine g_r0 ?_ | refine g_ok rfl rfl ?_ | refine g_no rfl ?_ | refine g_no0 rfl ?_ | refine g_bk ?_ | refine g_b ?_ | refine g_sk ?_ | refine g_cT rfl ?_ | refine g_cF rfl ?_ | refine g_x rfl ?_ | refine g_lb ?_))
      refine g_cl rfl rfl (c47 hS fun w S2 S4 vg hS => ?_)
      (repeat (first | refine g_sq ?_ | refine g_rg ?_ | refine g_r0 ?_ | refine g_ok rfl rfl ?_ | refine g_no rfl ?_ | refine g_no0 rfl ?_ | refine g_bk ?_ | refine g_b ?_ | refine g_sk ?_ | refine g_cT rfl ?_ | refine g_cF rfl ?_ | refine g_x rfl ?_ | refine g_lb ?_))
      have hr1 := BsR.rdl hS 1 rfl
      have hr2 := rdl_row hS 4 rfl hext2
      rw [hZl2, hZ2] at hr2
      rw [hZl2]
      refine g_cl rfl rfl (c46 hr1 hr2 (by rw [grps_b]; omega) hS fun w hS => ?_)
      rw [decide_eq_true (grps_b s H2)]
      (repeat (first | refine g_sq ?_ | refine g_rg ?_ | refine g_r0 ?_ | refine g_ok rfl rfl ?_ | refine g_no rfl ?_ | refine g_no0 rfl ?_ | refine g_bk ?_ | refine g_b ?_ | refine g_sk ?_ | refine g_cT rfl ?_ | refine g_cF rfl ?_ | refine g_x rfl ?_ | refine g_lb ?_))
      refine g_cl rfl rfl (c49 hS ?_)
      rw [grps_first hH2]
      (repeat (first | refine g_sq ?_ | refine g_rg ?_ | refine g_r0 ?_ | refine g_ok rfl rfl ?_ | refine g_no rfl ?_ | refine g_no0 rfl ?_ | refine g_bk ?_ | refine g_b ?_ | refine g_sk ?_ | refine g_cT rfl ?_ | refine g_cF rfl ?_ | refine g_x rfl ?_ | refine g_lb ?_))
      rw [cmv_neq (s : Int)]
      (repeat (first | refine g_sq ?_ | refine g_rg ?_ | refine g_r0 ?_ | refine g_ok rfl rfl ?_ | refine g_no rfl ?_ | refine g_no0 rfl ?_ | refine g_bk ?_ | refine g_b ?_ | refine g_sk ?_ | refine g_cT rfl ?_ | refine g_cF rfl ?_ | refine g_x rfl ?_ | refine g_lb ?_))
      refine g_cl rfl rfl (c44 hS fun w S2 hS => ?_)
      rw [show (⟨grps s H2, s + H2.length, false⟩ : Jou).last = lastOf (grps s H2) from rfl, grps_last s H2 hH2]
      (repeat (first | refine g_sq ?_ | refine g_rg ?_ | refine g_r0 ?_ | refine g_ok rfl rfl ?_ | refine g_no rfl ?_ | refine g_no0 rfl ?_ | refine g_bk ?_ | refine g_b ?_ | refine g_sk ?_ | refine g_cT rfl ?_ | refine g_cF rfl ?_ | refine g_x rfl ?_ | refine g_lb ?_))
      refine g_rq rfl rfl (in64 (by simp only [arv]; omega)) ?_
      refine g_rq rfl rfl (in64 (by simp only [arv]; omega)) ?_
      rw [show arv BinOp.sub (arv BinOp.add (s : Int) (H2.length : Int)) 1 = ((s + H2.length - 1 : Nat) : Int) by simp only [arv]; omega]
      (repeat (first | refine g_sq ?_ | refine g_rg ?_ | refine g_r0 ?_ | refine g_ok rfl rfl ?_ | refine g_no rfl ?_ | refine g_no0 rfl ?_ | refine g_bk ?_ | refine g_b ?_ | refine g_sk ?_ | refine g_cT rfl ?_ | refine g_cF rfl ?_ | refine g_x rfl ?_ | refine g_lb ?_))
      rw [cmv_neq ((s + H2.length - 1 : Nat) : Int)]
      (repeat (first | refine g_sq ?_ | refine g_rg ?_ | refine g_r0 ?_ | refine g_ok rfl rfl ?_ | refine g_no rfl ?_ | refine g_no0 rfl ?_ | refine g_bk ?_ | refine g_b ?_ | refine g_sk ?_ | refine g_cT rfl ?_ | refine g_cF rfl ?_ | refine g_x rfl ?_ | refine g_lb ?_))
      refine g_cl rfl rfl (c45 hS ?_)
      have hS := hS.sel [3, 2, 4, 0] rfl rfl
      (repeat (first | refine g_sq ?_ | refine g_rg ?_ | refine g_r0 ?_ | refine g_ok rfl rfl ?_ | refine g_no rfl ?_ | refine g_no0 rfl ?_ | refine g_bk ?_ | refine g_b ?_ | refine g_sk ?_ | refine g_cT rfl ?_ | refine g_cF rfl ?_ | refine g_x rfl ?_ | refine g_lb ?_))
      refine g_cl rfl rfl (c45 hS ?_)
      (repeat (first | refine g_sq ?_ | refine g_rg ?_ | refine g_r0 ?_ | refine g_ok rfl rfl ?_ | refine g_no rfl ?_ | refine g_no0 rfl ?_ | refine g_bk ?_ | refine g_b ?_ | refine g_sk ?_ | refine g_cT rfl ?_ | refine g_cF rfl ?_ | refine g_x rfl ?_ | refine g_lb ?_))
      rw [cmv_neq ((s + H2.length : Nat) : Int)]
      (repeat (first | refine g_sq ?_ | refine g_rg ?_ | refine g_r0 ?_ | refine g_ok rfl rfl ?_ | refine g_no rfl ?_ | refine g_no0 rfl ?_ | refine g_bk ?_ | refine g_b ?_ | refine g_sk ?_ | refine g_cT rfl ?_ | refine g_cF rfl ?_ | refine g_x rfl ?_ | refine g_lb ?_))
      refine g_cl rfl rfl (c43 (hS.sel [3, 0, 1, 2] rfl rfl) fun w S2 hS => ?_)
      (repeat (first | refine g_sq ?_ | refine g_rg ?_ | refine g_r0 ?_ | refine g_ok rfl rfl ?_ | refine g_no rfl ?_ | refine g_no0 rfl ?_ | refine g_bk ?_ | refine g_b ?_ | refine g_sk ?_ | refine g_cT rfl ?_ | refine g_cF rfl ?_ | refine g_x rfl ?_ | refine g_lb ?_))
      refine g_cl rfl rfl (c43 (hS.sel [1, 2, 3, 0] rfl rfl) fun w S hS => ?_)
      (repeat (first | refine g_sq ?_ | refine g_rg ?_ | refine g_r0 ?_ | refine g_ok rfl rfl ?_ | refine g_no rfl ?_ | refine g_no0 rfl ?_ | refine g_bk ?_ | refine g_b ?_ | refine g_sk ?_ | refine g_cT rfl ?_ | refine g_cF rfl ?_ | refine g_x rfl ?_ | refine g_lb ?_))
      rw [cmv_neq ((⟨grps s H2, s + H2.length, false⟩ : Jou).used : Int)]
      (repeat (first | refine g_sq ?_ | refine g_rg ?_ | refine g_r0 ?_ | refine g_ok rfl rfl ?_ | refine g_no rfl ?_ | refine g_no0 rfl ?_ | refine g_bk ?_ | refine g_b ?_ | refine g_sk ?_ | refine g_cT rfl ?_ | refine g_cF rfl ?_ | refine g_x rfl ?_ | refine g_lb ?_))
      refine g_rq rfl rfl (in64 (by simp only [arv]; omega)) ?_
      (repeat (first | refine g_sq ?_ | refine g_rg ?_ | refine g_r0 ?_ | refine g_ok rfl rfl ?_ | refine g_no rfl ?_ | refine g_no0 rfl ?_ | refine g_bk ?_ | refine g_b ?_ | refine g_sk ?_ | refine g_cT rfl ?_ | refine g_cF rfl ?_ | refine g_x rfl ?_ | refine g_lb ?_))
      refine g_l (k2 + 1, .slice ah2 H2.length ch2, H2) ⟨rfl, rfl, rfl, rfl, rfl, rfl, rfl, rfl, rfl, trivial⟩ ⟨by simp only; omega, by simp only; omega, hHb2, S, S3, D', Z2, hc', hDl', ht', hA2, hZ2, hext2, ?_⟩ (by simp only; omega)
      have hS := hS.sel [0, 1, 2] rfl rfl
      rw [hZl2] at hS ⊢
      exact hS
    · rw [append_full rfl hfit] at hS ⊢
      (repeat (first | refine g_sq ?_ | refine g_rg ?_ | refine g_r0 ?_ | refine g_ok rfl rfl ?_ | refine g_no rfl ?_ | refine g_no0 rfl ?_ | refine g_bk ?_ | refine g_b ?_ | refine g_sk ?_ | refine g_cT rfl ?_ | refine g_cF rfl ?_ | refine g_x rfl ?_ | refine g_lb ?_))
      refine g_rq rfl rfl (in64 (by simp only [arv]; omega)) ?_
      (repeat (first | refine g_sq ?_ | refine g_rg ?_ | refine g_r0 ?_ | refine g_ok rfl rfl ?_ | refine g_no rfl ?_ | refine g_no0 rfl ?_ | refine g_bk ?_ | refine g_b ?_ | refine g_sk ?_ | refine g_cT rfl ?_ | refine g_cF rfl ?_ | refine g_x rfl ?_ | refine g_lb ?_))
      exact g_l (k2 + 1, .slice ah Z.length ch, H) ⟨rfl, rfl, rfl, rfl, rfl, rfl, rfl, rfl, rfl, trivial⟩ ⟨by simp only; omega, by simp only; omega, hHb, S, S1, D, Z, hcm, hDl, hDw, hA, hZH, hext, hS⟩ (by simp only; omega)
  · (repeat (first | refine g_sq ?_ | refine g_rg ?_ | refine g_r0 ?_ | refine g_ok rfl rfl ?_ | refine g_no rfl ?_ | refine g_no0 rfl ?_ | refine g_bk ?_ | refine g_b ?_ | refine g_sk ?_ | refine g_cT rfl ?_ | refine g_cF rfl ?_ | refine g_x rfl ?_ | refine g_lb ?_))
    refine g_cl rfl rfl (c47 hS fun w S S2 vg hS => ?_)
    (repeat (first | refine g_sq ?_ | refine g_rg ?_ | refine g_r0 ?_ | refine g_ok rfl rfl ?_ | refine g_no rfl ?_ | refine g_no0 rfl ?_ | refine g_bk ?_ | refine g_b ?_ | refine g_sk ?_ | refine g_cT rfl ?_ | refine g_cF rfl ?_ | refine g_x rfl ?_ | refine g_lb ?_))
    have hr1 := BsR.rdl hS 1 rfl
    have hr2 := rdl_row hS 3 rfl hext
    rw [hZl, hZH] at hr2
    rw [hZl]
    refine g_cl rfl rfl (c46 hr1 hr2 (by rw [grps_b]; omega) hS fun w hS => ?_)
    rw [decide_eq_true (grps_b s H)]
    (repeat (first | refine g_sq ?_ | refine g_rg ?_ | refine g_r0 ?_ | refine g_ok rfl rfl ?_ | refine g_no rfl ?_ | refine g_no0 rfl ?_ | refine g_bk ?_ | refine g_b ?_ | refine g_sk ?_ | refine g_cT rfl ?_ | refine g_cF rfl ?_ | refine g_x rfl ?_ | refine g_lb ?_))
    exact g_ret (q_1 rfl (hfin hS))
end
end Go.Proofs.Ytegjocpjmfaigaa
