/- The refs of a listing. -/
import Derived.Test.YtibofabkpgigoaaGreatDoorNc1
set_option linter.unusedSimpArgs false
set_option linter.unusedVariables false
namespace Go.Proofs.YtibofabkpgigoaaGreatDoor
open Go.En Go.Sort

/-- the set of some words -/
def sset (l : List Bs) : List Bs := kset (fun s : Bs => s) l
section
variable {w w0 : World} {S0 : Nat → Prop} {L B : List Res} {K : Value → World → Prop} {s : Bs} {E0 E1 : Nat}
theorem b_SortS {v : Value} {n : Nat} {d : List Bs} (hd : d.length = n) (hn : n < 2000000) (hS : St w0 S0 w [row v 9 1 n (d.map sv)]) (h : ∀ w', St w0 S0 w' [row v 9 1 n ((srt (fun s : Bs => s) d).map sv)] → K (.tuple ⟨[]⟩) w') : CK Tryz.prog 52 [v] w K := by
  rcases hS.ok 0 _ rfl with ⟨rfl, rfl, h3⟩ | ⟨b, cap, rest, rfl, hnc, hx, hl, hb⟩
  · have e : d = [] := List.eq_nil_of_length_eq_zero hd
    subst e
    refine (Tryz.slices_Sort_string_none none 0 w).mono ?_
    rintro e w' ⟨rfl, rfl⟩
    refine ⟨_, rfl, h _ ?_⟩
    have : srt (fun s : Bs => s) [] = [] := List.eq_nil_of_length_eq_zero (srt_len _ [])
    rw [this]
    exact hS
  · subst hd
    refine (Tryz.slices_Sort_string b 0 cap d w (holds_str d hb) hb.lt (by omega)).mono ?_
    rintro e w' ⟨rfl, m, os, rfl⟩
    refine ⟨_, rfl, h _ ?_⟩
    rw [srt_str]
    exact putS_St (i := 0) hS rfl hnc rfl hl hb (srt_len _ _)
theorem b_CompactS {v : Value} {n : Nat} {d : List Bs} (hd : d.length = n) (hn : n < 2000000) (hS : St w0 S0 w [row v 9 1 n (d.map sv)]) (h : ∀ v' w', St w0 S0 w' [row v' 9 1 (ddn d n).length ((ddn d n).map sv)] → K v' w') : CK Tryz.prog 53 [v] w K := by
  by_cases hn0 : n = 0
  · subst hn0
    have e : d = [] := List.eq_nil_of_length_eq_zero hd
    subst e
    obtain ⟨a, c, rfl⟩ := hS.rlen 0 rfl
    refine (Tryz.slices_Compact_string_empty a c w).mono ?_
    rintro e w' ⟨rfl, rfl⟩
    exact ⟨_, rfl, h _ _ hS⟩
  · rcases hS.ok 0 _ rfl with ⟨rfl, rfl, h3⟩ | ⟨b, cap, rest, rfl, hnc, hx, hl, hb⟩
    · exact absurd rfl hn0
    · subst hd
      refine (Tryz.slices_Compact_string b 0 cap d w (holds_str d hb) (by omega) hnc).mono ?_
      rintro e w' ⟨rfl, m, rfl⟩
      have ec : Lib.compact d = ddn d d.length := compact_ddn d _ (Nat.le_refl _)
      have hle := ddn_le d d.length
      refine ⟨_, rfl, ?_⟩
      rw [ec]
      refine h _ _ ?_
      have hS2 := putS_St (i := 0) (m := m) (os := #[]) (d' := ddn d d.length ++ List.replicate (d.length - (ddn d d.length).length) []) hS rfl hnc rfl hl hb (by rw [List.length_append, List.length_replicate]; omega)
      rw [grow_empty] at hS2
      have hS3 := row_head hS2 0 rfl hle
      rw [List.map_append, List.take_left' (by rw [svs_len])] at hS3
      exact hS3
/-- the refs of which tips are listed -/
def refsOf (d : List Li) : List Bs := if chk d = true then sset (d.map fun x => (ent x).1) else []
set_option maxHeartbeats 4000000 in
theorem b_Refs {d : List Li} {v : Value} {n : Nat} (hd : d.length = n) (hn : n < 2000000) (hlen : ∀ x ∈ d, x.1.length < 4294967281) (hg : Gl w) (hr : Rd v E0 33 n (fl lc d) w)
    (h : ∀ v' w', St w (fun _ => False) w' [row v' 9 1 (refsOf d).length ((refsOf d).map sv)] → K v' w') : CK Tryz.prog 21 [v] w K := by
  have hS := St.nil w (fun _ => False)
  have hrr : ∀ {L : List Res} (w' : World), St w (fun _ => False) w' L → Rd v E0 33 n (fl lc d) w' := fun w' hS => hr.same fun b hb => hS.fr.kept b (hr.lt b hb) (fun h => h)
  obtain ⟨a, c, rfl⟩ := hr.form
  refine call_k Tryz.func21 k21 Tryz.ntmps21 (Nat.le_of_ble_eq_true rfl) ?_
  (repeat (first | refine g_sq ?_ | refine g_rg ?_ | refine g_r0 ?_ | refine g_ok rfl rfl ?_ | refine g_no rfl ?_ | refine g_no0 rfl ?_ | refine g_bk ?_ | refine g_b ?_ | refine g_sk ?_ | refine g_cT rfl ?_ | refine g_cF rfl ?_ | refine g_x rfl ?_ | refine g_lb ?_))
  refine g_cl rfl rfl (b_CheckL hd hn hlen hg hr fun w1 hS => ?_)
  cases hck : chk d
  · have e1 : eE d = 200 := by unfold eE; rw [if_neg (by rw [hck]; decide)]
    have e2 : refsOf d = [] := by unfold refsOf; rw [if_neg (by rw [hck]; decide)]
    rw [e1]
    rw [e2] at h
    (repeat (first | refine g_sq ?_ | refine g_rg ?_ | refine g_r0 ?_ | refine g_ok rfl rfl ?_ | refine g_no rfl ?_ | refine g_no0 rfl ?_ | refine g_bk ?_ | refine g_b ?_ | refine g_sk ?_ | refine g_cT rfl ?_ | refine g_cF rfl ?_ | refine g_x rfl ?_ | refine g_lb ?_))
    exact g_ret (q_1 rfl (h _ _ (hS.nilrow 9 1)))
  · have e1 : eE d = 0 := by unfold eE; rw [if_pos hck]
    have e2 : refsOf d = sset (d.map fun x => (ent x).1) := by unfold refsOf; rw [if_pos hck]
    rw [e1]
    rw [e2] at h
    (repeat (first | refine g_sq ?_ | refine g_rg ?_ | refine g_r0 ?_ | refine g_ok rfl rfl ?_ | refine g_no rfl ?_ | refine g_no0 rfl ?_ | refine g_bk ?_ | refine g_b ?_ | refine g_sk ?_ | refine g_cT rfl ?_ | refine g_cF rfl ?_ | refine g_x rfl ?_ | refine g_lb ?_))
    refine g_ef rfl (ef_al hS fun b5 w1 hS => ?_)
    replace hS := hS.nilrow 9 1
    (repeat (first | refine g_sq ?_ | refine g_rg ?_ | refine g_r0 ?_ | refine g_ok rfl rfl ?_ | refine g_no rfl ?_ | refine g_no0 rfl ?_ | refine g_bk ?_ | refine g_b ?_ | refine g_sk ?_ | refine g_cT rfl ?_ | refine g_cF rfl ?_ | refine g_x rfl ?_ | refine g_lb ?_))
    refine g_cl rfl rfl (b_entries rfl rfl fun b1 w1 h' => ?_)
    replace hS := hS.call0.2 _ _ h'
    replace hS : St w (fun _ => False) w1 [cel b5 [.slice none 0 0] 46, row (.slice none 0 0) 9 1 0 [], cel b1 [.slice a n c] 22] := hS
    clear h'
    refine g_r0 ?_
    refine g_atd 1 [(3, dp b5)] (fun D1 w' => ∃ dB, D1 = [⟨.collected dB, #[]⟩] ∧ ∃ a1 c1,
      St w (fun _ => False) w' [cel b5 [.slice a1 n c1] 46, row (.slice a1 n c1) 9 1 n ((d.map fun x => (ent x).1).map sv), obj dB (.deferred (some []))]) rfl ?_ ?_
    · (repeat (first | refine g_sq ?_ | refine g_rg ?_ | refine g_r0 ?_ | refine g_ok rfl rfl ?_ | refine g_no rfl ?_ | refine g_no0 rfl ?_ | refine g_bk ?_ | refine g_b ?_ | refine g_sk ?_ | refine g_cT rfl ?_ | refine g_cF rfl ?_ | refine g_x rfl ?_ | refine g_lb ?_))
      refine g_wkc (T' := [(10, .func (.func 61) ⟨[]⟩ ⟨[dp b1]⟩), (3, dp b5)]) ⟨rfl, rfl, trivial⟩ ?_
      refine g_rf (cap := [dp b1]) (first := []) hS rfl (callFunc_of Tryz.func61 rfl rfl) fun l dB w2 hS => ?_
      refine d_entries (ι := Option Addr × Nat × Nat) (Ls := fun σ => [cel b5 [.slice σ.1 σ.2.2 σ.2.1] 46, row (.slice σ.1 σ.2.2 σ.2.1) 9 1 σ.2.2 (((d.take σ.2.2).map fun x => (ent x).1).map sv), cel b1 [.slice a n c] 22, obj dB (.deferred (some [])), _])
        (Inv := fun k σ => σ.2.2 = k) (i := 2) hd hn hlen (fun σ => rfl) (fun σ w' hS => hrr w' hS) (fun σ w' hS => hg.in hS) (σ0 := (none, 0, 0)) rfl hS ?_ ?_
      · clear hS
        rintro k hk ⟨a1, c1, k2⟩ w2 hI hS
        dsimp only at hI hS
        subst hI
        refine yd_of hS 4 rfl rfl ?_
        have hst : ((d.take (k2 + 1)).map fun x => (ent x).1).map sv = ((d.take k2).map fun x => (ent x).1).map sv ++ [sv (ent d[k2]).1] := by
          rw [List.take_succ_eq_append_getElem hk, List.map_append, List.map_append]
          rfl
        generalize hX : d[k2] = X at hst
        (repeat (first | refine g_sq ?_ | refine g_rg ?_ | refine g_r0 ?_ | refine g_ok rfl rfl ?_ | refine g_no rfl ?_ | refine g_no0 rfl ?_ | refine g_bk ?_ | refine g_b ?_ | refine g_sk ?_ | refine g_cT rfl ?_ | refine g_cF rfl ?_ | refine g_x rfl ?_ | refine g_lb ?_))
        refine g_ef rfl (ef_al hS fun b7 w2 hS => ?_)
        refine g_ef0 rfl (ef_st hS 5 rfl rfl rfl rfl (Nat.le_of_ble_eq_true rfl) rfl fun w2 hS => ?_)
        replace hS := hS.ceq (l' := ec (ent X)) 5 rfl rfl
        (repeat (first | refine g_sq ?_ | refine g_rg ?_ | refine g_r0 ?_ | refine g_ok rfl rfl ?_ | refine g_no rfl ?_ | refine g_no0 rfl ?_ | refine g_bk ?_ | refine g_b ?_ | refine g_sk ?_ | refine g_cT rfl ?_ | refine g_cF rfl ?_ | refine g_x rfl ?_ | refine g_lb ?_))
        refine ⟨rfl, _, _, hS, rfl, fun w2 hS => ?_⟩
        (repeat (first | refine g_sq ?_ | refine g_rg ?_ | refine g_r0 ?_ | refine g_ok rfl rfl ?_ | refine g_no rfl ?_ | refine g_no0 rfl ?_ | refine g_bk ?_ | refine g_b ?_ | refine g_sk ?_ | refine g_cT rfl ?_ | refine g_cF rfl ?_ | refine g_x rfl ?_ | refine g_lb ?_))
        refine g_l1 rfl rfl (hS.b  0 rfl) rfl ?_
        (repeat (first | refine g_sq ?_ | refine g_rg ?_ | refine g_r0 ?_ | refine g_ok rfl rfl ?_ | refine g_no rfl ?_ | refine g_no0 rfl ?_ | refine g_bk ?_ | refine g_b ?_ | refine g_sk ?_ | refine g_cT rfl ?_ | refine g_cF rfl ?_ | refine g_x rfl ?_ | refine g_lb ?_))
        refine g_l1 rfl rfl (hS.b  5 rfl) rfl ?_
        refine g_ef rfl (ef_bl (rs := [sv (ent X).1]) hS rfl fun g w2 hS => ?_)
        refine g_ef rfl (ef_ap (n := k2) (m := 1) (ys := [sv (ent X).1]) hS 1 rfl rfl rfl (.inl ⟨9, .inr ⟨g, 0, 1, _, rfl, Nat.le_refl _, Nat.le_refl _, rfl, (hS.b 6 rfl).r⟩⟩) rfl (by omega) (by omega) fun v1 w2 hS => ?_)
        obtain ⟨a2, c2, rfl⟩ := hS.rlen 1 rfl
        refine g_ef0 rfl (ef_st hS 0 rfl rfl rfl rfl (Nat.le_of_ble_eq_true rfl) rfl fun w2 hS => ?_)
        (repeat (first | refine g_sq ?_ | refine g_rg ?_ | refine g_r0 ?_ | refine g_ok rfl rfl ?_ | refine g_no rfl ?_ | refine g_no0 rfl ?_ | refine g_bk ?_ | refine g_b ?_ | refine g_sk ?_ | refine g_cT rfl ?_ | refine g_cF rfl ?_ | refine g_x rfl ?_ | refine g_lb ?_))
        rw [← hst] at hS
        exact ⟨_, _, hS.sel [0, 1, 2, 3, 4] rfl rfl, rfl, fun w2 hS => .inl ⟨rfl, (a2, c2, k2 + 1), rfl, hS⟩⟩
      · clear hS
        rintro ⟨a1, c1, k2⟩ w2 hI hS
        dsimp only at hI hS
        subst hI
        refine ⟨_, 4, _, _, hS, rfl, (fun h => nomatch h), fun w2 hS => ?_⟩
        rw [List.take_of_length_le (by omega)] at hS
        exact g_b (g_jd ⟨rfl, trivial⟩ ⟨dB, rfl, a1, c1, hS.sel [0, 1, 3] rfl rfl⟩)
    · clear hS
      rintro T D1 w1 hT ⟨dB, rfl, a1, c1, hS⟩
      refine g_wkc hT ?_
      (repeat (first | refine g_sq ?_ | refine g_rg ?_ | refine g_r0 ?_ | refine g_ok rfl rfl ?_ | refine g_no rfl ?_ | refine g_no0 rfl ?_ | refine g_bk ?_ | refine g_b ?_ | refine g_sk ?_ | refine g_cT rfl ?_ | refine g_cF rfl ?_ | refine g_x rfl ?_ | refine g_lb ?_))
      refine g_l1 rfl rfl (hS.b  0 rfl) rfl ?_
      have hml : (d.map fun x => (ent x).1).length = n := by rw [List.length_map, hd]
      replace hS := hS.sel [1, 0, 2] rfl rfl
      refine g_cl rfl rfl (CK.fr (A := [_]) (B := [_, _]) (A' := [row (.slice a1 n c1) 9 1 n ((srt (fun s : Bs => s) (d.map fun x => (ent x).1)).map sv)]) hS (fun hS h => b_SortS hml hn hS h) fun w1 hS => ?_)
      (repeat (first | refine g_sq ?_ | refine g_rg ?_ | refine g_r0 ?_ | refine g_ok rfl rfl ?_ | refine g_no rfl ?_ | refine g_no0 rfl ?_ | refine g_bk ?_ | refine g_b ?_ | refine g_sk ?_ | refine g_cT rfl ?_ | refine g_cF rfl ?_ | refine g_x rfl ?_ | refine g_lb ?_))
      refine g_l1 rfl rfl (hS.b  1 rfl) rfl ?_
      have hF := St.frame (A := [row (.slice a1 n c1) 9 1 n ((srt (fun s : Bs => s) (d.map fun x => (ent x).1)).map sv)]) (B := [cel b5 [.slice a1 n c1] 46, obj dB (.deferred (some []))]) hS
      refine g_cl rfl rfl (b_CompactS (by rw [srt_len, hml]) hn hF.1 fun v2 w2 h' => ?_)
      have hS := hF.2 _ _ h'
      (repeat (first | refine g_sq ?_ | refine g_rg ?_ | refine g_r0 ?_ | refine g_ok rfl rfl ?_ | refine g_no rfl ?_ | refine g_no0 rfl ?_ | refine g_bk ?_ | refine g_b ?_ | refine g_sk ?_ | refine g_cT rfl ?_ | refine g_cF rfl ?_ | refine g_x rfl ?_ | refine g_lb ?_))
      refine g_ret (q_dr hS 2 rfl fun w hS => q_1 rfl (h _ _ ?_))
      have e5 : sset (d.map fun x => (ent x).1) = ddn (srt (fun s : Bs => s) (d.map fun x => (ent x).1)) n := by unfold sset kset; rw [hml]
      rw [e5]
      exact hS.sel [0] rfl rfl
end
end Go.Proofs.YtibofabkpgigoaaGreatDoor
