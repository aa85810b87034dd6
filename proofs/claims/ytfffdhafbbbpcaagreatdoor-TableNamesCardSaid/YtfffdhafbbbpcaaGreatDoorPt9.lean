/- Rw5 Rw6 Rs1 Rw7 Rn1 Qe0 Rn2 Rw8 -/
import Derived.Test.YtfffdhafbbbpcaaGreatDoorPt8
import Derived.Test.YtfffdhafbbbpcaaGreatDoorChecked
import Derived.KernelRfl
set_option linter.unusedSimpArgs false
set_option linter.unusedVariables false
namespace Go.Proofs.YtfffdhafbbbpcaaGreatDoor
open Go.En
theorem fill_tab {T : TT} {a b : Operand} {x : List Nat} {z v : Value} (hx : x.length = 16) (ha : ev T a = some (.agg ⟨u4 x⟩)) (hb : ev T b = some v) (hv : v.cells.toList = [v]) : fillP T [(0, 16, a), (16, 1, b)] (zx [(16, .int .u32 0), (1, z)]) = some (u4 x ++ [v]) := by
 have l1 : (u4 x).length = 16 := by rw [u4_len, hx]
 have e1 : Nat.beq (u4 x).length 16 = true := by rw [l1]; rfl
 have e2 : Nat.ble (0 + (u4 x).length) 17 = true := by rw [l1]; rfl
 unfold fillP
 rw [ha]
 show (match Nat.beq (u4 x).length 16, Nat.ble (0 + (u4 x).length) 17 with | true, true => fillP T [(16, 1, b)] (spl _ 0 (u4 x)) | _, _ => none) = _
 rw [e1, e2]
 have e3 : spl (zx [(16, .int .u32 0), (1, z)]) 0 (u4 x) = u4 x ++ [z] := by
  have := spl_app [] (List.replicate 16 (Value.int .u32 0)) [z] (u4 x) (by rw [l1]; exact Nat.le_refl _)
  exact (show spl (zx [(16, .int .u32 0), (1, z)]) 0 (u4 x) = _ from this).trans (by simp [l1])
 rw [e3]
 unfold fillP
 rw [hb]
 show (match Nat.beq v.cells.toList.length 1, Nat.ble (16 + v.cells.toList.length) (u4 x ++ [z]).length with | true, true => fillP T [] (spl _ 16 v.cells.toList) | _, _ => none) = _
 rw [hv, List.length_append, l1]
 show some (spl (u4 x ++ [z]) 16 [v]) = _
 have := spl_app (u4 x) [z] [] [v] (Nat.le_refl _)
 rw [l1] at this
 simpa using this
theorem u4_16 {x : List Nat} (hx : x.length = 16) (v : Value) : (u4 x ++ [v])[0 + 16]? = some v := by rw [List.getElem?_append_right (by rw [u4_len]; omega), u4_len, hx]; rfl
theorem u4_h16 {x : List Nat} (hx : x.length = 16) (l : List Value) : ((u4 x ++ l).drop (0 + 0)).take 16 = u4 x := List.take_left' (by rw [u4_len, hx])
theorem lk_new {Y : List Sb} {z : Sb} (h : okP (gps (Y ++ [z]))) : ∀ e ∈ tE Y, e.key ≠ sv z.s := fun e he hk => by
 obtain ⟨i, hi, rfl⟩ := tE_get he
 have h1 := (List.pairwise_append.1 (gps_pw h)).2.2 Y[i] (List.getElem_mem hi) z (List.mem_singleton.2 rfl)
 exact blt_ne h1 (sv_inj hk)
section
variable {w w0 : World} {S0 : Nat → Prop} {L B : List Res} {K : Value → World → Prop} {s : Bs} {E0 E1 : Nat}
def bynd (x : List Nat) (r : Rec) : Bool := !hasV x r.site r.cnt || !decide (atm r.ctx x)
set_option maxHeartbeats 1000000 in
theorem b_beyond {M : List Res} {i b2 : Nat} {x : List Nat} (hx : x.length = 16) (hxb : ∀ y ∈ x, y < 4294967296) (hi : M[i]? = some (cel b2 (u4 x) 24)) (r : Rec) (hS : St w0 S0 w M) (h : ∀ w', St w0 S0 w' M → K (.bool (bynd x r)) w') : CK Tryz.prog 25 [.agg ⟨rc r⟩, dp b2] w K := by
 have lx : (u4 x).length = 16 := by rw [u4_len, hx]
 unfold bynd at h
 refine call_k Tryz.func25 k25 Tryz.ntmps25 (Nat.le_of_ble_eq_true rfl) ?_
 refine gW ?_
 refine g_ef rfl (ef_bx hS rfl fun b3 w1 hS => ?_)
 replace hS : St w0 S0 w1 (M ++ [cel b3 (rc r) 40]) := hS
 have hi' : (M ++ [cel b3 (rc r) 40])[i]? = some (cel b2 (u4 x) 24) := by rw [List.getElem?_append_left (List.getElem?_eq_some_iff.1 hi).1]; exact hi
 refine gW ?_
 refine g_lm rfl rfl (hS.b i hi') (Nat.le_of_eq lx.symm) ?_
 rw [List.drop_zero, List.take_of_length_le (Nat.le_of_eq lx)]
 refine gW ?_
 refine g_lm rfl rfl (hS.b M.length getL) (by rw [rc_len]; decide) ?_
 rw [show ((rc r).drop (0 + 0)).take 2 = dc r.site r.cnt from rc_dot _]
 refine g_cl rfl rfl (b_vHas hx hxb fun w1 h' => ?_)
 replace hS := hS.call0.2 _ _ h'
 rw [List.append_nil] at hS
 clear h'
 cases hq : hasV x r.site r.cnt
 ·rw [hq] at h
  refine gW ?_
  exact g_ret (q_1 rfl (h _ hS.init))
 ·rw [hq] at h
  refine gW ?_
  refine g_lm rfl rfl (hS.b M.length getL) (by rw [rc_len]; decide) ?_
  rw [show ((rc r).drop (0 + 2)).take 16 = u4 r.ctx from rc_c16 _]
  refine gW ?_
  refine g_lm rfl rfl (hS.b i hi') (Nat.le_of_eq lx.symm) ?_
  rw [List.drop_zero, List.take_of_length_le (Nat.le_of_eq lx)]
  refine g_cl rfl rfl (b_AtMost r.l16 hx fun w1 h' => ?_)
  replace hS := hS.call0.2 _ _ h'
  rw [List.append_nil] at hS
  refine gW ?_
  exact g_ret (q_1 rfl (h _ hS.init))
set_option maxHeartbeats 4000000 in
theorem b_LoadT {x : List Nat} {d : List Rec} {v : Value} (hx : x.length = 16) (hxb : ∀ y ∈ x, y < 4294967296) (hn : d.length < 2000000) (hg : Gl w) (hr : Rd v E0 52 d.length (fl rc d) w)
  (h1 : ¬ okT x d → ∀ w', St w (fun _ => False) w' [] → K (.tuple ⟨[.pointer none, .int .i64 210]⟩) w')
  (h2 : okT x d → ∀ bT bm Y w', gps Y = grp d → St w (fun _ => False) w' (TabR bT bm x Y) → K (.tuple ⟨[dp bT, .int .i64 0]⟩) w') : CK Tryz.prog 6 [.agg ⟨u4 x⟩, v] w K := by
 have hS := St.nil w (fun _ => False)
 have hrr : ∀ {L : List Res} {w' : World}, St w (fun _ => False) w' L → Rd v E0 52 d.length (fl rc d) w' := fun hS => hr.same fun b hb => hS.fr.kept b (hr.lt b hb) (fun h => h)
 obtain ⟨a, c, rfl⟩ := hr.form
 have lx : (u4 x).length = 16 := by rw [u4_len, hx]
 refine call_k Tryz.func6 k6 Tryz.ntmps6 (Nat.le_of_ble_eq_true rfl) ?_
 refine gW ?_
 refine g_ef rfl (ef_bx hS rfl fun b2 w1 hS => ?_)
 replace hS : St w (fun _ => False) w1 [cel b2 (u4 x) 24] := hS
 refine gW ?_
 refine g_sc rfl ?_
 refine gW ?_
 refine g_lm rfl rfl (hS.b 0 rfl) (Nat.le_of_eq lx.symm) ?_
 rw [List.drop_zero, List.take_of_length_le (Nat.le_of_eq lx)]
 refine g_ef rfl (ef_mkm hS fun mb w1 hS => ?_)
 refine g_qt rfl (qt_bd (out := u4 x ++ [.map (some mb)]) (fill_tab hx rfl rfl rfl) _) ?_
 refine g_ef rfl (ef_bx hS rfl fun bT w1 hS => ?_)
 refine gW ?_
 refine g_ef rfl (ef_al hS fun b6 w1 hS => ?_)
 refine g_ef0 rfl (ef_st hS 3 rfl rfl rfl rfl (Nat.le_of_ble_eq_true rfl) rfl fun w1 hS => ?_)
 refine gW ?_
 refine g_ef rfl (ef_al hS fun b7 w1 hS => ?_)
 refine g_ef rfl (ef_al hS fun b8 w1 hS => ?_)
 refine g_ef0 rfl (ef_st hS 4 rfl rfl rfl rfl (Nat.le_of_ble_eq_true rfl) rfl fun w1 hS => ?_)
 refine g_ef0 rfl (ef_st hS 5 rfl rfl rfl rfl (Nat.le_of_ble_eq_true rfl) rfl fun w1 hS => ?_)
 refine gW ?_
 refine g_cl rfl rfl (b_groups fun b1 w1 h' => ?_)
 replace hS := hS.call0.2 _ _ h'
 clear h'
 replace hS := St.ows_nil (sbR 109) hS
 replace hS : St w (fun _ => False) w1 [cel b2 (u4 x) 24, obj mb (.map ⟨tE []⟩ 0), cel bT (u4 x ++ [.map (some mb)]) 45, cel b6 [dp bT] 27, cel b7 [sv []] 9, cel b8 [.int .i64 0] 28, ows (sbR 109) [], cel b1 [.slice a d.length c] 25] := hS.sel [1, 2, 3, 4, 5, 6, 0, 7] rfl rfl
 refine g_r0 ?_
 refine g_atd 1 [(1, .slice a d.length c), (2, dp b2), (6, dp b6), (8, dp b8)] (fun D1 w' => ∃ dB, D1 = [⟨.collected dB, #[]⟩] ∧ ((¬ okP (grp d) ∧ St w (fun _ => False) w' [cel b2 (u4 x) 24, cel b8 [.int .i64 210] 28, obj dB (.deferred (some []))]) ∨
  (okP (grp d) ∧ ∃ Y, gps Y = grp d ∧ St w (fun _ => False) w' [cel b2 (u4 x) 24, cel b8 [.int .i64 0] 28, obj dB (.deferred (some [])), cel b6 [dp bT] 27, cel bT (u4 x ++ [.map (some mb)]) 45, obj mb (.map ⟨tE Y⟩ Y.length), ows (sbR 109) Y]))) rfl ?_ ?_
 ·refine gW ?_
  refine g_wkc (T' := [(18, .func (.func 53) ⟨[]⟩ ⟨[dp b1]⟩), (1, .slice a d.length c), (2, dp b2), (6, dp b6), (7, dp b7), (8, dp b8)]) ⟨rfl, rfl, rfl, rfl, rfl, rfl, trivial⟩ ?_
  refine g_rf (cap := [dp b1]) (first := []) hS rfl (callFunc_of Tryz.func53 rfl rfl) fun l dB w2 hS => ?_
  replace hS := hS.sel [0, 1, 2, 3, 4, 5, 6, 8, 9, 7] rfl rfl
  refine d_groups (ι := Bs × List Sb) (Ls := fun σ => [cel b2 (u4 x) 24, obj mb (.map ⟨tE σ.2⟩ σ.2.length), cel bT (u4 x ++ [Value.map (some mb)]) 45, cel b6 [dp bT] 27, cel b7 [sv σ.1] 9, cel b8 [.int .i64 0] 28, ows (sbR 109) σ.2, obj dB (.deferred (some [])), _])
   (Inv := fun k σ => okP (gps σ.2) ∧ gps σ.2 ++ grp (d.drop k) = grp d ∧ σ.1 = lastR (gps σ.2)) hn hrr (σ0 := ([], [])) ⟨⟨fun g hg => absurd hg List.not_mem_nil, List.Pairwise.nil⟩, rfl, rfl⟩ hS ?_ ?_
  ·clear hS
   rintro k m s vg X ⟨la, Y⟩ w2 hk hm0 hkm hgr hall hvg ⟨hP, hG, hla⟩ hS
   dsimp only at hP hG hla hS
   have hgl : ((d.drop k).take m).length = m := by rw [List.length_take, List.length_drop]; omega
   generalize (d.drop k).take m = g at hgr hall hvg hgl
   have hgne : g ≠ [] := fun e => by rw [e, List.length_nil] at hgl; omega
   rw [hgr] at hG
   have hvg' : ∀ {L : List Res} {w' : World}, St w (fun _ => False) w' L → Rd vg E0 52 g.length (fl rc g) w' := fun hS => by rw [hgl]; exact hvg hS
   refine yd_of hS 8 rfl rfl ?_
   refine gW ?_
   refine ⟨rfl, _, _, hS, rfl, fun w2 hS => ?_⟩
   refine gW ?_
   refine g_cl rfl rfl (b_LoadSb (d := g) rfl (by omega) hgne hall (hg.in hS) (hvg' hS) (fun hno w2 h' => ?_) (fun hyes bz vz w2 h' => ?_))
   ·replace hS := hS.call0.2 _ _ h'
    rw [List.append_nil] at hS
    clear h'
    have hbad : ¬ okP (grp d) := by rw [← hG]; exact okP_sib hno
    refine gW ?_
    refine g_ef0 rfl (ef_st hS 5 rfl rfl rfl rfl (Nat.le_of_ble_eq_true rfl) rfl fun w2 hS => ?_)
    refine gW ?_
    refine g_dr mixed ?_
    replace hS := hS.drew
    refine gD ?_
    refine d_fin ?_
    refine gW ?_
    refine g_ef0 rfl (ef_st hS 5 rfl rfl rfl rfl (Nat.le_of_ble_eq_true rfl) rfl fun w2 hS => ?_)
    refine gW ?_
    refine g_xt (k_xo rfl ?_)
    refine ⟨_, _, hS, rfl, fun w2 hS => .inr ⟨rfl, ?_⟩⟩
    refine ⟨_, 8, _, _, hS, rfl, (fun h => nomatch h), fun w2 hS => ?_⟩
    exact k_xt rfl (g_jd ⟨rfl, rfl, rfl, rfl, trivial⟩ ⟨dB, rfl, .inl ⟨hbad, hS.sel [0, 5, 7] rfl rfl⟩⟩)
   ·replace hS := hS.call0.2 _ _ h'
    clear h'
    obtain ⟨b3, off3, c3, l3, rfl, hc3, hbd3, hb3, hx3, hj3⟩ := rdk (hvg' hS) (List.length_pos_iff.2 hgne)
    have h18 : ∀ {L : List Res} {w' : World}, St w (fun _ => False) w' L → ∃ l3, Blr w' b3 l3 E0 ∧ l3[off3 + Int.toNat 0 * 52 + 18]? = some (sv s) := fun hS => by
     obtain ⟨b4, off4, c4, l4, e4, _, _, hb4, _, hj4⟩ := rdk (hvg' hS) (List.length_pos_iff.2 hgne)
     cases e4
     exact ⟨l4, hb4, by rw [show Int.toNat 0 = 0 from rfl, hj4 18 (by decide), rc_18, hall _ (List.getElem_mem _)]⟩
    refine gW ?_
    refine g_ef0 rfl (ef_st hS 5 rfl rfl rfl rfl (Nat.le_of_ble_eq_true rfl) rfl fun w2 hS => ?_)
    refine gW ?_
    refine g_dr mixed ?_
    replace hS := hS.drew
    refine gD ?_
    refine d_rq rfl rfl rfl ⟨by omega, by omega⟩ ?_
    refine gD ?_
    obtain ⟨l4, hb4, hl4⟩ := h18 hS
    refine d_l1r rfl rfl rfl hb4 (v := sv s) hl4 ?_
    refine d_l1 rfl rfl rfl (hS.b 4 rfl) rfl ?_
    refine gD ?_
    refine d_fin ?_
    rw [leq_ble]
    cases hle : ble s la
    ·have hz : okP (gps (Y ++ [⟨bz, vz, s, g⟩])) := by
      unfold gps at hP ⊢
      rw [List.map_append]
      refine okP_app (g := (s, g)) hP hyes (.inr ?_)
      show blt (lastR (gps Y)) s = true
      rw [← hla]
      unfold blt
      rw [hle]; rfl
     refine gW ?_
     refine g_rq rfl rfl ⟨by omega, by omega⟩ ?_
     refine gW ?_
     obtain ⟨l5, hb5, hl5⟩ := h18 hS
     refine g_l1r rfl rfl hb5 (v := sv s) hl5 ?_
     refine g_ef0 rfl (ef_st hS 4 rfl rfl rfl rfl (Nat.le_of_ble_eq_true rfl) rfl fun w2 hS => ?_)
     refine gW ?_
     refine g_dr mixed ?_
     replace hS := hS.drew
     refine gD ?_
     refine d_l1 rfl rfl rfl (hS.b 3 rfl) rfl ?_
     refine gD ?_
     refine d_l1 rfl rfl rfl (hS.b 2 rfl) (v := .map (some mb)) (u4_16 hx _) ?_
     refine d_l1 rfl rfl rfl (hS.b 4 rfl) rfl ?_
     refine gD ?_
     refine d_e0 rfl rfl (ef_mup (kl_str Tryz.underlying9) hS 1 rfl rfl rfl rfl ⟨_, rfl⟩ tE_key (fun _ w2 hS => ⟨rc_0, ?_⟩) fun j e hj he => absurd he (lk_new hz e (List.mem_of_getElem? hj)))
     refine d_fin ?_
     have e1 : tE Y ++ [⟨sv s, dp bz, Y.length⟩] = tE (Y ++ [⟨bz, vz, s, g⟩]) := (tE_app Y ⟨bz, vz, s, g⟩).symm
     replace hS := hS.merge 10 11 rfl rfl (by decide)
     replace hS : St w (fun _ => False) w2 (ows (sbR 109) Y :: sbR 109 ⟨bz, vz, s, g⟩ :: _) := hS.sel [6, 10, 0, 1, 2, 3, 4, 5, 7, 8, 9] rfl rfl
     replace hS := St.ows_app hS
     replace hS := hS.sel [1, 2, 3, 4, 5, 6, 0, 7, 8, 9] rfl rfl
     refine gW ?_
     refine ⟨_, _, hS, rfl, fun w2 hS => .inl ⟨rfl, (s, Y ++ [⟨bz, vz, s, g⟩]), ⟨hz, ?_, ?_⟩, ?_⟩⟩
     ·show gps (Y ++ [_]) ++ _ = _
      unfold gps at hG ⊢
      rw [List.map_append, ← hG]
      simp [Sb.g]
     ·show s = lastR (gps (Y ++ [_]))
      unfold gps
      rw [List.map_append]
      exact (lastR_app (List.map Sb.g Y) (s, g)).symm
     ·dsimp only
      rw [← e1, List.length_append]
      exact hS
    ·have hbad : ¬ okP (grp d) := by
      rw [← hG]
      by_cases hY : Y = []
      ·subst hY
       have e0 : la = [] := hla
       subst e0
       have h0 : Lib.compareBytes s [] ≤ 0 := of_decide_eq_true hle
       have hne := (sib_ne hyes hgne).2
       exact absurd h0 (by cases s with | nil => exact absurd rfl hne | cons => simp [Lib.compareBytes])
      ·refine okP_ord (g := (s, g)) (fun e => hY (by unfold gps at e; exact List.map_eq_nil_iff.1 e)) ?_
       show ¬ blt (lastR (gps Y)) s = true
       rw [← hla]
       unfold blt
       rw [hle]
       decide
     refine gW ?_
     refine g_ef0 rfl (ef_st hS 5 rfl rfl rfl rfl (Nat.le_of_ble_eq_true rfl) rfl fun w2 hS => ?_)
     refine gW ?_
     refine g_xt (k_xo rfl ?_)
     refine ⟨_, _, hS, rfl, fun w2 hS => .inr ⟨rfl, ?_⟩⟩
     refine ⟨_, 8, _, _, hS, rfl, (fun h => nomatch h), fun w2 hS => ?_⟩
     exact k_xt rfl (g_jd ⟨rfl, rfl, rfl, rfl, trivial⟩ ⟨dB, rfl, .inl ⟨hbad, hS.sel [0, 5, 7] rfl rfl⟩⟩)
  ·clear hS
   rintro ⟨la, Y⟩ w2 ⟨hP, hG, hla⟩ hS
   dsimp only at hP hG hla hS
   rw [List.drop_length] at hG
   have hG : gps Y = grp d := by rw [← hG]; exact (List.append_nil _).symm
   refine ⟨_, 8, _, _, hS, rfl, (fun h => nomatch h), fun w2 hS => ?_⟩
   exact g_b (g_jd ⟨rfl, rfl, rfl, rfl, trivial⟩ ⟨dB, rfl, .inr ⟨by rw [← hG]; exact hP, Y, hG, hS.sel [0, 5, 7, 3, 2, 1, 6] rfl rfl⟩⟩)
 ·clear hS
  rintro T D1 w1 hT ⟨dB, rfl, ⟨hbad, hS⟩ | ⟨hP, Y, hG, hS⟩⟩
  ·refine g_wkc hT ?_
   refine gW ?_
   refine g_l1 rfl rfl (hS.b  1 rfl) rfl ?_
   refine gW ?_
   exact g_ret (q_dr hS 2 rfl fun w hS => q_2 rfl rfl (h1 (fun h => hbad h.1) _ (hS.sel [] rfl rfl)))
  ·refine g_wkc hT ?_
   refine gW ?_
   refine g_l1 rfl rfl (hS.b  1 rfl) rfl ?_
   refine gW ?_
   refine g_cl rfl rfl (b_ConR (M := [_, _, _, _, _, _, _]) (p := bynd x) (callFunc_of Tryz.func25 rfl rfl) hn (fun r {_ _} hS h => b_beyond (i := 0) hx hxb rfl r hS h) hrr hS fun w1 hS => ?_)
   cases hany : d.any (bynd x)
   ·have hV : okV x d := fun r hr => by
     have h3 := List.any_eq_false.1 hany r hr
     unfold bynd at h3
     simpa using h3
    refine gW ?_
    refine g_l1 rfl rfl (hS.b  3 rfl) rfl ?_
    refine gW ?_
    exact g_ret (q_dr hS 2 rfl fun w hS => q_2 rfl rfl (h2 ⟨hP, hV⟩ _ _ Y _ hG (hS.sel [4, 5, 6] rfl rfl)))
   ·have hV : ¬ okV x d := fun h => by
     obtain ⟨r, hr, h3⟩ := List.any_eq_true.1 hany
     unfold bynd at h3
     have := h r hr
     simp [this.1, this.2] at h3
    refine gW ?_
    exact g_ret (q_dr hS 2 rfl fun w hS => q_2 rfl rfl (h1 (fun h => hV h.2) _ (hS.sel [] rfl rfl)))
end
theorem take2 {l : List Value} {o : Nat} {r : Rec} (h : (l.drop o).take 52 = rc r) : (l.drop (o + 2)).take 16 = u4 r.ctx := by
 have h1 := congrArg (fun x => (x.drop 2).take 16) h
 simp only [List.drop_take, List.drop_drop] at h1
 rw [rc_c16, List.take_take] at h1
 exact h1
theorem take0 {l : List Value} {o : Nat} {r : Rec} (h : (l.drop o).take 52 = rc r) : (l.drop (o + 0)).take 2 = dc r.site r.cnt := by
 have h1 := congrArg (fun x => x.take 2) h
 simp only [List.take_take] at h1
 exact h1
theorem fill_tab0 {T : TT} {a : Operand} {x : List Nat} {z : Value} (hx : x.length = 16) (ha : ev T a = some (.agg ⟨u4 x⟩)) : fillP T [(0, 16, a)] (zx [(16, .int .u32 0), (1, z)]) = some (u4 x ++ [z]) := by
 have l1 : (u4 x).length = 16 := by rw [u4_len, hx]
 have e1 : Nat.beq (u4 x).length 16 = true := by rw [l1]; rfl
 have e2 : Nat.ble (0 + (u4 x).length) 17 = true := by rw [l1]; rfl
 unfold fillP
 rw [ha]
 show (match Nat.beq (u4 x).length 16, Nat.ble (0 + (u4 x).length) 17 with | true, true => fillP T [] (spl _ 0 (u4 x)) | _, _ => none) = _
 rw [e1, e2]
 have e3 : spl (zx [(16, .int .u32 0), (1, z)]) 0 (u4 x) = u4 x ++ [z] := by
  have := spl_app [] (List.replicate 16 (Value.int .u32 0)) [z] (u4 x) (by rw [l1]; exact Nat.le_refl _)
  exact (show spl (zx [(16, .int .u32 0), (1, z)]) 0 (u4 x) = _ from this).trans (by simp [l1])
 rw [e3]
 rfl
theorem qt_md {P : Program} {T : TT} {w : World} {x y z : Operand} {b o n c lo hi sz : Nat} {k k' : IntKind} (hx : ev T x = some (.slice (some ⟨b, o, none⟩) n c)) (hy : ev T y = some (.int k (lo : Int))) (hz : ev T z = some (.int k' (hi : Int))) (h1 : lo ≤ hi) (h2 : hi ≤ c) (h3 : lo < c) :
  Qt P (.sl x (some y) (some z) none sz) T w (.slice (some ⟨b, o + lo * sz, none⟩) (hi - lo) (c - lo)) := by
 have q := qt_sl (P := P) (w := w) (sz := sz) (lo := some y) (hi := some z) (mx := none) (l := (lo : Int)) (h := (hi : Int)) (m := (c : Int)) (a' := some ⟨b, o + lo * sz, none⟩) hx (by simp [bnd, hy]) (by simp [bnd, hz]) rfl ⟨by omega, by omega, by omega, by omega⟩ (by
  simp only [Int.toNat_natCast]
  rw [if_neg (by omega), add_plain])
 simpa only [Int.toNat_natCast] using q
theorem geq_ble (a b : Bs) : scv .geq (⟨a.toArray⟩ : ByteArray).data.toList (⟨b.toArray⟩ : ByteArray).data.toList = ble b a := by
 show (!Op.bytesLess a b) = _
 rw [bless_eq]
 unfold ble
 have := cb_neg a b
 rw [Bool.eq_iff_iff, Bool.not_eq_true', decide_eq_false_iff_not, decide_eq_true_eq]
 omega
theorem spl_16 {x : List Nat} (hx : x.length = 16) (u v : Value) : spl (u4 x ++ [u]) (0 + 16) [v] = u4 x ++ [v] := by
 have := spl_app (u4 x) [u] [] [v] (Nat.le_refl _)
 rw [u4_len, hx] at this
 simpa using this
section
variable {w w0 : World} {S0 : Nat → Prop} {L B : List Res} {K : Value → World → Prop} {s : Bs} {E0 E1 : Nat}
set_option maxHeartbeats 4000000 in
theorem r_LoadT {x : List Nat} {d : List Rec} {v : Value} (hx : x.length = 16) (hxb : ∀ y ∈ x, y < 4294967296) (hn : d.length < 2000000) (hr : Rd v E0 52 d.length (fl rc d) w)
  (h1 : ¬ okT x d → ∀ w', St w (fun _ => False) w' [] → K (.tuple ⟨[.pointer none, .int .i64 210]⟩) w')
  (h2 : okT x d → ∀ bX vL Y w', gps Y = grp d → St w (fun _ => False) w' (TabX bX vL x Y) → K (.tuple ⟨[dp bX, .int .i64 0]⟩) w') : CK Tryz.prog 7 [.agg ⟨u4 x⟩, v] w K := by
 have hS := St.nil w (fun _ => False)
 have hrr : ∀ {L : List Res} {w' : World}, St w (fun _ => False) w' L → Rd v E0 52 d.length (fl rc d) w' := fun hS => hr.same fun b hb => hS.fr.kept b (hr.lt b hb) (fun h => h)
 obtain ⟨a, c, rfl⟩ := hr.form
 have lx : (u4 x).length = 16 := by rw [u4_len, hx]
 have ldx : ((u4 x).drop 0).take 16 = u4 x := by rw [List.drop_zero, List.take_of_length_le (Nat.le_of_eq lx)]
 refine call_k Tryz.func7 k7 Tryz.ntmps7 (Nat.le_of_ble_eq_true rfl) ?_
 refine gW ?_
 refine g_ef rfl (ef_bx hS rfl fun b2 w1 hS => ?_)
 replace hS : St w (fun _ => False) w1 [cel b2 (u4 x) 24] := hS
 refine gW ?_
 refine g_lm rfl rfl (hS.b 0 rfl) (Nat.le_of_eq lx.symm) ?_
 rw [ldx]
 refine g_qt rfl (qt_bd (out := u4 x ++ [.slice none 0 0]) (fill_tab0 hx rfl) _) ?_
 refine g_ef rfl (ef_bx hS rfl fun bX w1 hS => ?_)
 replace hS := hS.nilrow 77 1
 replace hS := St.ows_nil (sbR 116) hS
 replace hS : St w (fun _ => False) w1 [cel b2 (u4 x) 24, cel bX (u4 x ++ [.slice none 0 0]) 76, row (.slice none 0 0) 77 1 0 (fl e1p []), ows (sbR 116) []] := hS.sel [1, 2, 3, 0] rfl rfl
 refine gW ?_
 refine g_lp (ι := Nat × Nat × Option Addr × Nat × List Sb) (fun y => [(1, .slice a d.length c), (2, dp b2), (6, dp bX), (7, .int .i64 y.2.1), (8, .int .i64 y.1)])
  (fun y w' => (y.1 ≤ d.length ∧ y.2.1 ≤ y.1 ∧ (y.1 = d.length → y.2.1 = d.length)) ∧ (okP (gps y.2.2.2.2) ∧ gps y.2.2.2.2 ++ grp (d.drop y.2.1) = grp d ∧ okV x (d.take y.1)) ∧ (∀ j (hj : j < d.length) (hk : y.1 < d.length), y.2.1 ≤ j → j ≤ y.1 → d[j].ref = d[y.1].ref) ∧ ((y.2.1 = 0 → y.2.2.2.2 = []) ∧ (∀ h : y.2.1 - 1 < d.length, 0 < y.2.1 → y.2.2.2.2 ≠ [] ∧ d[y.2.1 - 1].ref = lastR (gps y.2.2.2.2))) ∧
   St w (fun _ => False) w' [cel b2 (u4 x) 24, cel bX (u4 x ++ [.slice y.2.2.1 y.2.2.2.2.length y.2.2.2.1]) 76, row (.slice y.2.2.1 y.2.2.2.2.length y.2.2.2.1) 77 1 y.2.2.2.2.length (fl e1p y.2.2.2.2), ows (sbR 116) y.2.2.2.2]) (fun y => d.length - y.1) (0, 0, none, 0, [])
  ⟨rfl, rfl, rfl, rfl, rfl, trivial⟩ ⟨⟨Nat.zero_le _, Nat.le_refl _, fun h => h⟩, ⟨⟨fun g hg => absurd hg List.not_mem_nil, List.Pairwise.nil⟩, rfl, fun r hr => absurd hr List.not_mem_nil⟩, fun j hj hk h3 h4 => by cases (Nat.le_zero.1 h4); rfl, ⟨fun _ => rfl, fun _ h => absurd h (Nat.lt_irrefl 0)⟩, hS⟩ ?_
 clear hS
 rintro ⟨k, fr, aL, cL, Y⟩ w1 ⟨⟨hk, hfk, hfn⟩, ⟨hP, hG, hV⟩, hseg, ⟨hY0, hlast⟩, hS⟩
 dsimp only at hk hfk hfn hP hG hV hseg hY0 hlast hS ⊢
 refine gW ?_
 (generalize hlt : cmv _ _ _ = q; cases q <;> simp only [cmv, arv, Bool.not_eq_true', Bool.not_eq_false', decide_eq_true_eq, decide_eq_false_iff_not] at hlt <;> first | (exfalso; omega) | skip)
 ·have ek : k = d.length := by omega
  have ef := hfn ek
  subst ek
  subst ef
  rw [List.drop_length] at hG
  rw [List.take_length] at hV
  have hG : gps Y = grp d := by rw [← hG]; exact (List.append_nil _).symm
  refine gW ?_
  exact g_ret (q_2 rfl rfl (h2 ⟨by rw [← hG]; exact hP, hV⟩ _ _ Y _ hG (hS.sel [1, 2, 3] rfl rfl)))
 have hlt : k < d.length := by omega
 clear hfn
 obtain ⟨b, off, c2, l2, e, hcap, hbd, hb, hxk, hj⟩ := rdk (hrr hS.drew) hlt
 cases e
 refine gW ?_
 refine g_dr mixed ?_
 replace hS := hS.drew
 refine gD ?_
 refine d_lm rfl rfl rfl (hS.b 0 rfl) (Nat.le_of_eq lx.symm) ?_
 rw [ldx]
 refine gD ?_
 refine d_rq rfl rfl rfl ⟨by omega, by omega⟩ ?_
 refine gD ?_
 refine d_qt rfl rfl rfl (qt_ldmr rfl hb (by rw [Int.toNat_natCast]; omega)) ?_
 rw [Int.toNat_natCast, take0 hxk]
 refine d_cl rfl rfl rfl (r_vHas hx hxb fun w1 h' => ⟨rc_0, ?_⟩)
 replace hS := hS.call0.2 _ _ h'
 rw [List.append_nil] at hS
 clear h'
 refine gD ?_
 refine d_fin ?_
 obtain ⟨b3, off3, c3, l3, e, _, hbd3, hb3, hxk3, hj3⟩ := rdk (hrr hS.drew) hlt
 cases e
 refine gW ?_
 refine g_dr mixed ?_
 replace hS := hS.drew
 refine gD ?_
 refine d_rq rfl rfl rfl ⟨by omega, by omega⟩ ?_
 refine gD ?_
 refine d_qt rfl rfl rfl (qt_ldmr rfl hb3 (by rw [Int.toNat_natCast]; omega)) ?_
 rw [Int.toNat_natCast, take2 hxk3]
 refine d_lm rfl rfl rfl (hS.b 0 rfl) (Nat.le_of_eq lx.symm) ?_
 rw [ldx]
 refine d_cl rfl rfl rfl (r_AtMost d[k].l16 hx fun w1 h' => ⟨rc_0, ?_⟩)
 replace hS := hS.call0.2 _ _ h'
 rw [List.append_nil] at hS
 clear h'
 refine gD ?_
 refine d_fin ?_
 cases hq : hasV x d[k].site d[k].cnt
 ·refine gW ?_
  refine g_ret (q_2 rfl rfl (h1 (fun h => ?_) _ (hS.sel [] rfl rfl)))
  have := (h.2 _ (List.getElem_mem hlt)).1
  rw [hq] at this
  cases this
 by_cases hm : atm d[k].ctx x
 rotate_left
 ·rw [decide_eq_false hm]
  refine gW ?_
  exact g_ret (q_2 rfl rfl (h1 (fun h => hm (h.2 _ (List.getElem_mem hlt)).2) _ (hS.sel [] rfl rfl)))
 rw [decide_eq_true hm]
 have hV' : okV x (d.take (k + 1)) := fun r hr => by
  rw [List.take_succ_eq_append_getElem hlt] at hr
  rcases List.mem_append.1 hr with hr | hr
  ·exact hV r hr
  ·rw [List.mem_singleton.1 hr]; exact ⟨hq, hm⟩
 have ek1 : arv BinOp.add (k : Int) 1 = ((k + 1 : Nat) : Int) := by simp only [arv]; omega
 refine gW ?_
 refine g_atx (ι := Unit) 2 (fun _ => [(1, .slice (some ⟨b, off, none⟩) d.length c), (2, dp b2), (6, dp bX), (7, .int .i64 fr), (8, .int .i64 k)]) (fun _ w' => (∀ h : k + 1 < d.length, d[k + 1].ref ≠ d[k].ref) ∧
  St w (fun _ => False) w' [cel b2 (u4 x) 24, cel bX (u4 x ++ [.slice aL Y.length cL]) 76, row (.slice aL Y.length cL) 77 1 Y.length (fl e1p Y), ows (sbR 116) Y]) rfl ?_ ?_
 ·refine g_dr mixed ?_
  replace hS := hS.drew
  refine gD ?_
  refine d_rq rfl rfl rfl (in64 (by rw [ek1]; omega)) ?_
  refine gD ?_
  rw [ek1]
  by_cases hl1 : k + 1 < d.length
  ·rw [show cmv BinOp.lss ((k + 1 : Nat) : Int) (d.length : Int) = true from decide_eq_true (by omega)]
   obtain ⟨b4, off4, c4, l4, e, _, hbd4, hb4, hxk4, hj4⟩ := rdk (hrr hS) hlt
   cases e
   obtain ⟨b5, off5, c5, l5, e, _, hbd5, hb5, hxk5, hj5⟩ := rdk (hrr hS) hl1
   cases e
   refine gD ?_
   refine d_rq rfl rfl rfl (in64 (by rw [ek1]; omega)) ?_
   refine gD ?_
   rw [ek1]
   refine d_rq rfl rfl rfl ⟨by omega, by omega⟩ ?_
   refine gD ?_
   refine d_l1r rfl rfl rfl hb5 (v := sv d[k + 1].ref) (by rw [Int.toNat_natCast, hj5 18 (by decide)]; exact rc_18 _) ?_
   refine gD ?_
   refine d_rq rfl rfl rfl ⟨by omega, by omega⟩ ?_
   refine gD ?_
   refine d_l1r rfl rfl rfl hb4 (v := sv d[k].ref) (by rw [Int.toNat_natCast, hj4 18 (by decide)]; exact rc_18 _) ?_
   refine gD ?_
   refine d_fin ?_
   rw [dec_svr]
   by_cases e : d[k + 1].ref = d[k].ref
   ·rw [decide_eq_true e]
    refine gW ?_
    refine g_rq rfl rfl (in64 (by simp only [arv]; omega)) ?_
    refine gW ?_
    refine g_l (k + 1, fr, aL, cL, Y) ⟨rfl, rfl, rfl, rfl, rfl, trivial⟩ ⟨⟨by simp only; omega, by simp only; omega, fun h => by simp only at h; omega⟩, ⟨hP, hG, hV'⟩, fun j hj hk h3 h4 => ?_, ⟨hY0, hlast⟩, hS⟩ (by simp only; omega)
    dsimp only at h3 h4 ⊢
    by_cases ej : j = k + 1
    ·subst ej; rfl
    ·rw [e]; exact hseg j hj hlt h3 (by omega)
   ·rw [decide_eq_false e]
    refine gW ?_
    exact g_jx () ⟨rfl, rfl, rfl, rfl, rfl, trivial⟩ ⟨fun _ => e, hS⟩
  ·rw [show cmv BinOp.lss ((k + 1 : Nat) : Int) (d.length : Int) = false from decide_eq_false (by omega)]
   refine gD ?_
   refine d_fin ?_
   refine gW ?_
   exact g_jx () ⟨rfl, rfl, rfl, rfl, rfl, trivial⟩ ⟨fun h => absurd h hl1, hS⟩
 clear hS
 rintro _ T w1 hT ⟨hdiff, hS⟩
 refine g_wkc hT ?_
 clear hT
 have hgr := grp_seg hfk hlt (fun j hj h3 h4 => hseg j hj hlt h3 h4) hdiff
 have hgl : ((d.drop fr).take (k + 1 - fr)).length = k + 1 - fr := by rw [List.length_take, List.length_drop]; omega
 have hall : ∀ y ∈ (d.drop fr).take (k + 1 - fr), y.ref = d[k].ref := fun y hy => by
  obtain ⟨j, hj, rfl⟩ := List.mem_take_iff_getElem.1 hy
  rw [List.length_drop] at hj
  rw [List.getElem_drop]
  exact hseg _ (by omega) hlt (by omega) (by omega)
 have hvg : ∀ {L : List Res} {w' : World}, St w (fun _ => False) w' L → Rd (.slice (some ⟨b, off + fr * 52, none⟩) (k + 1 - fr) (c - fr)) E0 52 (k + 1 - fr) (fl rc ((d.drop fr).take (k + 1 - fr))) w' := fun hS => grd (v := undef) (hrr hS) (by omega) (by omega)
 generalize (d.drop fr).take (k + 1 - fr) = g at hgr hgl hall hvg
 have hgne : g ≠ [] := fun e => by rw [e, List.length_nil] at hgl; omega
 rw [hgr] at hG
 refine gW ?_
 refine g_rq rfl rfl (in64 (by rw [ek1]; omega)) ?_
 rw [ek1]
 refine g_qt rfl (qt_md (lo := fr) (hi := k + 1) rfl rfl rfl (by omega) (by omega) (by omega)) ?_
 refine g_cl rfl rfl (r_LoadSb (d := g) hgl (by omega) hgne hall (hvg hS) (fun hno w2 h' => ?_) (fun hyes bz vz w2 h' => ?_))
 ·replace hS := hS.call0.2 _ _ h'
  rw [List.append_nil] at hS
  clear h'
  refine gW ?_
  refine g_dr mixed ?_
  replace hS := hS.drew
  refine gD ?_
  refine d_fin ?_
  refine gW ?_
  exact g_ret (q_2 rfl rfl (h1 (fun h => okP_sib hno (by rw [hG]; exact h.1)) _ (hS.sel [] rfl rfl)))
 replace hS := hS.call0.2 _ _ h'
 clear h'
 refine gW ?_
 refine g_atx (ι := Unit) 2 (fun _ => [(1, .slice (some ⟨b, off, none⟩) d.length c), (2, dp b2), (6, dp bX), (8, .int .i64 k), (11, dp bz)]) (fun _ w' => okP (gps (Y ++ [⟨bz, vz, d[k].ref, g⟩])) ∧
  St w (fun _ => False) w' [cel b2 (u4 x) 24, cel bX (u4 x ++ [.slice aL Y.length cL]) 76, row (.slice aL Y.length cL) 77 1 Y.length (fl e1p Y), ows (sbR 116) Y, cel bz [sv d[k].ref, vz] 116, rowR vz g]) rfl ?_ ?_
 ·refine g_dr mixed ?_
  replace hS := hS.drew
  refine gD ?_
  by_cases h0 : fr = 0
  ·have hY := hY0 h0
   subst hY
   rw [show cmv BinOp.gtr (fr : Int) 0 = false from decide_eq_false (by omega)]
   refine gD ?_
   refine d_fin ?_
   refine gW ?_
   exact g_jx () ⟨rfl, rfl, rfl, rfl, rfl, trivial⟩ ⟨okP_app (D := []) (g := (d[k].ref, g)) hP hyes (.inl rfl), hS⟩
  ·obtain ⟨hY, hls⟩ := hlast (by omega) (by omega)
   rw [show cmv BinOp.gtr (fr : Int) 0 = true from decide_eq_true (by omega)]
   have ef1 : arv BinOp.sub (fr : Int) 1 = ((fr - 1 : Nat) : Int) := by simp only [arv]; omega
   have hf1 : fr - 1 < d.length := by omega
   have hf0 : fr < d.length := by omega
   have hfr : d[fr].ref = d[k].ref := hseg fr hf0 hlt (Nat.le_refl _) hfk
   obtain ⟨b4, off4, c4, l4, e, _, hbd4, hb4, hxk4, hj4⟩ := rdk (hrr hS) hf1
   cases e
   obtain ⟨b5, off5, c5, l5, e, _, hbd5, hb5, hxk5, hj5⟩ := rdk (hrr hS) hf0
   cases e
   refine gD ?_
   refine d_rq rfl rfl rfl (in64 (by rw [ef1]; omega)) ?_
   refine gD ?_
   rw [ef1]
   refine d_rq rfl rfl rfl ⟨by omega, by omega⟩ ?_
   refine gD ?_
   refine d_l1r rfl rfl rfl hb4 (v := sv d[fr - 1].ref) (by rw [Int.toNat_natCast, hj4 18 (by decide)]; exact rc_18 _) ?_
   refine gD ?_
   refine d_rq rfl rfl rfl ⟨by omega, by omega⟩ ?_
   refine gD ?_
   refine d_l1r rfl rfl rfl hb5 (v := sv d[k].ref) (by rw [Int.toNat_natCast, hj5 18 (by decide), ← hfr]; exact rc_18 _) ?_
   refine gD ?_
   refine d_fin ?_
   rw [geq_ble, hls]
   cases hle : ble d[k].ref (lastR (gps Y))
   ·refine gW ?_
    refine g_jx () ⟨rfl, rfl, rfl, rfl, rfl, trivial⟩ ⟨?_, hS⟩
    unfold gps at hP ⊢
    rw [List.map_append]
    refine okP_app (g := (d[k].ref, g)) hP hyes (.inr ?_)
    show blt (lastR (gps Y)) d[k].ref = true
    unfold blt
    rw [hle]; rfl
   ·refine gW ?_
    refine g_ret (q_2 rfl rfl (h1 (fun h => okP_ord (D := gps Y) (g := (d[k].ref, g)) (fun e => hY (by unfold gps at e; exact List.map_eq_nil_iff.1 e)) ?_ (by rw [hG]; exact h.1)) _ (hS.sel [] rfl rfl)))
    show ¬ blt (lastR (gps Y)) d[k].ref = true
    unfold blt
    rw [hle]
    decide
 clear hS
 rintro _ T w1 hT ⟨hz, hS⟩
 refine g_wkc hT ?_
 clear hT
 have hYl : (gps Y).length ≤ d.length := by
  have := congrArg List.length hG
  rw [List.length_append] at this
  have := grp_len d
  omega
 rw [gps_len] at hYl
 refine gW ?_
 refine g_l1 rfl rfl (hS.b 1 rfl) (v := .slice aL Y.length cL) (u4_16 hx _) ?_
 refine gW ?_
 refine g_ef rfl (ef_bl (rs := [dp bz]) hS rfl fun gb w1 hS => ?_)
 refine gW ?_
 refine g_ef rfl (ef_ap (n := Y.length) (m := 1) (ys := [dp bz]) hS 2 rfl rfl rfl (.inl ⟨77, .inr ⟨gb, 0, 1, _, rfl, Nat.le_refl _, Nat.le_refl _, rfl, (hS.b 6 rfl).r⟩⟩) rfl (by omega) (by omega) fun v1 w1 hS => ?_)
 obtain ⟨a2, c2, rfl⟩ := hS.rlen 2 rfl
 refine gW ?_
 refine g_ef0 rfl (ef_st hS 1 rfl rfl rfl rfl (by rw [List.length_append, lx]; exact Nat.le_refl 17) rfl fun w2 hS => ?_)
 replace hS := hS.ceq (l' := u4 x ++ [.slice a2 (Y.length + 1) c2]) 1 rfl (spl_16 hx _ _)
 replace hS := hS.merge 4 5 rfl rfl (by decide)
 replace hS : St w (fun _ => False) w2 (ows (sbR 116) Y :: sbR 116 ⟨bz, vz, d[k].ref, g⟩ :: _) := hS.sel [3, 4, 0, 1, 2] rfl rfl
 replace hS := St.ows_app hS
 replace hS := hS.sel [1, 2, 3, 0] rfl rfl
 refine gW ?_
 refine g_rq rfl rfl (in64 (by simp only [arv]; omega)) ?_
 refine gW ?_
 refine g_rq rfl rfl (in64 (by simp only [arv]; omega)) ?_
 refine gW ?_
 refine g_l (k + 1, k + 1, a2, c2, Y ++ [⟨bz, vz, d[k].ref, g⟩]) ⟨rfl, rfl, rfl, rfl, rfl, trivial⟩ ⟨⟨by simp only; omega, Nat.le_refl _, fun h => h⟩, ⟨hz, ?_, hV'⟩, fun j hj hk h3 h4 => ?_, ⟨fun h => absurd h (by simp), fun h _ => ⟨by simp, ?_⟩⟩, ?_⟩ (by simp only; omega)
 ·dsimp only
  unfold gps at hG ⊢
  rw [List.map_append, ← hG]
  simp [Sb.g]
 ·dsimp only at h3 h4 ⊢
  have : j = k + 1 := by omega
  subst this; rfl
 ·dsimp only
  unfold gps
  rw [List.map_append]
  exact (lastR_app (List.map Sb.g Y) (d[k].ref, g)).symm
 ·dsimp only
  rw [List.length_append, fl_app]
  exact hS
end
open Go.En Go.Sort
theorem lt_cb : ∀ a b : Bs, a < b ↔ Lib.compareBytes a b < 0
 | [], [] => by simp [Lib.compareBytes]
 | [], _ :: _ => by simp [Lib.compareBytes]
 | _ :: _, [] => by simp [Lib.compareBytes]
 | x :: a, y :: b => by
  have ih := lt_cb a b
  rw [List.cons_lt_cons_iff, ih]
  show _ ↔ (if x < y then (-1 : Int) else if y < x then 1 else Lib.compareBytes a b) < 0
  by_cases h1 : x < y
  ·simp [h1]
  ·by_cases h2 : y < x
   ·have : ¬ x = y := by rintro rfl; exact h1 h2
    simp [h1, h2, this]
   ·have e : x = y := by
     rw [UInt8.lt_iff_toNat_lt] at h1 h2
     exact UInt8.toNat_inj.1 (by omega)
    subst e
    simp
theorem le_ble (a b : Bs) : decide (a ≤ b) = ble a b := by
 unfold ble
 refine decide_eq_decide.2 ?_
 have h2 := cb_neg a b
 rw [← List.not_lt, lt_cb b a]
 omega
theorem srt_str (l : List Bs) : (l.mergeSort fun x y => decide (x ≤ y)) = srt (fun s : Bs => s) l := by
 unfold srt
 congr 1
 funext x y
 exact le_ble x y
section
variable {w w0 : World} {S0 : Nat → Prop} {L : List Res} {K : Value → World → Prop}
theorem svs_len (d : List Bs) : (d.map sv).length = d.length := List.length_map _
theorem putS_St {i b cap E n m : Nat} {rest : List Value} {d d' : List Bs} {os : Array Obj} (hS : St w0 S0 w L) (hi : L[i]? = some (row (.slice (some ⟨b, 0, none⟩) n cap) E 1 n (d.map sv)))
  (hn : n ≤ cap) (hd : d.length = n) (hl : (d.map sv ++ rest).length = cap * 1) (hb : Blk w b (d.map sv ++ rest) E) (hd' : d'.length = n) :
  St w0 S0 (grow (putRow encStr (Sort.ahead w m) b 0 d'.toArray) os) (L.set i (row (.slice (some ⟨b, 0, none⟩) n cap) E 1 n (d'.map sv))) := by
 have e1 : putCells encStr 0 d'.toArray ⟨d.map sv ++ rest⟩ = ⟨d'.map sv ++ rest⟩ := by
  refine Array.ext_getElem? fun j => ?_
  unfold putCells
  rw [Array.getElem?_mapIdx]
  simp only [List.getElem?_toArray, List.size_toArray, Nat.zero_add, Nat.sub_zero, Nat.zero_le, true_and]
  by_cases hj : j < n
  ·rw [List.getElem?_append_left (by rw [svs_len]; omega), List.getElem?_append_left (by rw [svs_len]; omega), List.getElem?_map, List.getElem?_map, List.getElem?_eq_getElem (by omega), List.getElem?_eq_getElem (by omega)]
   simp only [Option.map_some]
   rw [if_pos (by omega)]
   congr 1
   simp [show j < d'.length by omega, encStr, sv]
  ·rw [List.getElem?_append_right (by rw [svs_len]; omega), List.getElem?_append_right (by rw [svs_len]; omega), svs_len, svs_len, hd, hd']
   cases rest[j - n]? with
   | none => rfl
   | some x => rw [Option.map_some, if_neg (by omega)]
 obtain ⟨fr, hh, hf⟩ := hb
 have hlt : b < w.heap.size := (Array.getElem?_eq_some_iff.1 hh).1
 have ehb : (grow (putRow encStr (Sort.ahead w m) b 0 d'.toArray) os).heap[b]? = some (.cells ⟨d'.map sv ++ rest⟩ E fr) := by
  show (w.heap.modify b _ ++ os)[b]? = _
  rw [Array.getElem?_append_left (by rw [Array.size_modify]; exact hlt), Array.getElem?_modify, if_pos rfl, hh]
  show some (Obj.cells (putCells encStr 0 _ ⟨d.map sv ++ rest⟩) E fr) = _
  rw [e1]
 have hlen : (d'.map sv ++ rest).length = (d.map sv ++ rest).length := by
  rw [List.length_append, List.length_append, svs_len, svs_len, hd, hd']
 refine hS.turn hi ⟨?_, ?_, rfl, rfl, rfl, ?_⟩ (fun b' h => .inl h) ?_ ?_
 ·show w.heap.size ≤ (w.heap.modify b _ ++ os).size
  rw [Array.size_append, Array.size_modify]; omega
 ·intro b' hb' hn'
  show (w.heap.modify b _ ++ os)[b']? = _
  rw [Array.getElem?_append_left (by rw [Array.size_modify]; exact hb'), Array.getElem?_modify, if_neg]
  rintro rfl
  exact hn' rfl
 ·show w.drawn ≤ w.drawn + m
  omega
 ·rintro b' h
  have h : b' = b := h
  subst h
  exact (Array.getElem?_eq_some_iff.1 ehb).1
 ·refine .inr ⟨b, cap, rest, rfl, hn, ?_, by rw [hlen, hl], fr, ehb, ?_⟩
  ·rw [svs_len, hd', Nat.mul_one]
  ·rw [hlen]; exact hf
theorem holds_str {b E : Nat} {rest : List Value} (d : List Bs) (hb : Blk w b (d.map sv ++ rest) E) : Holds encStr w b 0 d.toArray := by
 intro j hj
 simp only [List.size_toArray] at hj
 have hc : (d.map sv ++ rest)[j]? = some (encStr d.toArray[j]!) := by
  rw [List.getElem?_append_left (by rw [svs_len]; exact hj), List.getElem?_map, List.getElem?_eq_getElem hj]
  simp [hj, encStr, sv]
 rw [Nat.zero_add]
 exact ⟨(hb.r.cell j).trans hc, hb.free (by rw [List.length_append, svs_len]; omega)⟩
end
section
variable {w w0 : World} {S0 : Nat → Prop} {L B : List Res} {K : Value → World → Prop}
theorem b_SortS {v : Value} {n : Nat} {d : List Bs} (hd : d.length = n) (hn : n < 2000000) (hS : St w0 S0 w [row v 9 1 n (d.map sv)]) (h : ∀ w', St w0 S0 w' [row v 9 1 n ((srt (fun s : Bs => s) d).map sv)] → K (.tuple ⟨[]⟩) w') : CK Tryz.prog 52 [v] w K := by
 rcases hS.ok 0 _ rfl with ⟨rfl, rfl, h3⟩ | ⟨b, cap, rest, rfl, hnc, hx, hl, hb⟩
 ·have e : d = [] := List.eq_nil_of_length_eq_zero hd
  subst e
  refine (Tryz.slices_Sort_string_none none 0 w).mono ?_
  rintro e w' ⟨rfl, rfl⟩
  refine ⟨_, rfl, h _ ?_⟩
  have : srt (fun s : Bs => s) [] = [] := List.eq_nil_of_length_eq_zero (srt_len _ [])
  rw [this]
  exact hS
 ·subst hd
  refine (Tryz.slices_Sort_string b 0 cap d w (holds_str d hb) hb.lt (by omega)).mono ?_
  rintro e w' ⟨rfl, m, os, rfl⟩
  refine ⟨_, rfl, h _ ?_⟩
  rw [srt_str]
  exact putS_St (i := 0) hS rfl hnc rfl hl hb (srt_len _ _)
end
structure TabOk (Y : List Sb) : Prop where
 P : okP (gps Y)
 ne : ∀ z ∈ Y, z.l ≠ []
 len : (flt Y).length < 400000
theorem TabOk.s {Y : List Sb} (h : TabOk Y) {z : Sb} (hz : z ∈ Y) : brk z.s = 0 ∧ z.s ≠ [] := sib_ne (gps_sib h.P hz) (h.ne z hz)
theorem TabOk.one {Y : List Sb} (h : TabOk Y) {z : Sb} (hz : z ∈ Y) : z.l.length < 400000 := Nat.lt_of_le_of_lt (flt_mem hz) h.len
theorem ne_len : ∀ {Y : List Sb}, (∀ z ∈ Y, z.l ≠ []) → Y.length ≤ (flt Y).length
 | [], _ => Nat.le_refl _
 | z :: Y, h => by
  have h1 := ne_len (Y := Y) fun y hy => h y (List.mem_cons_of_mem _ hy)
  have h2 := List.length_pos_iff.2 (h z List.mem_cons_self)
  show _ ≤ (z.l ++ flt Y).length
  rw [List.length_cons, List.length_append]
  omega
theorem TabOk.n {Y : List Sb} (h : TabOk Y) : Y.length < 400000 := Nat.lt_of_le_of_lt (ne_len h.ne) h.len
structure TabV (bT bm : Nat) (x : List Nat) (Y : List Sb) (w : World) : Prop where
 t : ∃ E, Blr w bT (u4 x ++ [.map (some bm)]) E
 m : ∃ Y0 : List Sb, Y0.Perm Y ∧ w.heap[bm]? = some (.map ⟨tE Y0⟩ Y0.length)
 z : ∀ z ∈ Y, SbV z w
section
variable {w w0 : World} {S0 : Nat → Prop} {L B : List Res} {K : Value → World → Prop} {s : Bs} {E0 E1 : Nat} {bT bm : Nat} {x : List Nat} {Y : List Sb}
theorem TabV.in (h : TabV bT bm x Y w0) (hS : St w0 (fun _ => False) w L) : TabV bT bm x Y w := by
 obtain ⟨⟨E, h1⟩, ⟨Y0, hp, h2⟩, h3⟩ := h
 exact ⟨⟨E, h1.same (hS.fr.kept _ h1.lt fun h => h)⟩, ⟨Y0, hp, (hS.fr.kept _ (Array.getElem?_eq_some_iff.1 h2).1 fun h => h).trans h2⟩, fun z hz => (h3 z hz).in hS⟩
theorem TabV.of (hS : St w0 S0 w (TabR bT bm x Y ++ B)) : TabV bT bm x Y w := ⟨⟨_, (hS.b 0 rfl).r⟩, ⟨Y, List.Perm.refl _, hS.ok 1 _ rfl⟩, sb_v hS (i := 2) rfl⟩
theorem tE_val {Y0 : List Sb} {e : MapEntry} (hp : Y0.Perm Y) (h : Y.Pairwise fun a b => blt a.s b.s = true) (he : e ∈ tE Y0) (hk : e.key = sv s) : e.val = ptS (lkT Y s) := by
 obtain ⟨i, hi, rfl⟩ := tE_get he
 have e1 : Y0[i].s = s := sv_inj hk
 obtain ⟨j, hj, e2⟩ := List.mem_iff_getElem.1 (hp.mem_iff.1 (List.getElem_mem hi))
 rw [← e1, ← e2, lk_in h hj]
 rfl
theorem tE_none {Y0 : List Sb} (hp : Y0.Perm Y) (h : ∀ e ∈ tE Y0, e.key ≠ sv s) : lkT Y s = none := lk_no fun z hz e => by
 obtain ⟨i, hi, rfl⟩ := List.mem_iff_getElem.1 (hp.mem_iff.2 hz)
 exact h _ (tE_at Y0 hi) (by rw [e])
theorem b_ofT (hO : TabOk Y) (hv : TabV bT bm x Y w) (hx : x.length = 16) (h : K (ptS (lkT Y s)) w) : CK Tryz.prog 47 [dp bT, sv s] w K := by
 obtain ⟨⟨E, hb⟩, ⟨Y0, hp, hm⟩, hz⟩ := hv
 refine call_k Tryz.func47 k47 Tryz.ntmps47 (Nat.le_of_ble_eq_true rfl) ?_
 refine gW ?_
 refine g_l1r rfl rfl hb (v := .map (some bm)) (u4_16 hx _) ?_
 refine gW ?_
 refine g_ef rfl (ef_mlk (kl_str Tryz.underlying9) hm rfl rfl ⟨_, rfl⟩ tE_key (fun hne => ?_) fun j e hj he => ?_)
 ·rw [tE_none hp hne] at h
  refine gW ?_
  exact g_ret (q_1 rfl h)
 ·have e1 := tE_val hp (gps_pw hO.P) (List.mem_of_getElem? hj) he
  rw [← e1] at h
  refine gW ?_
  exact g_ret (q_1 rfl h)
theorem allC (hO : TabOk Y) (hz : ∀ z ∈ Y, SbV z w) (s : Bs) : AllC w (ptS (lkT Y s)) (sibT (gps Y) s) := fun {K} h => by
 rw [sibT_lk] at h
 cases e : lkT Y s with
 | none =>
  rw [e] at h
  exact b_AllN1 fun w' hS => h _ _ hS
 | some z =>
  rw [e] at h
  have hm := (lk_mem e).1
  have := hO.one hm
  exact b_AllSb (hz z hm) (hO.s hm).2 (by omega) h
theorem sib_len (hO : TabOk Y) (s : Bs) : (sibT (gps Y) s).length < 400000 := by
 rw [sibT_lk]
 cases e : lkT Y s with
 | none => exact Nat.zero_lt_succ _
 | some z => exact hO.one (lk_mem e).1
theorem b_SibT (hO : TabOk Y) (hv : TabV bT bm x Y w) (hx : x.length = 16) (h : ∀ v' w', St w (fun _ => False) w' [rowR v' (sibT (gps Y) s)] → K v' w') : CK Tryz.prog 16 [dp bT, sv s] w K := by
 refine call_k Tryz.func16 k16 Tryz.ntmps16 (Nat.le_of_ble_eq_true rfl) ?_
 refine gW ?_
 refine g_cl rfl rfl (b_ofT hO hv hx ?_)
 refine gW ?_
 refine g_cl rfl rfl (allC hO hv.z s fun v1 w1 hS => ?_)
 refine gW ?_
 exact g_ret (q_1 rfl (h _ _ hS))
theorem b_Vec (hv : TabV bT bm x Y w) (hx : x.length = 16) (h : ∀ w', St w (fun _ => False) w' [] → K (.agg ⟨u4 x⟩) w') : CK Tryz.prog 13 [dp bT] w K := by
 have hS := St.nil w (fun _ => False)
 have lx : (u4 x).length = 16 := by rw [u4_len, hx]
 have lz : (zx [(16, Value.int .u32 0)]).length = 16 := by decide
 obtain ⟨⟨E, hb⟩, _⟩ := hv
 refine call_k Tryz.func13 k13 Tryz.ntmps13 (Nat.le_of_ble_eq_true rfl) ?_
 refine gW ?_
 refine g_ef rfl (ef_al hS fun b2 w1 hS => ?_)
 refine gW ?_
 refine g_lmr rfl rfl (hb.same (hS.fr.kept _ hb.lt fun h => h)) (by rw [List.length_append, lx]; exact Nat.le_add_right 16 _) ?_
 rw [u4_h16 hx]
 refine g_ef0 rfl (ef_st hS 0 rfl rfl rfl lx (by rw [lz]; decide) (u4_one _) fun w1 hS => ?_)
 replace hS := hS.ceq (l' := u4 x) 0 rfl (spl_full' _ _ (by show (u4 x).length = _; rw [lx, lz]))
 refine gW ?_
 refine g_ret (q_c1 (n := 16) rfl (by kernel_rfl) (hS.b 0 rfl) (by rw [lx]; decide) ?_)
 rw [List.drop_zero, List.take_of_length_le (Nat.le_of_eq lx)]
 exact h _ (hS.sel [] rfl rfl)
set_option maxHeartbeats 2000000 in
theorem b_RefsT (hO : TabOk Y) (hv : TabV bT bm x Y w) (hx : x.length = 16) (h : ∀ v' w', St w (fun _ => False) w' [row v' 9 1 Y.length ((Y.map (·.s)).map sv)] → K v' w') : CK Tryz.prog 21 [dp bT] w K := by
 have hS := St.nil w (fun _ => False)
 have hYn := hO.n
 obtain ⟨⟨E, hb⟩, ⟨Y0, hp0, hm⟩, hz⟩ := hv
 have hl0 := hp0.length_eq
 have hzz : ∀ z ∈ Y0, z ∈ Y := fun z hz => hp0.mem_iff.1 hz
 have hYn0 : Y0.length < 400000 := by omega
 have hm' : ∀ {L : List Res} {w' : World}, St w (fun _ => False) w' L → w'.heap[bm]? = some (.map ⟨tE Y0⟩ Y0.length) := fun hS => (hS.fr.kept _ (Array.getElem?_eq_some_iff.1 hm).1 fun h => h).trans hm
 refine call_k Tryz.func21 k21 Tryz.ntmps21 (Nat.le_of_ble_eq_true rfl) ?_
 refine gW ?_
 refine g_l1r rfl rfl hb (v := .map (some bm)) (u4_16 hx _) ?_
 refine g_ef rfl (ef_mrg hS hm rfl fun bi w1 hS => ?_)
 replace hS := hS.nilrow 9 1
 refine gW ?_
 refine g_lp (ι := Array Nat × Option Addr × Nat) (fun y => [(3, .slice y.2.1 (tldS Y0 y.1).length y.2.2), (12, .pointer (some ⟨bi, 0, none⟩))])
  (fun y w' => y.1.toList.Nodup ∧ (∀ k ∈ y.1.toList, k < Y0.length) ∧ y.1.size + (leftOf ⟨tE Y0⟩ y.1).size ≤ Y0.length ∧ St w (fun _ => False) w' [obj bi (.mapIter (some bm) Y0.length y.1 Y0.length), row (.slice y.2.1 (tldS Y0 y.1).length y.2.2) 9 1 (tldS Y0 y.1).length (((tldS Y0 y.1).map (·.s)).map sv)]) (fun y => (leftOf ⟨tE Y0⟩ y.1).size) (#[], none, 0)
  ⟨rfl, rfl, trivial⟩ ⟨List.Pairwise.nil, fun k hk => absurd hk List.not_mem_nil, ?_, hS⟩ ?_
 ·have : (leftOf ⟨tE Y0⟩ #[]).size ≤ (tE Y0).length := Array.size_filter_le
  have h2 : (tE Y0).length = Y0.length := by unfold tE; rw [List.length_mapIdx]
  show (#[] : Array Nat).size + (leftOf ⟨tE Y0⟩ #[]).size ≤ Y0.length
  rw [show (#[] : Array Nat).size = 0 from rfl]
  omega
 clear hS
 rintro ⟨seen, a1, c1⟩ w1 ⟨hN, hB, hM, hS⟩
 dsimp only at hN hB hM hS ⊢
 refine gW ?_
 refine g_ef rfl (ef_mnx hS 0 rfl rfl (hm' hS) (fun y hy => ?_) (Nat.le_refl _) (fun hz0 => ?_) (fun e hel w2 hS => ?_))
 ·obtain ⟨k, hk, rfl⟩ := tE_get hy
  exact hk
 ·have hp := (tldS_all hN hB hz0).trans hp0
  have hl := hp.length_eq
  have es := srt_gps hO.P hp
  replace hS := hS.sel [1] rfl rfl
  refine gW ?_
  refine g_cl rfl rfl (b_SortS (d := (tldS Y0 seen).map (·.s)) (by rw [List.length_map]) (by omega) hS fun w2 hS => ?_)
  rw [es, hl] at hS
  refine gW ?_
  rw [hl]
  exact g_ret (q_1 rfl (h _ _ hS))
 ·have hsh := left_shrinks _ _ _ hel
  have hmem := (mem_left hel).1
  obtain ⟨k, hk, rfl, hns⟩ := leftS_get hel
  have hsz : (leftOf ⟨tE Y0⟩ (seen.push k)).size < (leftOf ⟨tE Y0⟩ seen).size := hsh
  have hz' := hO.s (hzz _ (List.getElem_mem hk))
  have ho' := hO.one (hzz _ (List.getElem_mem hk))
  have hne' := hO.ne _ (hzz _ (List.getElem_mem hk))
  have htl := tldS_len Y0 seen
  have hpush := tldS_push (seen := seen) hk
  refine gW ?_
  refine g_qt rfl (qt_men (e := ⟨sv Y0[k].s, dp Y0[k].b, k⟩) (seen := seen) rfl (hS.ok 0 _ rfl) (hm' hS) hmem (by rw [show ((⟨tE Y0⟩ : Array MapEntry).toList.map (·.born)) = List.range Y0.length from tE_born Y0]; exact List.nodup_range)) ?_
  refine gW ?_
  refine g_cl rfl rfl (b_AllSb ((hz _ (hzz _ (List.getElem_mem hk))).in hS) hz'.2 (by omega) fun v3 w3 h' => ?_)
  replace hS := hS.call0.2 _ _ h'
  clear h'
  obtain ⟨a3, c3, rfl⟩ := hS.rlen 2 rfl
  have hp0 := List.length_pos_iff.2 hne'
  refine gW ?_
  rw [show cmv BinOp.gtr (Y0[k].l.length : Int) 0 = true from decide_eq_true (by omega)]
  refine gW ?_
  refine g_ef rfl (ef_bl (rs := [sv Y0[k].s]) hS rfl fun g w1 hS => ?_)
  refine gW ?_
  refine g_ef rfl (ef_ap (n := (tldS Y0 seen).length) (m := 1) (ys := [sv Y0[k].s]) hS 1 rfl rfl rfl (.inl ⟨9, .inr ⟨g, 0, 1, _, rfl, Nat.le_refl _, Nat.le_refl _, rfl, (hS.b 3 rfl).r⟩⟩) rfl (by omega) (by omega) fun v1 w1 hS => ?_)
  obtain ⟨a2, c2, rfl⟩ := hS.rlen 1 rfl
  have e1 : ((tldS Y0 seen).map (·.s)).map sv ++ [sv Y0[k].s] = ((tldS Y0 (seen.push k)).map (·.s)).map sv := by rw [hpush]; simp
  have e2 : (tldS Y0 seen).length + 1 = (tldS Y0 (seen.push k)).length := by rw [hpush]; simp
  rw [e1, e2] at hS
  refine gW ?_
  rw [e2]
  refine g_l (seen.push k, a2, c2) ⟨rfl, rfl, trivial⟩ ⟨?_, ?_, ?_, hS.sel [0, 1] rfl rfl⟩ hsz
  ·show (seen.push k).toList.Nodup
   rw [Array.toList_push, List.nodup_append]
   exact ⟨hN, List.pairwise_singleton _ _, fun a ha c hc => by rw [List.mem_singleton.1 hc]; rintro rfl; exact hns ha⟩
  ·intro y hy
   rw [Array.toList_push, List.mem_append] at hy
   rcases hy with hy | hy
   ·exact hB y hy
   ·rw [List.mem_singleton.1 hy]; exact hk
  ·show (seen.push k).size + (leftOf ⟨tE Y0⟩ (seen.push k)).size ≤ Y0.length
   rw [Array.size_push]; omega
theorem b_each (h : ∀ b w', St w (fun _ => False) w' [cel b [dp bT] 27] → K (.func (.func 80) ⟨[]⟩ ⟨[dp b]⟩) w') : CK Tryz.prog 43 [dp bT] w K := by
 have hS := St.nil w (fun _ => False)
 refine call_k Tryz.func43 k43 Tryz.ntmps43 (Nat.le_of_ble_eq_true rfl) ?_
 refine gW ?_
 refine g_ef rfl (ef_bx hS rfl fun b1 w1 hS => ?_)
 replace hS : St w (fun _ => False) w1 [cel b1 [dp bT] 27] := hS
 refine gW ?_
 exact g_ret (q_1 rfl (h _ _ hS))
set_option maxHeartbeats 2000000 in
theorem d_each {ι : Type} {Ls : ι → List Res} {Inv : Nat → ι → Prop} {b1 l i : Nat} (hO : TabOk Y) (hx : x.length = 16) (hi : ∀ σ, (Ls σ)[i]? = some (cel b1 [dp bT] 27)) (hv : ∀ {L : List Res} {w : World}, St w0 S0 w L → TabV bT bm x Y w)
  {σ0 : ι} (h0 : Inv 0 σ0) (hS : St w0 S0 w (Ls σ0))
  (hy : ∀ (k : Nat) (hk : k < Y.length) (X : Res) (σ : ι) (w : World), Inv k σ → St w0 S0 w (Ls σ ++ [X]) → Yd Tryz.prog l [sv Y[k].s, dp Y[k].b] w fun v w' => (v = .bool true ∧ ∃ σ', Inv (k + 1) σ' ∧ St w0 S0 w' (Ls σ' ++ [X])) ∨ (v = .bool false ∧ K (.tuple ⟨[]⟩) w'))
  (he : ∀ σ w, Inv Y.length σ → St w0 S0 w (Ls σ) → K (.tuple ⟨[]⟩) w) : CK Tryz.prog 80 [.func (.yield l) ⟨[]⟩ ⟨[]⟩, dp b1] w K := by
 have hYn := hO.n
 have hi' : ∀ σ X, (Ls σ ++ [X])[i]? = some (cel b1 [dp bT] 27) := fun σ X => by rw [List.getElem?_append_left (List.getElem?_eq_some_iff.1 (hi σ)).1]; exact hi σ
 refine call_k Tryz.func80 k80 Tryz.ntmps80 (Nat.le_of_ble_eq_true rfl) ?_
 refine gW ?_
 refine g_l1 rfl rfl (hS.b i (hi σ0)) rfl ?_
 refine g_cl rfl rfl (b_RefsT hO (hv hS) hx fun v6 w1 h' => ?_)
 replace hS := hS.call0.2 _ _ h'
 clear h'
 obtain ⟨a6, c6, rfl⟩ := hS.rlen (Ls σ0).length getL
 refine gW ?_
 refine g_lp (ι := Nat × ι) (fun y => [(0, .func (.yield l) ⟨[]⟩ ⟨[]⟩), (1, dp b1), (6, .slice a6 Y.length c6), (7, .int .i64 Y.length), (8, .int .i64 y.1)]) (fun y w => y.1 ≤ Y.length ∧ Inv y.1 y.2 ∧ St w0 S0 w (Ls y.2 ++ [row (.slice a6 Y.length c6) 9 1 Y.length ((Y.map (·.s)).map sv)])) (fun y => Y.length - y.1) (0, σ0)
  ⟨rfl, rfl, rfl, rfl, rfl, trivial⟩ ⟨Nat.zero_le _, h0, hS⟩ ?_
 clear hS h0
 rintro ⟨k, σ⟩ w1 ⟨hk, hI, hS⟩
 dsimp only at hk hI hS ⊢
 refine gW ?_
 (generalize hlt : cmv _ _ _ = q; cases q <;> simp only [cmv, arv, Bool.not_eq_true', Bool.not_eq_false', decide_eq_true_eq, decide_eq_false_iff_not] at hlt <;> first | (exfalso; omega) | skip)
 ·have ek : k = Y.length := by omega
  subst ek
  refine gW ?_
  exact q_n (he _ _ hI hS.init)
 have hlt : k < Y.length := by omega
 obtain ⟨b, off, cap, l2, e, hcap, hl, hxl, hb⟩ := Rd.block (Ow.rd (hS.ok (Ls σ).length _ getL)) (by omega)
 cases e
 have hrd : l2[off + k * 1]? = some (sv Y[k].s) := by
  have h1 := congrArg (fun l : List Value => l[k]?) hxl
  simp only [Nat.mul_one] at h1
  rw [List.getElem?_take_of_lt hlt, List.getElem?_drop, List.getElem?_map, List.getElem?_map, List.getElem?_eq_getElem hlt] at h1
  rw [Nat.mul_one]
  exact h1
 refine gW ?_
 refine g_rq rfl rfl ⟨by omega, by omega⟩ ?_
 refine gW ?_
 refine g_l1r rfl rfl hb (v := sv Y[k].s) (by rw [Int.toNat_natCast]; exact hrd) ?_
 refine gW ?_
 refine g_l1 rfl rfl (hS.b i (hi' σ _)) rfl ?_
 obtain ⟨⟨E, hbT⟩, ⟨Y0, hp, hm⟩, hz⟩ := hv hS
 refine gW ?_
 refine g_l1r rfl rfl hbT (v := .map (some bm)) (u4_16 hx _) ?_
 refine gW ?_
 refine g_ef rfl (ef_mlk (kl_str Tryz.underlying9) hm rfl rfl ⟨_, rfl⟩ tE_key (fun hne => ?_) fun j e hj he => ?_)
 ·have := tE_none hp hne
  rw [lk_in (gps_pw hO.P) hlt] at this
  cases this
 have e1 := tE_val hp (gps_pw hO.P) (List.mem_of_getElem? hj) he
 rw [lk_in (gps_pw hO.P) hlt] at e1
 rw [e1]
 refine g_ef rfl (ef_yd (vs := [sv Y[k].s, dp Y[k].b]) rfl rfl ((hy k hlt _ σ _ hI hS).mono ?_))
 rintro v w (⟨rfl, σ', hI', hS⟩ | ⟨rfl, hK⟩)
 ·refine gW ?_
  refine g_rq rfl rfl (in64 (by simp only [arv]; omega)) ?_
  refine gW ?_
  exact g_l (k + 1, σ') ⟨rfl, rfl, rfl, rfl, rfl, trivial⟩ ⟨hlt, hI', hS⟩ (by simp only; omega)
 ·refine gW ?_
  exact g_ret (q_0 hK)
end
theorem u64n {n : Nat} (h : n < 1000000000) : IntKind.u64.wrap (n : Int) = (n : Int) := wrap_in (k := .u64) ⟨by show (0 : Int) ≤ _; omega, by show _ ≤ (18446744073709551615 : Int); omega⟩
theorem cb_lt_trans {a b c : Bs} (h : Lib.compareBytes a b < 0) (k : Lib.compareBytes b c < 0) : Lib.compareBytes a c < 0 := by
 have h1 := cb_trans (Int.le_of_lt h) (Int.le_of_lt k)
 rcases cb_three a c with h2 | h2 | h2
 ·omega
 ·have := cb_zero h2
  subst this
  have := cb_neg a b
  omega
 ·omega
theorem half (n : Nat) (h : n < 4000000) : IntKind.i64.wrap (shv .shr .u64 (IntKind.u64.wrap (n : Int)) 1) = ((n / 2 : Nat) : Int) := by
 rw [u64n (by omega)]
 show IntKind.i64.wrap ((n : Int).fdiv (2 ^ (min (1 : Int).toNat IntKind.u64.bits))) = _
 have e : min (1 : Int).toNat IntKind.u64.bits = 1 := by decide
 rw [e, show (2 : Int) ^ 1 = 2 from rfl, Int.fdiv_eq_ediv_of_nonneg _ (by decide)]
 exact (wrap_in (in64 (by omega))).trans (by omega)
abbrev Srt (d : List Id) : Prop := d.Pairwise (lts fun x : Id => x.1)
theorem lts_neg {x y : Id} (h : lts (fun x : Id => x.1) x y) : Lib.compareBytes x.1 y.1 < 0 := by
 obtain ⟨h1, h2⟩ := h
 have h1 : Lib.compareBytes x.1 y.1 ≤ 0 := of_decide_eq_true h1
 rcases cb_three x.1 y.1 with h | h | h
 ·omega
 ·exact absurd (id_inj _ _ (cb_zero h)) h2
 ·omega
section
variable {w w0 : World} {S0 : Nat → Prop} {L B : List Res} {K : Value → World → Prop} {s : Bs} {E0 E1 : Nat} {bS bm bg bd : Nat} {x : Id}
set_option maxHeartbeats 2000000 in
theorem b_BSF {v : Value} {d : List Id} (hs : Srt d) (hn : d.length < 2000000) (hr : Rd v E0 32 d.length (fl ic d) w) (h : ∀ (i : Nat) w', St w (fun _ => False) w' [] → K (.tuple ⟨[.int .i64 i, .bool (decide (x ∈ d))]⟩) w') : CK Tryz.prog 218 [v, .agg ⟨ic x⟩, .func (.func 84) ⟨[]⟩ ⟨[]⟩] w K := by
 have hS := St.nil w (fun _ => False)
 have lx := ic_len x
 have ldx : ((ic x).drop 0).take 32 = ic x := by rw [List.drop_zero, List.take_of_length_le (Nat.le_of_eq lx)]
 have hrr : ∀ {L : List Res} (w' : World), St w (fun _ => False) w' L → Rd v E0 32 d.length (fl ic d) w' := fun w' hS => hr.same fun b hb => hS.fr.kept b (hr.lt b hb) (fun h => h)
 have mono : ∀ i j (hi : i < d.length) (hj : j < d.length), i ≤ j → Lib.compareBytes d[i].1 x.1 ≥ 0 → Lib.compareBytes d[j].1 x.1 ≥ 0 := fun i j hi hj hij h0 => by
  by_cases e : i = j
  ·subst e; exact h0
  ·have h1 := lts_neg (List.pairwise_iff_getElem.1 hs i j hi hj (by omega))
   rcases Int.lt_or_le (Lib.compareBytes d[j].1 x.1) 0 with h2 | h2
   ·have := cb_lt_trans h1 h2; omega
   ·exact h2
 obtain ⟨a, c, rfl⟩ := hr.form
 refine call_k Tryz.func218 k218 Tryz.ntmps218 (Nat.le_of_ble_eq_true rfl) ?_
 refine gW ?_
 refine g_ef rfl (ef_bx hS rfl fun b4 w1 hS => ?_)
 replace hS : St w (fun _ => False) w1 [cel b4 (ic x) 38] := hS
 refine gW ?_
 refine g_lp (ι := Nat × Nat) (fun y => [(0, .slice a d.length c), (2, .func (.func 84) ⟨[]⟩ ⟨[]⟩), (4, dp b4), (8, .int .i64 d.length), (9, .int .i64 y.1), (10, .int .i64 y.2)])
  (fun y w' => y.1 ≤ y.2 ∧ y.2 ≤ d.length ∧ (∀ k (hk : k < d.length), k < y.1 → Lib.compareBytes d[k].1 x.1 < 0) ∧ (∀ k (hk : k < d.length), y.2 ≤ k → Lib.compareBytes d[k].1 x.1 ≥ 0) ∧ St w (fun _ => False) w' [cel b4 (ic x) 38]) (fun y => y.2 - y.1) (0, d.length)
  ⟨rfl, rfl, rfl, rfl, rfl, rfl, trivial⟩ ⟨Nat.zero_le _, Nat.le_refl _, fun k _ h => absurd h (Nat.not_lt_zero k), fun k hk h => absurd h (by simp only; omega), hS⟩ ?_
 clear hS
 rintro ⟨i, j⟩ w1 ⟨hij, hjn, hlo, hhi, hS⟩
 dsimp only at hij hjn hlo hhi hS ⊢
 refine gW ?_
 (generalize hlt : cmv _ _ _ = q; cases q <;> simp only [cmv, arv, Bool.not_eq_true', Bool.not_eq_false', decide_eq_true_eq, decide_eq_false_iff_not] at hlt <;> first | (exfalso; omega) | skip)
 ·have e : i = j := by omega
  subst e
  refine gW ?_
  refine g_dr mixed ?_
  replace hS := hS.drew
  refine gD ?_
  (generalize hin : cmv _ _ _ = q; cases q <;> simp only [cmv, arv, Bool.not_eq_true', Bool.not_eq_false', decide_eq_true_eq, decide_eq_false_iff_not] at hin <;> first | (exfalso; omega) | skip)
  ·have hx : x ∉ d := fun hx => by
    obtain ⟨k, hk, rfl⟩ := List.mem_iff_getElem.1 hx
    have := hlo k hk (by omega)
    rw [cb_self] at this
    omega
   refine gD ?_
   refine d_en rfl rfl rc_0 ?_
   refine gD ?_
   refine d_fin ?_
   have := h i _ (hS.sel [] rfl rfl)
   rw [decide_eq_false hx] at this
   refine gW ?_
   exact g_ret (q_2 rfl rfl this)
  ·have hin : i < d.length := by omega
   obtain ⟨b, off, cap, lr, e1, hcap, hlr, hx, hb⟩ := Rd.block (hrr _ hS) (by omega)
   cases e1
   have hbd : off + i * 32 + 32 ≤ lr.length := by have : (i + 1) * 32 ≤ c * 32 := Nat.mul_le_mul_right 32 (by omega); omega
   refine gD ?_
   refine d_rq rfl rfl rfl ⟨by omega, by omega⟩ ?_
   refine d_qt rfl rfl rfl (qt_ldmr rfl hb hbd) ?_
   rw [Int.toNat_natCast, rd_at ic_len hx rfl hin]
   refine d_lm rfl rfl rfl (hS.b 0 rfl) (Nat.le_of_eq lx.symm) ?_
   rw [ldx]
   refine d_e rfl rfl ?_
   refine ef_cv (first := []) (cap := []) rfl rfl (callFunc_of Tryz.func84 rfl rfl) (b_Compare d[i].2 x.2 fun w2 h' => ⟨rc_0, ?_⟩)
   replace hS := hS.call0.2 _ _ h'
   refine gD ?_
   refine d_fin ?_
   have hiff : cmv .eql (Lib.compareBytes d[i].1 x.1) 0 = decide (x ∈ d) := by
    simp only [cmv]
    refine decide_eq_decide.2 ⟨fun h => ?_, fun hx => ?_⟩
    ·have := id_inj _ _ (cb_zero h)
     rw [← this]; exact List.getElem_mem hin
    ·obtain ⟨k, hk, rfl⟩ := List.mem_iff_getElem.1 hx
     have h1 : i ≤ k := Nat.le_of_not_lt fun hc => by have := hlo k hk hc; rw [cb_self] at this; omega
     by_cases e : i = k
     ·subst e; exact cb_self _
     ·have h2 := lts_neg (List.pairwise_iff_getElem.1 hs i k hin hk (by omega))
      have h3 := hhi i hin (Nat.le_refl _)
      omega
   rw [hiff]
   refine gW ?_
   exact g_ret (q_2 rfl rfl (h i _ (hS.sel [] rfl rfl)))
 ·have hlt : i < j := by omega
  have hm1 : (i + j) / 2 < d.length := by omega
  refine gW ?_
  refine g_rq rfl rfl (in64 (by simp only [arv]; omega)) ?_
  refine gW ?_
  rw [show arv .add (i : Int) (j : Int) = ((i + j : Nat) : Int) by simp only [arv]; omega]
  refine g_rq rfl rfl (by decide) ?_
  refine gW ?_
  rw [half (i + j) (by omega)]
  obtain ⟨b, off, cap, lr, e1, hcap, hlr, hx, hb⟩ := Rd.block (hrr _ hS.drew) (by omega)
  cases e1
  have hbd : off + (i + j) / 2 * 32 + 32 ≤ lr.length := by have : ((i + j) / 2 + 1) * 32 ≤ c * 32 := Nat.mul_le_mul_right 32 (by omega); omega
  refine gW ?_
  refine g_dr mixed ?_
  replace hS := hS.drew
  refine gD ?_
  refine d_rq rfl rfl rfl ⟨by omega, by omega⟩ ?_
  refine d_qt rfl rfl rfl (qt_ldmr rfl hb hbd) ?_
  rw [Int.toNat_natCast, rd_at ic_len hx rfl hm1]
  refine d_lm rfl rfl rfl (hS.b 0 rfl) (Nat.le_of_eq lx.symm) ?_
  rw [ldx]
  refine d_e rfl rfl ?_
  refine ef_cv (first := []) (cap := []) rfl rfl (callFunc_of Tryz.func84 rfl rfl) (b_Compare d[(i + j) / 2].2 x.2 fun w2 h' => ⟨rc_0, ?_⟩)
  replace hS := hS.call0.2 _ _ h'
  rw [List.append_nil] at hS
  refine gD ?_
  refine d_fin ?_
  by_cases hc : Lib.compareBytes d[(i + j) / 2].1 x.1 < 0
  ·rw [show cmv BinOp.lss (Lib.compareBytes d[(i + j) / 2].1 x.1) 0 = true from decide_eq_true hc]
   refine gW ?_
   refine g_rq rfl rfl (in64 (by simp only [arv]; omega)) ?_
   refine gW ?_
   refine g_l ((i + j) / 2 + 1, j) ⟨rfl, rfl, rfl, rfl, rfl, rfl, trivial⟩ ⟨by simp only; omega, hjn, fun k hk hki => ?_, hhi, hS⟩ (by simp only; omega)
   rcases Int.lt_or_le (Lib.compareBytes d[k].1 x.1) 0 with h2 | h2
   ·exact h2
   ·have := mono k ((i + j) / 2) hk hm1 (by simp only at hki; omega) h2
    omega
  ·rw [show cmv BinOp.lss (Lib.compareBytes d[(i + j) / 2].1 x.1) 0 = false from decide_eq_false hc]
   refine gW ?_
   refine g_l (i, (i + j) / 2) ⟨rfl, rfl, rfl, rfl, rfl, rfl, trivial⟩ ⟨by simp only; omega, by simp only; omega, hlo, fun k hk hki => ?_, hS⟩ (by simp only; omega)
   exact mono _ k hm1 hk hki (by omega)
theorem b_Has {v : Value} {d : List Id} (hs : Srt d) (hn : d.length < 2000000) (hr : Rd v E0 32 d.length (fl ic d) w) (h : ∀ w', St w (fun _ => False) w' [] → K (.bool (decide (x ∈ d))) w') : CK Tryz.prog 172 [v, .agg ⟨ic x⟩] w K := by
 have hS := St.nil w (fun _ => False)
 have lx := ic_len x
 refine call_k Tryz.func172 k172 Tryz.ntmps172 (Nat.le_of_ble_eq_true rfl) ?_
 refine gW ?_
 refine g_ef rfl (ef_bx hS rfl fun b3 w1 hS => ?_)
 replace hS : St w (fun _ => False) w1 [cel b3 (ic x) 38] := hS
 have hr1 : Rd v E0 32 d.length (fl ic d) w1 := hr.same fun b hb => hS.fr.kept b (hr.lt b hb) (fun h => h)
 refine gW ?_
 refine g_lm rfl rfl (hS.b 0 rfl) (Nat.le_of_eq lx.symm) ?_
 rw [List.drop_zero, List.take_of_length_le (Nat.le_of_eq lx)]
 refine g_cl rfl rfl (b_BSF hs hn hr1 fun i w2 h' => ?_)
 replace hS := hS.call0.2 _ _ h'
 refine gW ?_
 exact g_ret (q_1 rfl (h _ (hS.sel [] rfl rfl)))
theorem b_Less' {v u : Value} {d e : List Id} (hs : Srt e) (hn : d.length < 2000000) (hm : e.length < 2000000) (hr : Rd v E0 32 d.length (fl ic d) w) (hu : Rd u E1 32 e.length (fl ic e) w) (h : ∀ v' w', St w (fun _ => False) w' [rowI v' (d.filter fun z => decide (z ∉ e))] → K v' w') : CK Tryz.prog 121 [v, u] w K := by
 have hS := St.nil w (fun _ => False)
 have hrr : ∀ {L : List Res} (w' : World), St w (fun _ => False) w' L → Rd v E0 32 d.length (fl ic d) w' := fun w' hS => hr.same fun b hb => hS.fr.kept b (hr.lt b hb) (fun h => h)
 have huu : ∀ {L : List Res} (w' : World), St w (fun _ => False) w' L → Rd u E1 32 e.length (fl ic e) w' := fun w' hS => hu.same fun b hb => hS.fr.kept b (hu.lt b hb) (fun h => h)
 obtain ⟨a, c, rfl⟩ := hr.form
 obtain ⟨a2, c2, rfl⟩ := hu.form
 replace hS := hS.nilrow 38 32
 refine call_k Tryz.func121 k121 Tryz.ntmps121 (Nat.le_of_ble_eq_true rfl) ?_
 refine gW ?_
 refine g_lp (ι := Nat × Value) (fun y => [(1, .slice a2 e.length c2), (5, y.2), (8, .slice a d.length c), (9, .int .i64 d.length), (10, .int .i64 y.1)]) (fun y w' => y.1 ≤ d.length ∧ St w (fun _ => False) w' [rowI y.2 ((d.take y.1).filter fun z => decide (z ∉ e))]) (fun y => d.length - y.1) (0, (.slice none 0 0)) ⟨rfl, rfl, rfl, rfl, rfl, trivial⟩ ⟨Nat.zero_le _, hS⟩ ?_
 clear hS
 rintro ⟨k, vo⟩ w1 ⟨hk, hS⟩
 dsimp only at hk hS ⊢
 refine gW ?_
 (refine g_cd rfl (fun hlt => ?_) (fun hlt => ?_) <;> simp only [cmv, arv, Bool.not_eq_true', Bool.not_eq_false', decide_eq_true_eq, decide_eq_false_iff_not] at hlt)
 ·have hlt : k < d.length := by omega
  obtain ⟨b, off, cap, lr, e1, hcap, hlr, hx, hb⟩ := Rd.block (hrr _ hS) (by omega)
  cases e1
  have hbd : off + k * 32 + 32 ≤ lr.length := by have : (k + 1) * 32 ≤ c * 32 := Nat.mul_le_mul_right 32 (by omega); omega
  have htk : (d.take (k + 1)).filter (fun z => decide (z ∉ e)) = (d.take k).filter (fun z => decide (z ∉ e)) ++ if d[k] ∈ e then [] else [d[k]] := by
   rw [List.take_succ_eq_append_getElem hlt, List.filter_append]
   by_cases h : d[k] ∈ e <;> simp [h]
  have hfl : ((d.take k).filter (fun z => decide (z ∉ e))).length ≤ k := Nat.le_trans (List.length_filter_le _ _) (by rw [List.length_take]; omega)
  refine gW ?_
  refine g_rq rfl rfl ⟨by omega, by omega⟩ ?_
  refine g_lmr rfl rfl hb hbd ?_
  rw [Int.toNat_natCast, rd_at ic_len hx rfl hlt]
  generalize d[k] = X at htk
  generalize (d.take k).filter (fun z => decide (z ∉ e)) = F at htk hS hfl
  refine g_ef rfl (ef_al hS fun b7 w1 hS => ?_)
  have lz : (zx [(32, Value.int .u8 0)]).length = 32 := by decide
  refine gW ?_
  refine g_ef0 rfl (ef_st hS 1 rfl rfl rfl (ic_len X) (by rw [lz]; decide) (List.all_eq_true.2 (ic_one X)) fun w1 hS => ?_)
  replace hS := hS.ceq (l' := ic X) 1 rfl (spl_full _ _ (by show (ic X).length = _; rw [ic_len, lz]))
  refine gW ?_
  refine g_lm rfl rfl (hS.b 1 rfl) (Nat.le_of_eq (by rw [ic_len])) ?_
  rw [List.drop_zero, List.take_of_length_le (Nat.le_of_eq (ic_len _))]
  refine g_cl rfl rfl (b_Has hs hm (huu _ hS) fun w2 h' => ?_)
  replace hS := hS.call0.2 _ _ h'
  rw [List.append_nil] at hS
  clear h'
  by_cases hxe : X ∈ e
  ·rw [decide_eq_true hxe]
   rw [if_pos hxe, List.append_nil] at htk
   refine gW ?_
   refine g_rq rfl rfl (in64 (by simp only [arv]; omega)) ?_
   refine gW ?_
   refine g_l (k + 1, vo) ⟨rfl, rfl, rfl, rfl, rfl, trivial⟩ ⟨hlt, ?_⟩ (by simp only; omega)
   rw [htk]
   exact hS.sel [0] rfl rfl
  ·rw [decide_eq_false hxe]
   rw [if_neg hxe] at htk
   refine gW ?_
   refine g_lm rfl rfl (hS.b 1 rfl) (Nat.le_of_eq (by rw [ic_len])) ?_
   rw [List.drop_zero, List.take_of_length_le (Nat.le_of_eq (ic_len _))]
   refine g_ef rfl (ef_bl (rs := ic X) hS (evcs_1 rfl (ic_len _)) fun g w2 hS => ?_)
   refine g_ef rfl (ef_ap (bytes := 32) (n := F.length) (m := 1) (ys := ic X) hS 0 rfl rfl rfl (.inl ⟨38, .inr ⟨g, 0, 1, _, rfl, Nat.le_refl _, Nat.le_of_eq (by rw [ic_len]), by rw [List.drop_zero, List.take_of_length_le (Nat.le_of_eq (ic_len _))], (hS.b 2 rfl).r⟩⟩) (List.all_eq_true.2 (ic_one X)) (by omega) (by omega) fun v1 w2 hS => ?_)
   have ets : fl ic F ++ ic X = fl ic (F ++ [X]) := by rw [fl_app]; simp [fl]
   have etl : F.length + 1 = (F ++ [X]).length := by simp
   rw [ets, etl] at hS
   refine gW ?_
   refine g_rq rfl rfl (in64 (by simp only [arv]; omega)) ?_
   refine gW ?_
   refine g_l (k + 1, v1) ⟨rfl, rfl, rfl, rfl, rfl, trivial⟩ ⟨hlt, ?_⟩ (by simp only; omega)
   rw [htk]
   exact hS.sel [0] rfl rfl
 ·have ek : k = d.length := by omega
  subst ek
  rw [List.take_length] at hS
  refine gW ?_
  exact g_ret (q_1 rfl (h _ _ hS))
end
def m235 : MC := .sq (.rg [.c 2 (.bool false)]) (.sq (.rg [.t 3 0, .o 4 (.pn .eql (.tmp 3)), .t 5 4, .q 6 5 false (.mv (.tmp 0)), .q 7 5 false (.nc (.tmp 6)), .q 8 5 false (.fa (.tmp 7) 2), .q 9 5 false (.ld (.tmp 8) none), .q 10 5 false (.mpn .eql (.tmp 9)), .o 11 (.pk (.tmp 5) (.const (.bool true)) (.tmp 10)), .t 2 11]) (.rt))
theorem k235 : Tryz.f235.body.any (fun c => chkC Tryz.prog c m235 && allD (dlt 12) m235) = true := by kernel_rfl
def m211 : MC := .sq (.rg [.o 3 (.bx 38 (.tmp 1)), .c 4 (.slice none 0 0), .c 5 (.bool false)]) (.sq (.sq (.rg [.t 8 0, .o 9 (.cl 235 [.tmp 8])]) (.cd (.tmp 9) (.sq (.rg [.c 4 (.slice none 0 0), .c 5 (.bool false)]) (.rt)) (.sk))) (.sq (.dr [.t 11 0, .o 12 (.nc (.tmp 11)), .o 13 (.fa (.tmp 12) 2), .o 14 (.ld (.tmp 13) none), .o 15 (.ld (.tmp 3) (some 32)), .o 16 (.mlk 38 true [(1, .string ⟨#[]⟩), (1, .int .i64 0)] true (.tmp 14) (.tmp 15)), .t 10 16, .o 17 (.ex (.tmp 10) 0), .o 18 (.ex (.tmp 10) 1), .o 6 (.al [(1, .string ⟨#[]⟩), (1, .int .i64 0)] 293), .e (.st (.tmp 6) (.tmp 17) 2), .t 7 18] [0, 1, 3, 7, 0, 31, 63, 127, 127, 0, 767, 2047] (.q 0 (.q 1 (.q 2 (.q 3 (.q 4 (.alt [.e 5 [] (.q 6 (.q 7 (.q 8 (.e 9 [] (.e 10 [] (.q 11 (.fin))))))), .e 9 [3, 4] (.e 5 [] (.q 6 (.q 7 (.q 8 (.e 10 [] (.q 11 (.fin)))))))]))))))) (.sq (.rg [.o 19 (.fa (.tmp 6) 0), .o 20 (.ld (.tmp 19) none), .o 21 (.sb 5 (.tmp 20)), .o 22 (.cl 236 [.tmp 21]), .t 23 7, .t 4 22, .t 5 23]) (.rt))))
theorem k211 : Tryz.f211.body.any (fun c => chkC Tryz.prog c m211 && allD (dlt 24) m211) = true := by kernel_rfl
def m162 : MC := .sq (.rg [.o 3 (.bx 38 (.tmp 1)), .o 4 (.al [(1, .int .i64 0), (2, .slice none 0 0), (32, .int .u8 0), (1, .slice none 0 0), (1, .int .i64 0), (32, .int .u8 0), (1, .string ⟨#[]⟩)] 218), .c 5 (.bool false)]) (.sq (.rg [.t 11 0, .o 12 (.ld (.tmp 3) (some 32)), .o 13 (.cl 211 [.tmp 11, .tmp 12]), .t 10 13, .o 14 (.ex (.tmp 10) 0), .o 15 (.ex (.tmp 10) 1), .t 6 14, .t 7 15]) (.sq (.sq (.rg [.t 16 7, .o 17 (.nt (.tmp 16))]) (.cd (.tmp 17) (.sq (.rg [.o 18 (.bd [(1, .int .i64 0), (2, .slice none 0 0), (32, .int .u8 0), (1, .slice none 0 0), (1, .int .i64 0), (32, .int .u8 0), (1, .string ⟨#[]⟩)] []), .e (.st (.tmp 4) (.tmp 18) 70), .c 5 (.bool false)]) (.rt)) (.sk))) (.sq (.rg [.t 20 6, .o 21 (.cl 212 [.tmp 20]), .t 19 21, .o 22 (.ex (.tmp 19) 0), .o 23 (.ex (.tmp 19) 1), .o 8 (.al [(1, .int .i64 0), (2, .slice none 0 0), (32, .int .u8 0), (1, .slice none 0 0), (1, .int .i64 0), (32, .int .u8 0), (1, .string ⟨#[]⟩)] 218), .e (.st (.tmp 8) (.tmp 22) 70), .t 9 23]) (.sq (.rg [.o 24 (.ld (.tmp 8) (some 70)), .t 25 9, .o 26 (.cm .eql (.tmp 25) (.const (.int .i64 0))), .e (.st (.tmp 4) (.tmp 24) 70), .t 5 26]) (.rt)))))
theorem k162 : Tryz.f162.body.any (fun c => chkC Tryz.prog c m162 && allD (dlt 27) m162) = true := by kernel_rfl
abbrev np : Value := .pointer none
def z32' : List Value := List.replicate 32 (.int .u8 0)
def ob0 : List Value := .int .i64 0 :: .slice none 0 0 :: .slice none 0 0 :: (z32' ++ .slice none 0 0 :: .int .i64 0 :: (z32' ++ [.string ⟨#[]⟩]))
def ifq (bq : Nat) : Value := .iface 224 (dp bq)
def clP (b7 b2 b6 : Nat) : Value := .func (.func 167) ⟨[]⟩ ⟨[dp b7, dp b2, dp b6]⟩
def clH (b8 b3 b6 b2 : Nat) : Value := .func (.func 170) ⟨[]⟩ ⟨[dp b8, dp b3, dp b6, dp b2]⟩
section
variable {w w0 : World} {S0 : Nat → Prop} {L B : List Res} {K : Value → World → Prop} {s : Bs} {E0 E1 : Nat} {bg bd : Nat} {x : Id}
theorem iv_Len {bq : Nat} : (callMethod (ifq bq) "Len" ⟨[]⟩).run Tryz.prog w = .ok (.enter 324 ⟨[dp bq]⟩) w := by kernel_rfl
theorem b_noneN (h : K (.bool true) w) : CK Tryz.prog 235 [np] w K := by
 refine call_k Tryz.func235 k235 Tryz.ntmps235 (Nat.le_of_ble_eq_true rfl) ?_
 refine gW ?_
 exact g_ret (q_1 rfl h)
theorem b_GetN (h : ∀ w', St w (fun _ => False) w' [] → K (.tuple ⟨[.slice none 0 0, .bool false]⟩) w') : CK Tryz.prog 211 [np, .agg ⟨ic x⟩] w K := by
 have hS := St.nil w (fun _ => False)
 refine call_k Tryz.func211 k211 Tryz.ntmps211 (Nat.le_of_ble_eq_true rfl) ?_
 refine gW ?_
 refine g_ef rfl (ef_bx hS rfl fun b3 w1 hS => ?_)
 refine gW ?_
 refine g_cl rfl rfl (b_noneN ?_)
 refine gW ?_
 exact g_ret (q_2 rfl rfl (h _ (hS.sel [] rfl rfl)))
set_option maxRecDepth 100000 in
theorem b_ObjN (h : ∀ w', St w (fun _ => False) w' [] → K (.tuple ⟨[.agg ⟨ob0⟩, .bool false]⟩) w') : CK Tryz.prog 162 [np, .agg ⟨ic x⟩] w K := by
 have hS := St.nil w (fun _ => False)
 have lx := ic_len x
 refine call_k Tryz.func162 k162 Tryz.ntmps162 (Nat.le_of_ble_eq_true rfl) ?_
 refine gW ?_
 refine g_ef rfl (ef_bx hS rfl fun b3 w1 hS => ?_)
 refine gW ?_
 refine g_ef rfl (ef_al hS fun b4 w1 hS => ?_)
 replace hS : St w (fun _ => False) w1 [cel b3 (ic x) 38, cel b4 ob0 218] := hS
 refine gW ?_
 refine g_lm rfl rfl (hS.b 0 rfl) (Nat.le_of_eq lx.symm) ?_
 rw [List.drop_zero, List.take_of_length_le (Nat.le_of_eq lx)]
 refine g_cl rfl rfl (b_GetN fun w2 h' => ?_)
 replace hS := hS.call0.2 _ _ h'
 clear h'
 refine gW ?_
 refine g_ef0 rfl (ef_st hS 1 rfl rfl rfl rfl (Nat.le_of_ble_eq_true rfl) rfl fun w1 hS => ?_)
 replace hS := hS.ceq (l' := ob0) 1 rfl (spl_full _ _ rfl)
 refine gW ?_
 refine g_ret (q_c2 (n := 70) rfl (by kernel_rfl) (hS.b 1 rfl) (Nat.le_of_ble_eq_true rfl) rfl ?_)
 exact h _ (hS.sel [] rfl rfl)
theorem b_gofN (h : ∀ bg bd w', St w (fun _ => False) w' [cel bg [np, .map (some bd)] 213] → K (dp bg) w') : CK Tryz.prog 117 [np] w K := by
 have hS := St.nil w (fun _ => False)
 refine call_k Tryz.func117 k117 Tryz.ntmps117 (Nat.le_of_ble_eq_true rfl) ?_
 refine gW ?_
 refine g_ef rfl (ef_mkm hS fun bd w1 hS => ?_)
 refine gW ?_
 refine g_ef rfl (ef_bx hS rfl fun bg w1 hS => ?_)
 refine gW ?_
 exact g_ret (q_1 rfl (h _ bd _ (hS.sel [1] rfl rfl)))
set_option maxRecDepth 100000 in
set_option maxHeartbeats 2000000 in
theorem b_parentsN (hS : St w0 S0 w (cel bg [np, .map (some bd)] 213 :: B)) (h : ∀ w', St w0 S0 w' (cel bg [np, .map (some bd)] 213 :: B) → K (.slice none 0 0) w') : CK Tryz.prog 118 [dp bg, .agg ⟨ic x⟩] w K := by
 have lx := ic_len x
 have ldx : ((ic x).drop 0).take 32 = ic x := by rw [List.drop_zero, List.take_of_length_le (Nat.le_of_eq lx)]
 refine call_k Tryz.func118 k118 Tryz.ntmps118 (Nat.le_of_ble_eq_true rfl) ?_
 refine gW ?_
 refine g_ef rfl (ef_bx hS rfl fun b2 w1 hS => ?_)
 replace hS := hS.front
 refine gW ?_
 refine g_ef rfl (ef_bx hS rfl fun b3 w1 hS => ?_)
 replace hS := hS.front
 replace hS : St w0 S0 w1 (cel b3 (ic x) 38 :: cel b2 [dp bg] 160 :: cel bg [np, .map (some bd)] 213 :: B) := hS
 refine gW ?_
 refine g_atx (ι := Nat) 1 (fun y => [(2, dp b2), (3, dp b3), (5, dp y), (6, .bool false)]) (fun y w' => St w0 S0 w' (cel bg [np, .map (some bd)] 213 :: B)) rfl ?_ ?_
 ·refine g_dr mixed ?_
  replace hS := hS.drew
  refine d_l1 rfl rfl rfl (hS.b 1 rfl) (v := dp bg) rfl ?_
  refine gD ?_
  refine d_l1 rfl rfl rfl (hS.b 2 rfl) (v := np) rfl ?_
  refine d_lm rfl rfl rfl (hS.b 0 rfl) (Nat.le_of_eq lx.symm) ?_
  rw [ldx]
  refine d_a2 ?_ (d_a1 ?_)
  ·refine d_cl rfl rfl rfl (b_ObjN fun w2 h' => ⟨rc_0, ?_⟩)
   replace hS := hS.call0.2 _ _ h'
   rw [List.append_nil] at hS
   clear h'
   refine gD ?_
   refine d_e rfl rfl ?_
   refine ef_al hS fun b5 w2 hS => ⟨rc_0, ?_⟩
   replace hS := hS.front
   refine d_e0 rfl rfl ?_
   refine ef_st hS 0 rfl rfl rfl rfl (Nat.le_of_ble_eq_true rfl) rfl fun w2 hS => ⟨rc_0, ?_⟩
   refine gD ?_
   refine d_fin ?_
   exact g_jx b5 ⟨rfl, rfl, rfl, rfl, trivial⟩ hS.tail.tail.tail
  ·refine d_e rfl rfl ?_
   refine ef_al hS fun b5 w2 hS => ?_
   replace hS := hS.front
   refine ⟨rc_1 rfl rfl rfl rfl (hS.b 2 rfl) rfl (rc_1 rfl rfl rfl rfl (hS.b 3 rfl) rfl (rc_m rfl rfl rfl rfl (hS.b 1 rfl) (Nat.le_of_eq lx.symm) ldx rc_0)), ?_⟩
   refine d_cl rfl rfl rfl (b_ObjN fun w2 h' => ⟨rc_0, ?_⟩)
   replace hS := hS.call0.2 _ _ h'
   rw [List.append_nil] at hS
   clear h'
   refine gD ?_
   refine d_e0 rfl rfl ?_
   refine ef_st hS 0 rfl rfl rfl rfl (Nat.le_of_ble_eq_true rfl) rfl fun w2 hS => ⟨rc_0, ?_⟩
   refine gD ?_
   refine d_fin ?_
   exact g_jx b5 ⟨rfl, rfl, rfl, rfl, trivial⟩ hS.tail.tail.tail
 ·clear hS
  rintro b5 T w1 hT hS
  refine g_wkc hT ?_
  refine gW ?_
  exact g_ret (q_1 rfl (h _ hS))
theorem b_put0 {a : Option Addr} {c b7 b2 b6 : Nat} (h : K (.tuple ⟨[]⟩) w) : CK Tryz.prog 167 [.slice a 0 c, dp b7, dp b2, dp b6] w K := by
 refine call_k Tryz.func167 k167 Tryz.ntmps167 (Nat.le_of_ble_eq_true rfl) ?_
 refine gW ?_
 refine g_lp (ι := Unit) (fun _ => [(1, dp b7), (2, dp b2), (3, dp b6), (7, .slice a 0 c), (8, .int .i64 0), (9, .int .i64 0)]) (fun _ w' => w' = w) (fun _ => 0) () ⟨rfl, rfl, rfl, rfl, rfl, rfl, trivial⟩ rfl ?_
 rintro _ w1 rfl
 refine gW ?_
 exact q_n h
theorem b_historyN {v : Value} (hv : ∃ a n c, v = .slice a n c) (h : ∀ b2 b3 b6 b7 b8 bq w', St w (fun _ => False) w' [cel b6 [ifq bq] 231, cel bq [.slice none 0 0] 229, cel b8 [clP b7 b2 b6] 236, cel b3 [v] 51] → K (clH b8 b3 b6 b2) w') : CK Tryz.prog 120 [dp bg, v] w K := by
 have hS := St.nil w (fun _ => False)
 obtain ⟨a, n, c, rfl⟩ := hv
 refine call_k Tryz.func120 k120 Tryz.ntmps120 (Nat.le_of_ble_eq_true rfl) ?_
 refine gW ?_
 refine g_ef rfl (ef_bx hS rfl fun b2 w1 hS => ?_)
 refine gW ?_
 refine g_ef rfl (ef_bx hS rfl fun b3 w1 hS => ?_)
 refine gW ?_
 refine g_ef rfl (ef_bx hS rfl fun bq w1 hS => ?_)
 refine gW ?_
 refine g_ef rfl (ef_al hS fun b6 w1 hS => ?_)
 refine gW ?_
 refine g_ef0 rfl (ef_st hS 3 rfl rfl rfl rfl (Nat.le_of_ble_eq_true rfl) rfl fun w1 hS => ?_)
 refine gW ?_
 refine g_ef rfl (ef_mkm hS fun bmm w1 hS => ?_)
 refine g_ef rfl (ef_al hS fun b7 w1 hS => ?_)
 refine gW ?_
 refine g_ef0 rfl (ef_st hS 5 rfl rfl rfl rfl (Nat.le_of_ble_eq_true rfl) rfl fun w1 hS => ?_)
 refine gW ?_
 refine g_ef rfl (ef_al hS fun b8 w1 hS => ?_)
 refine gW ?_
 refine g_ef0 rfl (ef_st hS 6 rfl rfl rfl rfl (Nat.le_of_ble_eq_true rfl) rfl fun w1 hS => ?_)
 refine gW ?_
 exact g_ret (q_1 rfl (h b2 b3 b6 b7 b8 bq _ (hS.sel [3, 2, 6, 1] rfl rfl)))
theorem b_LenN {bq : Nat} (hS : St w0 S0 w (cel bq [.slice none 0 0] 229 :: B)) (h : K (.int .i64 0) w) : CK Tryz.prog 324 [dp bq] w K := by
 refine call_k Tryz.func324 k324 Tryz.ntmps324 (Nat.le_of_ble_eq_true rfl) ?_
 refine gW ?_
 refine g_l1 rfl rfl (hS.b  0 rfl) rfl ?_
 refine gW ?_
 exact g_ret (q_1 rfl h)
theorem d_histN {b2 b3 b6 b7 b8 bq lp c : Nat} {a : Option Addr} (hS : St w0 S0 w (cel bq [.slice none 0 0] 229 :: cel b6 [ifq bq] 231 :: cel b8 [clP b7 b2 b6] 236 :: cel b3 [.slice a 0 c] 51 :: L)) (h : K (.tuple ⟨[]⟩) w) : CK Tryz.prog 170 [.func (.yield lp) ⟨[]⟩ ⟨[]⟩, dp b8, dp b3, dp b6, dp b2] w K := by
 refine call_k Tryz.func170 k170 Tryz.ntmps170 (Nat.le_of_ble_eq_true rfl) ?_
 refine gW ?_
 refine g_l1 rfl rfl (hS.b 2 rfl) (v := clP b7 b2 b6) rfl ?_
 refine g_l1 rfl rfl (hS.b 3 rfl) (v := .slice a 0 c) rfl ?_
 refine g_ef rfl (ef_cv (first := []) (cap := [dp b7, dp b2, dp b6]) rfl rfl (callFunc_of Tryz.func167 rfl rfl) (b_put0 ?_))
 refine gW ?_
 refine g_lp (ι := Unit) (fun _ => [(0, .func (.yield lp) ⟨[]⟩ ⟨[]⟩), (1, dp b8), (3, dp b6), (4, dp b2)]) (fun _ w' => w' = w) (fun _ => 0) () ⟨rfl, rfl, rfl, rfl, trivial⟩ rfl ?_
 rintro _ w1 rfl
 refine gW ?_
 refine g_l1 rfl rfl (hS.b 1 rfl) (v := ifq bq) rfl ?_
 refine g_ef rfl (ef_iv rfl rfl iv_Len (b_LenN hS ?_))
 refine gW ?_
 exact q_n h
theorem b_AppN {b2 b3 b6 b7 b8 bq c : Nat} {a : Option Addr} (hS : St w0 S0 w [cel b6 [ifq bq] 231, cel bq [.slice none 0 0] 229, cel b8 [clP b7 b2 b6] 236, cel b3 [.slice a 0 c] 51])
  (h : ∀ w', St w0 S0 w' [] → K (.slice none 0 0) w') : CK Tryz.prog 166 [.slice none 0 0, clH b8 b3 b6 b2] w K := by
 refine call_k Tryz.func166 k166 Tryz.ntmps166 (Nat.le_of_ble_eq_true rfl) ?_
 refine gW ?_
 refine g_ef rfl (ef_bx hS rfl fun c2 w1 hS => ?_)
 refine gW ?_
 refine g_atd 2 [(2, dp c2)] (fun D1 w' => ∃ dB, D1 = [⟨.collected dB, #[]⟩] ∧ St w0 S0 w' [cel c2 [.slice none 0 0] 51, obj dB (.deferred (some []))]) rfl ?_ ?_
 ·refine g_wkc (T' := [(6, clH b8 b3 b6 b2), (2, dp c2)]) ⟨rfl, rfl, trivial⟩ ?_
  refine g_rf (cap := [dp b8, dp b3, dp b6, dp b2]) (first := []) hS rfl (callFunc_of Tryz.func170 rfl rfl) fun lp dB w2 hS => ?_
  refine d_histN (hS.sel [1, 0, 2, 3, 4, 5, 6] rfl rfl) ?_
  refine ⟨_, 6, _, _, hS, rfl, (fun h => nomatch h), fun w2 hS => ?_⟩
  exact g_b (g_jd ⟨rfl, trivial⟩ ⟨dB, rfl, hS.sel [4, 5] rfl rfl⟩)
 ·clear hS
  rintro T D1 w1 hT ⟨dB, rfl, hS⟩
  refine g_wkc hT ?_
  refine gW ?_
  refine g_l1 rfl rfl (hS.b 0 rfl) (v := .slice none 0 0) rfl ?_
  refine gW ?_
  exact g_ret (q_dr hS 1 rfl fun w hS => q_1 rfl (h _ (hS.sel [] rfl rfl)))
theorem b_ColN {b2 b3 b6 b7 b8 bq c : Nat} {a : Option Addr} (hS : St w0 S0 w [cel b6 [ifq bq] 231, cel bq [.slice none 0 0] 229, cel b8 [clP b7 b2 b6] 236, cel b3 [.slice a 0 c] 51])
  (h : ∀ w', St w0 S0 w' [] → K (.slice none 0 0) w') : CK Tryz.prog 119 [clH b8 b3 b6 b2] w K := by
 refine call_k Tryz.func119 k119 Tryz.ntmps119 (Nat.le_of_ble_eq_true rfl) ?_
 refine gW ?_
 refine g_cl rfl rfl (b_AppN hS fun w' hS => ?_)
 refine gW ?_
 exact g_ret (q_1 rfl (h _ hS))
set_option maxHeartbeats 2000000 in
theorem b_HeadsN {v : Value} {tips : List Id} (hn : tips.length < 400000) (hr : Rd v E0 32 tips.length (fl ic tips) w) (h : ∀ v' w', St w (fun _ => False) w' [rowI v' (iset tips)] → K v' w') : CK Tryz.prog 86 [np, v] w K := by
 have hal : (iset tips).length ≤ tips.length := kset_len (fun x : Id => x.1) tips
 have hr0 : ∀ v, v = .slice none 0 0 → ∀ w, Rd v 0 32 0 (fl ic []) w := fun v e w => .inl ⟨⟨none, e⟩, rfl, rfl⟩
 refine call_k Tryz.func86 k86 Tryz.ntmps86 (Nat.le_of_ble_eq_true rfl) ?_
 refine gW ?_
 refine g_cl rfl rfl (b_gofN fun bg bd w1 hS => ?_)
 refine gW ?_
 refine g_cl rfl rfl (b_Set rfl (by omega) (hr.same fun b hb => hS.fr.kept b (hr.lt b hb) (fun h => h)) fun va w1 h' => ?_)
 replace hS := hS.call0.2 _ _ h'
 clear h'
 generalize iset tips = A at *
 obtain ⟨aa, ca, rfl⟩ := hS.rlen 1 rfl
 replace hS := hS.nilrow 38 32
 replace hS : St w (fun _ => False) w1 [cel bg [np, .map (some bd)] 213, rowI (.slice aa A.length ca) A, row (.slice none 0 0) 38 32 0 []] := hS
 refine gW ?_
 refine g_atx (ι := Option Addr × Nat) 2 (fun y => [(5, dp bg), (6, .slice aa A.length ca), (7, .slice y.1 0 y.2)]) (fun y w' => St w (fun _ => False) w' [cel bg [np, .map (some bd)] 213, rowI (.slice aa A.length ca) A, row (.slice y.1 0 y.2) 38 32 0 []]) rfl ?_ ?_
 ·refine g_lp (ι := Nat × Option Addr × Nat) (fun y => [(5, dp bg), (6, .slice aa A.length ca), (7, .slice y.2.1 0 y.2.2), (15, .slice aa A.length ca), (16, .int .i64 A.length), (17, .int .i64 y.1)])
   (fun y w' => y.1 ≤ A.length ∧ St w (fun _ => False) w' [cel bg [np, .map (some bd)] 213, rowI (.slice aa A.length ca) A, row (.slice y.2.1 0 y.2.2) 38 32 0 []]) (fun y => A.length - y.1) (0, none, 0) ⟨rfl, rfl, rfl, rfl, rfl, rfl, trivial⟩ ⟨Nat.zero_le _, hS⟩ ?_
  clear hS
  rintro ⟨k, ao, co⟩ w1 ⟨hk, hS⟩
  dsimp only at hk hS ⊢
  refine gW ?_
  (refine g_cd rfl (fun hlt => ?_) (fun hlt => ?_) <;> simp only [cmv, arv, Bool.not_eq_true', Bool.not_eq_false', decide_eq_true_eq, decide_eq_false_iff_not] at hlt)
  ·have hlt : k < A.length := by omega
   obtain ⟨b, off, cap, lr, e1, hcap, hlr, hx, hb⟩ := Rd.block (Ow.rd (hS.ok 1 _ rfl)) (by omega)
   cases e1
   have hbd : off + k * 32 + 32 ≤ lr.length := by have : (k + 1) * 32 ≤ ca * 32 := Nat.mul_le_mul_right 32 (by omega); omega
   have hX : (lr.drop (off + k * 32)).take 32 = ic A[k] := rd_at ic_len hx rfl hlt
   generalize A[k] = X at hX
   refine gW ?_
   refine g_rq rfl rfl ⟨by omega, by omega⟩ ?_
   refine g_lmr rfl rfl hb hbd ?_
   rw [Int.toNat_natCast, hX]
   refine g_ef rfl (ef_al hS fun b9 w1 hS => ?_)
   have lz : (zx [(32, Value.int .u8 0)]).length = 32 := by decide
   refine gW ?_
   refine g_ef0 rfl (ef_st hS 3 rfl rfl rfl (ic_len X) (by rw [lz]; decide) (List.all_eq_true.2 (ic_one X)) fun w1 hS => ?_)
   replace hS : St w (fun _ => False) w1 [cel bg [np, .map (some bd)] 213, rowI (.slice (some ⟨b, off, none⟩) A.length ca) A, row (.slice ao 0 co) 38 32 0 [], cel b9 (ic X) 38] := hS.ceq (l' := ic X) 3 rfl (spl_full _ _ (by show (ic X).length = _; rw [ic_len, lz]))
   refine gW ?_
   refine g_lm rfl rfl (hS.b 3 rfl) (Nat.le_of_eq (by rw [ic_len])) ?_
   rw [List.drop_zero, List.take_of_length_le (Nat.le_of_eq (ic_len _))]
   refine g_cl rfl rfl (b_parentsN hS fun w2 hS => ?_)
   refine g_ef rfl (ef_ap (bytes := 32) (n := 0) (m := 0) (ys := []) hS 2 rfl rfl rfl (.inl ⟨_, hr0 _ rfl _⟩) rfl (by omega) (by omega) fun v1 w2 hS => ?_)
   obtain ⟨a1, c1, rfl⟩ := hS.rlen 2 rfl
   refine gW ?_
   refine g_rq rfl rfl (in64 (by simp only [arv]; omega)) ?_
   refine gW ?_
   exact g_l (k + 1, a1, c1) ⟨rfl, rfl, rfl, rfl, rfl, rfl, trivial⟩ ⟨hlt, hS.sel [0, 1, 2] rfl rfl⟩ (by simp only; omega)
  ·refine gW ?_
   exact g_jx (ao, co) ⟨rfl, rfl, rfl, trivial⟩ hS
 ·clear hS
  rintro ⟨av, cv⟩ T w1 hT hS
  refine g_wkc hT ?_
  clear hT
  dsimp only at hS
  refine gW ?_
  refine g_cl rfl rfl (b_historyN ⟨_, _, _, rfl⟩ fun b2 b3 b6 b7 b8 bq w2 h' => ?_)
  replace hS := hS.call0.2 _ _ h'
  clear h'
  replace hS : St w (fun _ => False) w2 ([cel b6 [ifq bq] 231, cel bq [.slice none 0 0] 229, cel b8 [clP b7 b2 b6] 236, cel b3 [.slice av 0 cv] 51] ++ [rowI (.slice aa A.length ca) A]) := hS.sel [3, 4, 5, 6, 1] rfl rfl
  have hF := hS.frame
  refine g_cl rfl rfl (b_ColN hF.1 fun w3 h' => ?_)
  replace hS := hF.2 _ _ h'
  clear h' hF
  refine g_cl rfl rfl (b_Set (d := []) (E0 := 0) rfl (by decide) (.inl ⟨⟨none, rfl⟩, rfl, rfl⟩) fun vs w4 h' => ?_)
  replace hS := hS.call0.2 _ _ h'
  clear h'
  have e0 : iset [] = [] := rfl
  rw [e0] at hS
  refine gW ?_
  refine g_cl rfl rfl (b_Less' (d := A) (e := []) List.Pairwise.nil (by omega) (by decide) (Ow.rd (hS.ok 0 _ rfl)) (Ow.rd (hS.ok 1 _ rfl)) fun vl w5 h' => ?_)
  replace hS := hS.call0.2 _ _ h'
  clear h'
  have e : A.filter (fun z => decide (z ∉ ([] : List Id))) = A := List.filter_eq_self.2 fun z _ => decide_eq_true List.not_mem_nil
  rw [e] at hS
  refine gW ?_
  exact g_ret (q_1 rfl (h _ _ (hS.sel [2] rfl rfl)))
theorem b_SurvN {v : Value} {tips : List Id} (hn : tips.length < 400000) (hr : Rd v E0 32 tips.length (fl ic tips) w) (h : ∀ v' w', St w (fun _ => False) w' [rowI v' (iset tips)] → K v' w') : CK Tryz.prog 48 [np, v] w K := by
 have hal : (iset tips).length ≤ tips.length := kset_len (fun x : Id => x.1) tips
 refine call_k Tryz.func48 k48 Tryz.ntmps48 (Nat.le_of_ble_eq_true rfl) ?_
 refine gW ?_
 refine g_cl rfl rfl (b_HeadsN hn hr fun v1 w1 hS => ?_)
 refine g_cl rfl rfl (b_Set rfl (by omega) (Ow.rd (hS.ok 0 _ rfl)) fun v2 w2 h' => ?_)
 replace hS := hS.call0.2 _ _ h'
 have e : iset (iset tips) = iset tips := kset_self _ id_inj (kset_sorted _ id_inj tips)
 rw [e] at hS
 refine gW ?_
 exact g_ret (q_1 rfl (h _ _ (hS.sel [1] rfl rfl)))
end
theorem q_s1 {P : Program} {a ty b off : Nat} {l : List Value} {E : TypeId} {T : TT} {w : World} {K : Value → World → Prop} {v : Value} (ht : lk T a = some (.pointer (some ⟨b, off, none⟩))) (h1 : rdAs P ty none = true) (hb : Blk w b l E) (hv : l[off]? = some v) (h : K v w) : QF P [.cell a ty] K .ret T [] w :=
 ⟨[_], ⟨_, _, [], ht, run_load1 h1 hb.r hv, rfl, rfl⟩, h⟩
theorem evcs_v {T : TT} {a : Operand} {v : Value} {b : Option Addr} {n c : Nat} (ha : ev T a = some v) (_ : v.cells.toList = [v]) (e : v = .slice b n c) : evcs T 1 [a] = some [v] := by
 subst e
 unfold evcs evcs
 rw [ha]
 rfl
theorem take_flt {Y : List Sb} {k : Nat} (hk : k < Y.length) : flt (Y.take (k + 1)) = flt (Y.take k) ++ Y[k].l := by rw [List.take_succ_eq_append_getElem hk, flt_app]
theorem take_tps {Y : List Sb} {k : Nat} (hk : k < Y.length) : tps (Y.take (k + 1)) = tps (Y.take k) ++ tipR Y[k].l := by rw [List.take_succ_eq_append_getElem hk, tps_app]
theorem tps_take (Y : List Sb) (k : Nat) : (tps (Y.take k)).length ≤ (flt Y).length := Nat.le_trans (tps_len _) (flt_take Y k)
theorem tps_alv (Y : List Sb) : iset (tps Y) = alvT (gps Y) := by unfold alvT tps gps; rw [List.map_map]; rfl
section
variable {w w0 : World} {S0 : Nat → Prop} {L B : List Res} {K : Value → World → Prop} {s : Bs} {E0 E1 : Nat} {bT bm : Nat} {x : List Nat} {Y : List Sb}
theorem allC1 (hO : TabOk Y) {k : Nat} (hk : k < Y.length) (hz : SbV Y[k] w) : AllC w (dp Y[k].b) Y[k].l := fun {K} h => b_AllSb hz (hO.s (List.getElem_mem hk)).2 (by have := hO.one (List.getElem_mem hk); omega) h
set_option maxHeartbeats 2000000 in
theorem b_AllT (hO : TabOk Y) (hv : TabV bT bm x Y w) (hx : x.length = 16) (h : ∀ v' w', St w (fun _ => False) w' [rowR v' (flt Y)] → K v' w') : CK Tryz.prog 12 [dp bT] w K := by
 have hS := St.nil w (fun _ => False)
 have hln := hO.len
 refine call_k Tryz.func12 k12 Tryz.ntmps12 (Nat.le_of_ble_eq_true rfl) ?_
 refine gW ?_
 refine g_ef rfl (ef_al hS fun b3 w1 hS => ?_)
 replace hS := hS.nilrow 40 52
 refine gW ?_
 refine g_cl rfl rfl (b_each fun b1 w1 h' => ?_)
 replace hS := hS.call0.2 _ _ h'
 clear h'
 replace hS : St w (fun _ => False) w1 [cel b3 [.slice none 0 0] 25, row (.slice none 0 0) 40 52 0 (fl rc (flt (Y.take 0))), cel b1 [dp bT] 27] := hS
 refine g_r0 ?_
 refine g_atd 1 [(3, dp b3)] (fun D1 w' => ∃ dB, D1 = [⟨.collected dB, #[]⟩] ∧ ∃ a1 c1, St w (fun _ => False) w' [cel b3 [.slice a1 (flt Y).length c1] 25, rowR (.slice a1 (flt Y).length c1) (flt Y), obj dB (.deferred (some []))]) rfl ?_ ?_
 ·refine gW ?_
  refine g_wkc (T' := [(7, .func (.func 80) ⟨[]⟩ ⟨[dp b1]⟩), (3, dp b3)]) ⟨rfl, rfl, trivial⟩ ?_
  refine g_rf (cap := [dp b1]) (first := []) hS rfl (callFunc_of Tryz.func80 rfl rfl) fun l dB w2 hS => ?_
  refine d_each (ι := Option Addr × Nat × Nat) (Ls := fun σ => [cel b3 [.slice σ.1 (flt (Y.take σ.2.2)).length σ.2.1] 25, row (.slice σ.1 (flt (Y.take σ.2.2)).length σ.2.1) 40 52 (flt (Y.take σ.2.2)).length (fl rc (flt (Y.take σ.2.2))), cel b1 [dp bT] 27, obj dB (.deferred (some [])), _])
   (Inv := fun k σ => σ.2.2 = k) (i := 2) hO hx (fun σ => rfl) (fun hS => hv.in hS) (σ0 := (none, 0, 0)) rfl hS ?_ ?_
  ·clear hS
   rintro k hk X ⟨a1, c1, k2⟩ w2 hI hS
   dsimp only at hI hS
   subst hI
   have hft := flt_take Y (k2 + 1)
   have e1 := take_flt hk
   rw [e1, List.length_append] at hft
   refine yd_of hS 4 rfl rfl ?_
   refine gW ?_
   refine ⟨rfl, _, _, hS, rfl, fun w2 hS => ?_⟩
   refine gW ?_
   refine g_dr mixed ?_
   replace hS := hS.drew
   refine d_l1 rfl rfl rfl (hS.b 0 rfl) rfl ?_
   refine gD ?_
   refine d_cl rfl rfl rfl (allC1 hO hk ((hv.in hS).z _ (List.getElem_mem hk)) fun v3 w3 h' => ?_)
   replace hS := hS.call0.2 _ _ h'
   clear h'
   obtain ⟨a3, c3, rfl⟩ := hS.rlen 6 rfl
   refine ⟨rc_1 rfl rfl rfl rfl (hS.b 0 rfl) rfl rc_0, ?_⟩
   refine d_e rfl rfl (ef_ap (n := (flt (Y.take k2)).length) (m := Y[k2].l.length) (ys := fl rc Y[k2].l) hS 1 rfl rfl rfl (.inl ⟨_, Ow.rd (hS.ok 6 _ rfl)⟩) (fl_one rc_one _) (by omega) (by omega) fun v1 w2 hS => ⟨rc_0, ?_⟩)
   obtain ⟨a2, c2, rfl⟩ := hS.rlen 1 rfl
   refine d_e0 rfl rfl (ef_st hS 0 rfl rfl rfl rfl (Nat.le_of_ble_eq_true rfl) rfl fun w2 hS => ⟨rc_0, ?_⟩)
   refine d_fin ?_
   rw [← fl_app, ← List.length_append, ← e1] at hS
   refine gW ?_
   exact ⟨_, _, hS.sel [0, 1, 2, 3, 4, 5] rfl rfl, rfl, fun w2 hS => .inl ⟨rfl, (a2, c2, k2 + 1), rfl, hS⟩⟩
  ·clear hS
   rintro ⟨a1, c1, k2⟩ w2 hI hS
   dsimp only at hI hS
   subst hI
   rw [List.take_length] at hS
   refine ⟨_, 4, _, _, hS, rfl, (fun h => nomatch h), fun w2 hS => ?_⟩
   exact g_b (g_jd ⟨rfl, trivial⟩ ⟨dB, rfl, a1, c1, hS.sel [0, 1, 3] rfl rfl⟩)
 ·clear hS
  rintro T D1 w1 hT ⟨dB, rfl, a1, c1, hS⟩
  refine g_wkc hT ?_
  refine gW ?_
  refine g_l1 rfl rfl (hS.b  0 rfl) rfl ?_
  refine gW ?_
  exact g_ret (q_dr hS 2 rfl fun w hS => q_1 rfl (h _ _ (hS.sel [1] rfl rfl)))
set_option maxHeartbeats 2000000 in
theorem b_AliveT (hO : TabOk Y) (hv : TabV bT bm x Y w) (hx : x.length = 16) (h : ∀ v' w', St w (fun _ => False) w' [rowI v' (alvT (gps Y))] → K v' w') : CK Tryz.prog 15 [dp bT] w K := by
 have hS := St.nil w (fun _ => False)
 have hln := hO.len
 refine call_k Tryz.func15 k15 Tryz.ntmps15 (Nat.le_of_ble_eq_true rfl) ?_
 refine gW ?_
 refine g_ef rfl (ef_al hS fun b3 w1 hS => ?_)
 replace hS := hS.nilrow 38 32
 refine gW ?_
 refine g_cl rfl rfl (b_each fun b1 w1 h' => ?_)
 replace hS := hS.call0.2 _ _ h'
 clear h'
 replace hS : St w (fun _ => False) w1 [cel b3 [.slice none 0 0] 51, row (.slice none 0 0) 38 32 0 (fl ic (tps (Y.take 0))), cel b1 [dp bT] 27] := hS
 refine g_r0 ?_
 refine g_atd 1 [(3, dp b3)] (fun D1 w' => ∃ dB, D1 = [⟨.collected dB, #[]⟩] ∧ ∃ a1 c1, St w (fun _ => False) w' [cel b3 [.slice a1 (tps Y).length c1] 51, rowI (.slice a1 (tps Y).length c1) (tps Y), obj dB (.deferred (some []))]) rfl ?_ ?_
 ·refine gW ?_
  refine g_wkc (T' := [(7, .func (.func 80) ⟨[]⟩ ⟨[dp b1]⟩), (3, dp b3)]) ⟨rfl, rfl, trivial⟩ ?_
  refine g_rf (cap := [dp b1]) (first := []) hS rfl (callFunc_of Tryz.func80 rfl rfl) fun l dB w2 hS => ?_
  refine d_each (ι := Option Addr × Nat × Nat) (Ls := fun σ => [cel b3 [.slice σ.1 (tps (Y.take σ.2.2)).length σ.2.1] 51, row (.slice σ.1 (tps (Y.take σ.2.2)).length σ.2.1) 38 32 (tps (Y.take σ.2.2)).length (fl ic (tps (Y.take σ.2.2))), cel b1 [dp bT] 27, obj dB (.deferred (some [])), _])
   (Inv := fun k σ => σ.2.2 = k) (i := 2) hO hx (fun σ => rfl) (fun hS => hv.in hS) (σ0 := (none, 0, 0)) rfl hS ?_ ?_
  ·clear hS
   rintro k hk X ⟨a1, c1, k2⟩ w2 hI hS
   dsimp only at hI hS
   subst hI
   have hft := tps_take Y (k2 + 1)
   have e1 := take_tps hk
   have ho := hO.one (List.getElem_mem hk)
   rw [e1, List.length_append] at hft
   refine yd_of hS 4 rfl rfl ?_
   refine gW ?_
   refine ⟨rfl, _, _, hS, rfl, fun w2 hS => ?_⟩
   refine gW ?_
   refine g_dr mixed ?_
   replace hS := hS.drew
   refine d_l1 rfl rfl rfl (hS.b 0 rfl) rfl ?_
   refine gD ?_
   refine d_cl rfl rfl rfl (b_TipsG (l := Y[k2].l) (by omega) (allC1 hO hk ((hv.in hS).z _ (List.getElem_mem hk))) fun v3 w3 h' => ?_)
   replace hS := hS.call0.2 _ _ h'
   clear h'
   obtain ⟨a3, c3, rfl⟩ := hS.rlen 6 rfl
   refine ⟨rc_1 rfl rfl rfl rfl (hS.b 0 rfl) rfl rc_0, ?_⟩
   refine d_e rfl rfl (ef_ap (n := (tps (Y.take k2)).length) (m := (tipR Y[k2].l).length) (ys := fl ic (tipR Y[k2].l)) hS 1 rfl rfl rfl (.inl ⟨_, Ow.rd (hS.ok 6 _ rfl)⟩) (fl_one ic_one _) (by omega) (by omega) fun v1 w2 hS => ⟨rc_0, ?_⟩)
   obtain ⟨a2, c2, rfl⟩ := hS.rlen 1 rfl
   refine d_e0 rfl rfl (ef_st hS 0 rfl rfl rfl rfl (Nat.le_of_ble_eq_true rfl) rfl fun w2 hS => ⟨rc_0, ?_⟩)
   refine d_fin ?_
   rw [← fl_app, ← List.length_append, ← e1] at hS
   refine gW ?_
   exact ⟨_, _, hS.sel [0, 1, 2, 3, 4, 5] rfl rfl, rfl, fun w2 hS => .inl ⟨rfl, (a2, c2, k2 + 1), rfl, hS⟩⟩
  ·clear hS
   rintro ⟨a1, c1, k2⟩ w2 hI hS
   dsimp only at hI hS
   subst hI
   rw [List.take_length] at hS
   refine ⟨_, 4, _, _, hS, rfl, (fun h => nomatch h), fun w2 hS => ?_⟩
   exact g_b (g_jd ⟨rfl, trivial⟩ ⟨dB, rfl, a1, c1, hS.sel [0, 1, 3] rfl rfl⟩)
 ·clear hS
  rintro T D1 w1 hT ⟨dB, rfl, a1, c1, hS⟩
  have htl := tps_len Y
  refine g_wkc hT ?_
  refine gW ?_
  refine g_l1 rfl rfl (hS.b  0 rfl) rfl ?_
  refine g_cl rfl rfl (b_Set (d := tps Y) rfl (by omega) (Ow.rd (hS.ok 1 _ rfl)) fun v2 w2 h' => ?_)
  replace hS := hS.call0.2 _ _ h'
  rw [tps_alv] at hS
  refine gW ?_
  exact g_ret (q_dr hS 2 rfl fun w hS => q_1 rfl (h _ _ (hS.sel [3] rfl rfl)))
theorem b_TipsT (hO : TabOk Y) (hv : TabV bT bm x Y w) (hx : x.length = 16) (h : ∀ v' w', St w (fun _ => False) w' [rowI v' (tipR (sibT (gps Y) s))] → K v' w') : CK Tryz.prog 17 [dp bT, .pointer none, sv s] w K := by
 have hsl := sib_len hO s
 have htl := tipR_len (sibT (gps Y) s)
 refine call_k Tryz.func17 k17 Tryz.ntmps17 (Nat.le_of_ble_eq_true rfl) ?_
 refine gW ?_
 refine g_cl rfl rfl (b_ofT hO hv hx ?_)
 refine gW ?_
 refine g_cl rfl rfl (b_TipsG (by omega) (allC hO hv.z s) fun v1 w1 hS => ?_)
 refine gW ?_
 refine g_cl rfl rfl (b_SurvN (by omega) (Ow.rd (hS.ok 0 _ rfl)) fun v2 w2 h' => ?_)
 replace hS := hS.call0.2 _ _ h'
 rw [tipR_iset] at hS
 refine gW ?_
 exact g_ret (q_1 rfl (h _ _ (hS.sel [1] rfl rfl)))
def rowL (p : Lv1) : Res := row p.1 59 33 p.2.length (fl lc p.2)
theorem lvr {i : Nat} {ps : List Lv1} (hS : St w0 S0 w L) (hi : L[i]? = some (ows rowL ps)) : ∀ p ∈ ps, LvR w p := fun p hp => ⟨_, Ow.rd (ows_mem (hS.ok i _ hi) hp)⟩
theorem flat_lsY {ps : List Lv1} (h : ps.map (·.2) = lsY Y) : (flat ps).length ≤ (flt Y).length := by
 unfold flat
 rw [h]
 clear h
 induction Y with
 | nil => exact Nat.le_refl _
 | cons z Y ih =>
  show (nmL z.s (tipR z.l) ++ (lsY Y).flatten).length ≤ (z.l ++ flt Y).length
  have h1 := nmL_len' z.s (tipR z.l)
  have h2 := tipR_len z.l
  rw [List.length_append, List.length_append]
  omega
theorem flat_name {ps : List Lv1} (hO : TabOk Y) (h : ps.map (·.2) = lsY Y) : ∀ y ∈ flat ps, y.1.length < 4294967281 := fun y hy => by
 unfold flat at hy
 rw [h] at hy
 obtain ⟨l, hl, hy⟩ := List.mem_flatten.1 hy
 obtain ⟨z, hz, rfl⟩ := List.mem_map.1 hl
 have h1 := nmL_name hy
 have h2 := brk_le (hO.s hz).1
 omega
set_option maxHeartbeats 4000000 in
theorem b_ListT (hO : TabOk Y) (hg : Gl w) (hv : TabV bT bm x Y w) (hx : x.length = 16) (h : ∀ v' w', St w (fun _ => False) w' [rowL (v', lstT (gps Y))] → K v' w') : CK Tryz.prog 19 [dp bT, .pointer none] w K := by
 have hS := St.nil w (fun _ => False)
 have hln := hO.len
 have hYn := hO.n
 refine call_k Tryz.func19 k19 Tryz.ntmps19 (Nat.le_of_ble_eq_true rfl) ?_
 refine gW ?_
 refine g_ef rfl (ef_bx hS rfl fun b2 w1 hS => ?_)
 refine g_ef rfl (ef_bx hS rfl fun b3 w1 hS => ?_)
 refine g_ef rfl (ef_al hS fun b4 w1 hS => ?_)
 refine gW ?_
 refine g_ef rfl (ef_al hS fun b5 w1 hS => ?_)
 replace hS := hS.nilrow 56 1
 replace hS := St.ows_nil rowL hS
 replace hS : St w (fun _ => False) w1 [cel b2 [dp bT] 27, cel b3 [.pointer none] 80, cel b4 [.slice none 0 0] 56, cel b5 [.slice none 0 0] 99, row (.slice none 0 0) 56 1 0 [], ows rowL []] := hS.sel [1, 2, 3, 4, 5, 0] rfl rfl
 refine gW ?_
 refine g_l1 rfl rfl (hS.b  0 rfl) rfl ?_
 refine g_cl rfl rfl (b_each fun b1 w1 h' => ?_)
 replace hS := hS.call0.2 _ _ h'
 clear h'
 refine g_r0 ?_
 refine g_atd 1 [(4, dp b4), (5, dp b5)] (fun D1 w' => ∃ dB, D1 = [⟨.collected dB, #[]⟩] ∧ ∃ a1 c1, ∃ ps : List Lv1, ps.map (·.2) = lsY Y ∧ St w (fun _ => False) w' [cel b4 [.slice none 0 0] 56, cel b5 [.slice a1 ps.length c1] 99, row (.slice a1 ps.length c1) 56 1 ps.length (ps.map (·.1)), ows rowL ps, obj dB (.deferred (some []))]) rfl ?_ ?_
 ·refine gW ?_
  refine g_wkc (T' := [(12, .func (.func 80) ⟨[]⟩ ⟨[dp b1]⟩), (2, dp b2), (3, dp b3), (4, dp b4), (5, dp b5)]) ⟨rfl, rfl, rfl, rfl, rfl, trivial⟩ ?_
  refine g_rf (cap := [dp b1]) (first := []) hS rfl (callFunc_of Tryz.func80 rfl rfl) fun l dB w2 hS => ?_
  refine d_each (ι := Option Addr × Nat × List Lv1) (Ls := fun σ => [cel b2 [dp bT] 27, cel b3 [.pointer none] 80, cel b4 [.slice none 0 0] 56, cel b5 [.slice σ.1 σ.2.2.length σ.2.1] 99, row (.slice σ.1 σ.2.2.length σ.2.1) 56 1 σ.2.2.length (σ.2.2.map (·.1)), ows rowL σ.2.2, cel b1 [dp bT] 27, obj dB (.deferred (some [])), _])
   (Inv := fun k σ => σ.2.2.map (·.2) = lsY (Y.take k)) (i := 6) hO hx (fun σ => rfl) (fun hS => hv.in hS) (σ0 := (none, 0, [])) rfl hS ?_ ?_
  ·clear hS
   rintro k hk X ⟨a1, c1, ps⟩ w2 hI hS
   dsimp only at hI hS
   have hpl : ps.length = k := by
    have := congrArg List.length hI
    unfold lsY at this
    rw [List.length_map, List.length_map, List.length_take] at this
    omega
   have hz := hO.s (List.getElem_mem hk)
   have ho := hO.one (List.getElem_mem hk)
   have hsb : sibT (gps Y) Y[k].s = Y[k].l := by rw [sibT_lk, lk_in (gps_pw hO.P) hk]; rfl
   have htl := tipR_len Y[k].l
   refine yd_of hS 8 rfl rfl ?_
   refine gW ?_
   refine ⟨rfl, _, _, hS, rfl, fun w2 hS => ?_⟩
   refine gW ?_
   refine g_l1 rfl rfl (hS.b  0 rfl) rfl ?_
   refine g_l1 rfl rfl (hS.b  1 rfl) rfl ?_
   refine gW ?_
   refine g_cl rfl rfl (b_TipsT (s := Y[k].s) hO (hv.in hS) hx fun v3 w3 h' => ?_)
   replace hS := hS.call0.2 _ _ h'
   clear h'
   rw [hsb] at hS
   refine g_cl rfl rfl (b_Names (s := Y[k].s) (ids := tipR Y[k].l) rfl (by omega) (hg.in hS) (Ow.rd (hS.ok 10 _ rfl)) (fun h0 => absurd hz.1 h0) fun _ v4 w4 h' => ?_)
   replace hS := hS.call0.2 _ _ h'
   clear h'
   obtain ⟨a4, c4, e4⟩ := hS.rlen 11 rfl
   have o1 : v4.cells.toList = [v4] := by rw [e4]; rfl
   have o2 : v4.oneCell' = true := by rw [e4]; rfl
   refine gW ?_
   refine g_l1 rfl rfl (hS.b  3 rfl) rfl ?_
   refine gW ?_
   refine g_ef rfl (ef_bl (rs := [v4]) hS (evcs_v rfl o1 e4) fun g w1 hS => ?_)
   refine gW ?_
   refine g_ef rfl (ef_ap (n := ps.length) (m := 1) (ys := [v4]) hS 4 rfl rfl rfl (.inl ⟨56, .inr ⟨g, 0, 1, _, rfl, Nat.le_refl _, Nat.le_refl _, rfl, (hS.b 12 rfl).r⟩⟩) (by simp [o2]) (by omega) (by omega) fun v1 w1 hS => ?_)
   obtain ⟨a2, c2, rfl⟩ := hS.rlen 4 rfl
   refine g_ef0 rfl (ef_st hS 3 rfl rfl rfl rfl (Nat.le_of_ble_eq_true rfl) rfl fun w1 hS => ?_)
   replace hS : St w (fun _ => False) w1 (ows rowL ps :: rowL (v4, nmL Y[k].s (tipR Y[k].l)) :: _) := hS.sel [5, 11, 0, 1, 2, 3, 4, 6, 7, 8, 9] rfl rfl
   replace hS := St.ows_app hS
   replace hS := hS.sel [1, 2, 3, 4, 5, 0, 6, 7, 8, 9] rfl rfl
   have e1 : ps.map (·.1) ++ [v4] = (ps ++ [(v4, nmL Y[k].s (tipR Y[k].l))]).map (·.1) := by simp
   have e2 : ps.length + 1 = (ps ++ [(v4, nmL Y[k].s (tipR Y[k].l))]).length := by simp
   rw [e1, e2] at hS
   refine gW ?_
   refine ⟨_, _, hS, rfl, fun w2 hS => .inl ⟨rfl, (a2, c2, ps ++ [(v4, nmL Y[k].s (tipR Y[k].l))]), ?_, hS⟩⟩
   dsimp only
   rw [List.map_append, hI, List.take_succ_eq_append_getElem hk, lsY, lsY, List.map_append]
   rfl
  ·clear hS
   rintro ⟨a1, c1, ps⟩ w2 hI hS
   dsimp only at hI hS
   rw [List.take_length] at hI
   refine ⟨_, 8, _, _, hS, rfl, (fun h => nomatch h), fun w2 hS => ?_⟩
   exact g_b (g_jd ⟨rfl, rfl, trivial⟩ ⟨dB, rfl, a1, c1, ps, hI, hS.sel [2, 3, 4, 5, 7] rfl rfl⟩)
 ·clear hS
  rintro T D1 w1 hT ⟨dB, rfl, a1, c1, ps, hps, hS⟩
  have hfl := flat_lsY hps
  have hpl : ps.length = Y.length := by
   have := congrArg List.length hps
   unfold lsY at this
   rwa [List.length_map, List.length_map] at this
  refine g_wkc hT ?_
  refine gW ?_
  refine g_l1 rfl rfl (hS.b  1 rfl) rfl ?_
  refine g_cl rfl rfl (b_Join (ps := ps) rfl (by omega) (by omega) (flat_name hO hps) (hg.in hS) (Ow.rd (hS.ok 2 _ rfl)) (lvr hS (i := 3) rfl) fun v2 w2 h' => ?_)
  replace hS := hS.call0.2 _ _ h'
  clear h'
  rw [hps, lsY_lst] at hS
  have hj : jnE (lsY Y) ≠ 0 → lstT (gps Y) = [] := fun hj => by
   rw [← lsY_lst]
   unfold jnE at hj
   unfold jnL
   cases e : joinS (lsY Y) with
   | none => rfl
   | some d => rw [e] at hj; exact absurd rfl hj
  rw [hps]
  obtain ⟨a6, c6, rfl⟩ := hS.rlen 5 rfl
  refine gW ?_
  by_cases he : jnE (lsY Y) = 0
  ·rw [cmv_no he]
   refine gW ?_
   refine g_ef0 rfl (ef_st hS 0 rfl rfl rfl rfl (Nat.le_of_ble_eq_true rfl) rfl fun w1 hS => ?_)
   refine gW ?_
   exact g_ret (q_dr hS 4 rfl fun w hS => q_s1 rfl (by kernel_rfl) (hS.b 0 rfl) rfl (h _ _ (hS.sel [5] rfl rfl)))
  ·have e0 := hj he
   rw [e0] at h
   rw [cmv_ye he]
   refine gW ?_
   refine g_ef0 rfl (ef_st hS 0 rfl rfl rfl rfl (Nat.le_of_ble_eq_true rfl) rfl fun w1 hS => ?_)
   refine gW ?_
   exact g_ret (q_dr hS 4 rfl fun w hS => q_s1 rfl (by kernel_rfl) (hS.b 0 rfl) (v := .slice none 0 0) rfl (h _ _ ((hS.sel [] rfl rfl).nilrow 59 33)))
end
end Go.Proofs.YtfffdhafbbbpcaaGreatDoor
