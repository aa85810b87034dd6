/- Rg4 Rg5 Rs2 Rg6 Rg7 Rg8 Oc1 -/
import Derived.Test.YtfffdhafbbbpcaaGreatDoorPu1
set_option linter.unusedSimpArgs false
set_option linter.unusedVariables false
namespace Go.Proofs.YtfffdhafbbbpcaaGreatDoor
open Go.En
theorem vAdd_len {x y : List Nat} {a b : Int} (hx : x.length = 16) (h : vAdd x a b = some y) : y.length = 16 := by
 unfold vAdd at h
 split at h
 ·rw [← Option.some.inj h, List.length_set, hx]
 ·cases h
theorem spl_16' {x : List Nat} (hx : x.length = 16) (u v : Value) : spl (u4 x ++ [u]) (0 + 16) [v] = u4 x ++ [v] := by
 have := spl_app (u4 x) [u] [] [v] (Nat.le_refl _)
 rw [u4_len, hx] at this
 simpa using this
theorem spl_0 {x y : List Nat} (hx : x.length = 16) (hy : y.length = 16) (l : List Value) : spl (u4 x ++ l) (0 + 0) (u4 y) = u4 y ++ l := by
 have := spl_app [] (u4 x) l (u4 y) (by rw [u4_len, u4_len, hx, hy]; exact Nat.le_refl _)
 rw [u4_len, hy, List.drop_of_length_le (by rw [u4_len, hx]; exact Nat.le_refl _), List.append_nil] at this
 exact this
section
variable {w w0 : World} {S0 : Nat → Prop} {L B : List Res} {K : Value → World → Prop} {s : Bs} {E0 E1 : Nat} {r : Rec}
set_option maxHeartbeats 8000000 in
theorem b_ApplyT {bT : Nat} {mo : Option Nat} {x : List Nat} {Y : List Sb} (sp : Spot) (hg : Gl w0) (hx : x.length = 16) (hxb : ∀ y ∈ x, y < 4294967296) (hY : Y.length < 400000) (hS : St w0 (fun _ => False) w (TabS bT mo x Y ++ B))
  (h1 : okA x r = false → ∀ w', St w0 (fun _ => False) w' (TabS bT mo x Y ++ B) → K (.int .i64 210) w')
  (hsp : okA x r = true → spotB Y r sp)
  (h2 : okA x r = true → ∀ bm bz v w', St w0 (fun _ => False) w' (TabS bT (some bm) (nxt x r) (updY Y r bz v sp) ++ B) → K (.int .i64 0) w') : CK Tryz.prog 11 [dp bT, .agg ⟨rc r⟩] w K := by
 have lx : (u4 x).length = 16 := by rw [u4_len, hx]
 have lz : (zx [(16, Value.int .u32 0)]).length = 16 := by decide
 refine call_k Tryz.func11 k11 Tryz.ntmps11 (Nat.le_of_ble_eq_true rfl) ?_
 refine gW ?_
 refine g_ef rfl (ef_bx hS rfl fun b3 w1 hS => ?_)
 replace hS : St w0 (fun _ => False) w1 ([cel b3 (rc r) 40, cel bT (u4 x ++ [.map mo]) 45, mapR mo Y, ows (sbR 109) Y] ++ B) := hS.front
 refine gW ?_
 refine g_atx (ι := Int × List Nat × Nat) 1 (fun y => [(0, dp bT), (3, dp b3), (5, dp y.2.2), (6, .int .i64 y.1)]) (fun y w' => ((vAdd x r.site r.cnt = none ∧ y.1 ≠ 0) ∨ (vAdd x r.site r.cnt = some y.2.1 ∧ y.1 = 0)) ∧ y.2.1.length = 16 ∧
  St w0 (fun _ => False) w' ([cel b3 (rc r) 40, cel bT (u4 x ++ [.map mo]) 45, mapR mo Y, ows (sbR 109) Y, cel y.2.2 (u4 y.2.1) 24] ++ B)) rfl ?_ ?_
 ·refine g_dr mixed ?_
  replace hS := hS.drew
  refine gD ?_
  refine d_lm rfl rfl rfl (hS.b 1 rfl) (by rw [List.length_append, lx]; exact Nat.le_add_right 16 _) ?_
  rw [u4_h16 hx]
  refine gD ?_
  refine d_lm rfl rfl rfl (hS.b 0 rfl) (by rw [rc_len]; decide) ?_
  rw [show ((rc r).drop (0 + 0)).take 2 = dc r.site r.cnt from rc_dot _]
  refine d_a2 ?_ (d_a1 ?_)
  ·refine d_cl rfl rfl rfl (b_Add hx hxb (fun hno e z w2 he hz h' => ⟨rc_0, ?_⟩) (fun y hyes w2 h' => ⟨rc_0, ?_⟩))
   ·replace hS := hS.call0.2 _ _ h'
    rw [List.append_nil] at hS
    clear h'
    refine gD ?_
    refine d_e rfl rfl (ef_al hS fun b5 w1 hS => ⟨rc_0, ?_⟩)
    replace hS : St w0 (fun _ => False) w1 (cel b5 (zx [(16, Value.int .u32 0)]) 24 :: _) := hS.front
    refine d_e0 rfl rfl (ef_st hS 0 rfl rfl rfl (u16 hz) (by rw [lz]; decide) (u4_one _) fun w1 hS => ⟨rc_0, ?_⟩)
    replace hS := hS.ceq (l' := u4 z) 0 rfl (spl_full' _ _ (by show (u4 z).length = _; rw [u16 hz, lz]))
    refine gD ?_
    refine d_fin ?_
    refine gW ?_
    exact g_jx (e, z, b5) ⟨rfl, rfl, rfl, rfl, trivial⟩ ⟨.inl ⟨hno, he⟩, hz, St.selB (A := [_, _, _, _, _]) (B := B) hS [1, 2, 3, 4, 0] rfl rfl⟩
   ·replace hS := hS.call0.2 _ _ h'
    rw [List.append_nil] at hS
    clear h'
    have hz := vAdd_len hx hyes
    refine gD ?_
    refine d_e rfl rfl (ef_al hS fun b5 w1 hS => ⟨rc_0, ?_⟩)
    replace hS : St w0 (fun _ => False) w1 (cel b5 (zx [(16, Value.int .u32 0)]) 24 :: _) := hS.front
    refine d_e0 rfl rfl (ef_st hS 0 rfl rfl rfl (u16 hz) (by rw [lz]; decide) (u4_one _) fun w1 hS => ⟨rc_0, ?_⟩)
    replace hS := hS.ceq (l' := u4 y) 0 rfl (spl_full' _ _ (by show (u4 y).length = _; rw [u16 hz, lz]))
    refine gD ?_
    refine d_fin ?_
    refine gW ?_
    exact g_jx (0, y, b5) ⟨rfl, rfl, rfl, rfl, trivial⟩ ⟨.inr ⟨hyes, rfl⟩, hz, St.selB (A := [_, _, _, _, _]) (B := B) hS [1, 2, 3, 4, 0] rfl rfl⟩
  ·refine d_e rfl rfl (ef_al hS fun b5 w1 hS => ?_)
   replace hS : St w0 (fun _ => False) w1 (cel b5 (zx [(16, Value.int .u32 0)]) 24 :: _) := hS.front
   refine ⟨rc_m rfl rfl rfl rfl (hS.b 2 rfl) (by rw [List.length_append, lx]; exact Nat.le_add_right 16 _) (u4_h16 hx _) (rc_m rfl rfl rfl rfl (hS.b 1 rfl) (by rw [rc_len]; decide) (rc_dot _) rc_0), ?_⟩
   refine d_cl rfl rfl rfl (b_Add hx hxb (fun hno e z w2 he hz h' => ⟨rc_0, ?_⟩) (fun y hyes w2 h' => ⟨rc_0, ?_⟩))
   ·replace hS := hS.call0.2 _ _ h'
    rw [List.append_nil] at hS
    clear h'
    refine gD ?_
    refine d_e0 rfl rfl (ef_st hS 0 rfl rfl rfl (u16 hz) (by rw [lz]; decide) (u4_one _) fun w1 hS => ⟨rc_0, ?_⟩)
    replace hS := hS.ceq (l' := u4 z) 0 rfl (spl_full' _ _ (by show (u4 z).length = _; rw [u16 hz, lz]))
    refine gD ?_
    refine d_fin ?_
    refine gW ?_
    exact g_jx (e, z, b5) ⟨rfl, rfl, rfl, rfl, trivial⟩ ⟨.inl ⟨hno, he⟩, hz, St.selB (A := [_, _, _, _, _]) (B := B) hS [1, 2, 3, 4, 0] rfl rfl⟩
   ·replace hS := hS.call0.2 _ _ h'
    rw [List.append_nil] at hS
    clear h'
    have hz := vAdd_len hx hyes
    refine gD ?_
    refine d_e0 rfl rfl (ef_st hS 0 rfl rfl rfl (u16 hz) (by rw [lz]; decide) (u4_one _) fun w1 hS => ⟨rc_0, ?_⟩)
    replace hS := hS.ceq (l' := u4 y) 0 rfl (spl_full' _ _ (by show (u4 y).length = _; rw [u16 hz, lz]))
    refine gD ?_
    refine d_fin ?_
    refine gW ?_
    exact g_jx (0, y, b5) ⟨rfl, rfl, rfl, rfl, trivial⟩ ⟨.inr ⟨hyes, rfl⟩, hz, St.selB (A := [_, _, _, _, _]) (B := B) hS [1, 2, 3, 4, 0] rfl rfl⟩
 clear hS
 rintro ⟨e, y, b5⟩ T w1 hT ⟨hv, hyl, hS⟩
 dsimp only at hv hyl hS hT
 refine g_wkc hT ?_
 clear hT
 have bad : okA x r = false → ∀ w', St w0 (fun _ => False) w' ([cel b3 (rc r) 40, cel bT (u4 x ++ [.map mo]) 45, mapR mo Y, ows (sbR 109) Y, cel b5 (u4 y) 24] ++ B) → K (.int .i64 210) w' := fun e w' hS =>
  h1 e w' (St.selB (A := [_, _, _, _, _]) (B := B) hS [1, 2, 3] rfl rfl)
 refine gW ?_
 refine g_dr mixed ?_
 replace hS := hS.drew
 refine gD ?_
 rcases hv with ⟨hv, he⟩ | ⟨hv, rfl⟩
 ·have ho : okA x r = false := by unfold okA; rw [hv]; rfl
  rw [cmv_ye he]
  refine gD ?_
  refine d_en rfl rfl rc_0 ?_
  refine gD ?_
  refine d_en rfl rfl rc_0 ?_
  refine gD ?_
  refine d_fin ?_
  refine gW ?_
  exact g_ret (q_1 rfl (bad ho _ hS))
 refine gD ?_
 refine d_lm rfl rfl rfl (hS.b 0 rfl) (Nat.le_of_eq (by rw [rc_len])) ?_
 rw [List.drop_zero, List.take_of_length_le (Nat.le_of_eq (rc_len _))]
 refine d_cl rfl rfl rfl (b_recCheck (hg.in hS) fun w1 h' => ⟨rc_0, ?_⟩)
 replace hS := hS.call0.2 _ _ h'
 rw [List.append_nil] at hS
 clear h'
 cases hb : recB r
 ·have ho : okA x r = false := by unfold okA; rw [hb]; simp
  rw [recE_no hb]
  refine gD ?_
  refine d_en rfl rfl rc_0 ?_
  refine gD ?_
  refine d_fin ?_
  refine gW ?_
  exact g_ret (q_1 rfl (bad ho _ hS))
 rw [recE_ok hb]
 refine gD ?_
 refine d_lm rfl rfl rfl (hS.b 0 rfl) (by rw [rc_len]; decide) ?_
 rw [show ((rc r).drop (0 + 2)).take 16 = u4 r.ctx from rc_c16 _]
 refine gD ?_
 refine d_lm rfl rfl rfl (hS.b 1 rfl) (by rw [List.length_append, lx]; exact Nat.le_add_right 16 _) ?_
 rw [u4_h16 hx]
 refine d_cl rfl rfl rfl (b_AtMost r.l16 hx fun w1 h' => ⟨rc_0, ?_⟩)
 replace hS := hS.call0.2 _ _ h'
 rw [List.append_nil] at hS
 clear h'
 by_cases hm : atm r.ctx x
 rotate_left
 ·have ho : okA x r = false := by unfold okA; rw [decide_eq_false hm]; simp
  rw [decide_eq_false hm]
  refine gD ?_
  refine d_fin ?_
  refine gW ?_
  exact g_ret (q_1 rfl (bad ho _ hS))
 have ho : okA x r = true := by unfold okA; rw [hv, hb, decide_eq_true hm]; rfl
 replace h2 := h2 ho
 replace hsp := hsp ho
 clear h1 bad
 have hny : nxt x r = y := by unfold nxt; rw [hv]; rfl
 rw [hny] at h2
 have hne : r.ref ≠ [] := by
  unfold recB at hb
  rw [Bool.and_eq_true, Bool.and_eq_true, Bool.and_eq_true, decide_eq_true_eq] at hb
  have h3 := hb.2.2.1
  rw [decide_eq_true_eq] at h3
  intro e
  rw [e] at h3
  exact absurd h3 (by decide)
 have hbr : brk r.ref = 0 := by
  unfold recB at hb
  rw [Bool.and_eq_true, Bool.and_eq_true, Bool.and_eq_true, decide_eq_true_eq] at hb
  have h3 := hb.2.2.1
  rw [decide_eq_true_eq] at h3
  unfold nmE at h3
  split at h3
  ·assumption
  ·omega
 rw [decide_eq_true hm]
 refine gD ?_
 refine d_fin ?_
 refine gW ?_
 refine g_dr mixed ?_
 replace hS := hS.drew
 refine gD ?_
 refine d_l1 rfl rfl rfl (hS.b 1 rfl) (v := .map mo) (u4_16 hx _) ?_
 refine gD ?_
 refine d_l1 rfl rfl rfl (hS.b 0 rfl) (v := sv r.ref) (rc_18 r) ?_
 cases sp with
 | none =>
  have hsp : ∀ z ∈ Y, z.s ≠ r.ref := hsp
  have hkey : ∀ e ∈ tE Y, e.key ≠ sv r.ref := fun e he hk => by
   obtain ⟨i, hi, rfl⟩ := tE_get he
   exact hsp _ (List.getElem_mem hi) (sv_inj hk)
  have tail1 : (stay r [] ++ [r]).Pairwise dlt' := by simp [stay]
  cases mo with
  | none =>
   obtain ⟨hY0, hS⟩ := hS.cond (r := emp) 2 rfl
   subst hY0
   replace hS : St w0 (fun _ => False) _ ([cel b3 (rc r) 40, cel bT (u4 x ++ [.map none]) 45, emp, ows (sbR 109) [], cel b5 (u4 y) 24] ++ B) := hS
   replace hS := St.selB (A := [_, _, _, _, _]) (B := B) hS [0, 1, 3, 4] rfl rfl
   refine d_e rfl rfl (ef_mlk0 (kl_str Tryz.underlying9) rfl rfl ⟨_, rfl⟩ ⟨rc_0, ?_⟩)
   refine gD ?_
   refine d_fin ?_
   refine gW ?_
   refine g_l1 rfl rfl (hS.b 0 rfl) (v := sv r.ref) (rc_18 r) ?_
   refine g_cl rfl rfl (b_newSb hbr (hg.in hS) fun bz w1 h' => ?_)
   replace hS := hS.call0.2 _ _ h'
   clear h'
   replace hS : St w0 (fun _ => False) w1 (([cel b3 (rc r) 40, cel bT (u4 x ++ [.map none]) 45, ows (sbR 109) [], cel b5 (u4 y) 24] ++ B) ++ [cel bz [sv r.ref, .slice none 0 0] 109] ++ [rowR (.slice none 0 0) []]) := by rw [List.append_assoc]; exact hS
   replace hS := hS.front
   rw [← List.cons_append] at hS
   replace hS := hS.front
   replace hS : St w0 (fun _ => False) w1 ([cel bz [sv r.ref, .slice none 0 0] 109, rowR (.slice none 0 0) []] ++ ([cel b3 (rc r) 40, cel bT (u4 x ++ [.map none]) 45, ows (sbR 109) [], cel b5 (u4 y) 24] ++ B)) := hS
   refine gW ?_
   refine g_lm rfl rfl (hS.b 2 rfl) (Nat.le_of_eq (by rw [rc_len])) ?_
   rw [List.drop_zero, List.take_of_length_le (Nat.le_of_eq (rc_len _))]
   have hF := hS.frame
   refine g_cl rfl rfl (b_ApplySb (fun h => gl_foot hg hS h) hF.1 hne rfl hb rfl rfl tail1 (Nat.zero_lt_succ _) fun gn v2 w2 h' => ?_)
   replace hS := hF.2 _ _ h'
   clear h' hF
   replace hS : St w0 (fun _ => False) w2 ([cel bz [sv r.ref, v2] 109, rowR v2 [r], cel b3 (rc r) 40, cel bT (u4 x ++ [.map none]) 45, ows (sbR 109) [], cel b5 (u4 y) 24] ++ B) := hS
   refine gW ?_
   refine g_l1 rfl rfl (hS.b 3 rfl) (v := .map none) (u4_16 hx _) ?_
   refine gW ?_
   refine g_ef rfl (ef_mkm hS fun bm w1 hS => ?_)
   replace hS := hS.front
   replace hS : St w0 (fun _ => False) w1 ([obj bm (.map ⟨[]⟩ 0), cel bz [sv r.ref, v2] 109, rowR v2 [r], cel b3 (rc r) 40, cel bT (u4 x ++ [.map none]) 45, ows (sbR 109) [], cel b5 (u4 y) 24] ++ B) := hS
   refine gW ?_
   refine g_ef0 rfl (ef_st hS 4 rfl rfl rfl rfl (by rw [List.length_append, lx]; exact Nat.le_refl 17) rfl fun w2 hS => ?_)
   replace hS := hS.ceq (l' := u4 x ++ [.map (some bm)]) 4 rfl (spl_16' hx _ _)
   refine gW ?_
   refine g_dr mixed ?_
   replace hS := hS.drew
   refine gD ?_
   refine d_l1 rfl rfl rfl (hS.b 4 rfl) (v := .map (some bm)) (u4_16 hx _) ?_
   refine gD ?_
   refine d_l1 rfl rfl rfl (hS.b 3 rfl) (v := sv r.ref) (rc_18 r) ?_
   refine d_lm rfl rfl rfl (hS.b 6 rfl) (Nat.le_of_eq (u16 hyl).symm) ?_
   rw [List.drop_zero, List.take_of_length_le (Nat.le_of_eq (u16 hyl))]
   refine gD ?_
   refine d_e0 rfl rfl (ef_st hS 4 rfl rfl rfl (u16 hyl) (by rw [List.length_append, lx]; exact Nat.le_add_right 16 _) (u4_one _) fun w2 hS => ?_)
   replace hS := hS.ceq (l' := u4 y ++ [.map (some bm)]) 4 rfl (spl_0 hx hyl _)
   refine ⟨rc_1 rfl rfl rfl rfl (hS.b 3 rfl) (rc_18 r) rc_0, ?_⟩
   refine d_e rfl rfl (ef_me (es := []) (kl_str Tryz.underlying9) hS 0 rfl rfl rfl ⟨_, rfl⟩ (fun e he => absurd he List.not_mem_nil) (fun _ w2 hS => ⟨rc_0, ?_⟩) fun j e hj he => absurd (List.mem_of_getElem? hj) List.not_mem_nil)
   refine gD ?_
   refine d_e0 rfl rfl (ef_es (n := 0) (j := 0) hS 0 rfl rfl rfl rfl rfl rfl (fun k e' hk => absurd hk (Nat.not_lt_zero k)) fun w2 hS => ⟨rc_0, ?_⟩)
   refine d_fin ?_
   replace hS := hS.merge 1 2 rfl rfl (by decide)
   replace hS : St w0 (fun _ => False) w2 (ows (sbR 109) [] :: sbR 109 ⟨bz, v2, r.ref, [r]⟩ :: ([cel bT (u4 y ++ [.map (some bm)]) 45, obj bm (.map ⟨[⟨sv r.ref, dp bz, 0⟩]⟩ 1)] ++ B)) := St.selB (A := [_, _, _, _, _, _, _]) (B := B) hS [5, 1, 4, 0] rfl rfl
   replace hS := St.ows_app hS
   replace hS := St.selB (A := [_, _, _]) (B := B) hS [1, 2, 0] rfl rfl
   refine gW ?_
   exact g_ret (q_1 rfl (h2 bm bz v2 _ hS))
  | some bm =>
   replace hS : St w0 (fun _ => False) _ ([cel b3 (rc r) 40, cel bT (u4 x ++ [.map (some bm)]) 45, obj bm (.map ⟨tE Y⟩ Y.length), ows (sbR 109) Y, cel b5 (u4 y) 24] ++ B) := hS
   refine d_e rfl rfl (ef_mlk (kl_str Tryz.underlying9) (hS.ok 2 _ rfl) rfl rfl ⟨_, rfl⟩ tE_key (fun _ => ⟨rc_0, ?_⟩) fun j e hj he => absurd he (hkey e (List.mem_of_getElem? hj)))
   refine gD ?_
   refine d_fin ?_
   refine gW ?_
   refine g_l1 rfl rfl (hS.b 0 rfl) (v := sv r.ref) (rc_18 r) ?_
   refine g_cl rfl rfl (b_newSb hbr (hg.in hS) fun bz w1 h' => ?_)
   replace hS := hS.call0.2 _ _ h'
   clear h'
   replace hS : St w0 (fun _ => False) w1 (([cel b3 (rc r) 40, cel bT (u4 x ++ [.map (some bm)]) 45, obj bm (.map ⟨tE Y⟩ Y.length), ows (sbR 109) Y, cel b5 (u4 y) 24] ++ B) ++ [cel bz [sv r.ref, .slice none 0 0] 109] ++ [rowR (.slice none 0 0) []]) := by rw [List.append_assoc]; exact hS
   replace hS := hS.front
   rw [← List.cons_append] at hS
   replace hS := hS.front
   replace hS : St w0 (fun _ => False) w1 ([cel bz [sv r.ref, .slice none 0 0] 109, rowR (.slice none 0 0) []] ++ ([cel b3 (rc r) 40, cel bT (u4 x ++ [.map (some bm)]) 45, obj bm (.map ⟨tE Y⟩ Y.length), ows (sbR 109) Y, cel b5 (u4 y) 24] ++ B)) := hS
   refine gW ?_
   refine g_lm rfl rfl (hS.b 2 rfl) (Nat.le_of_eq (by rw [rc_len])) ?_
   rw [List.drop_zero, List.take_of_length_le (Nat.le_of_eq (rc_len _))]
   have hF := hS.frame
   refine g_cl rfl rfl (b_ApplySb (fun h => gl_foot hg hS h) hF.1 hne rfl hb rfl rfl tail1 (Nat.zero_lt_succ _) fun gn v2 w2 h' => ?_)
   replace hS := hF.2 _ _ h'
   clear h' hF
   replace hS : St w0 (fun _ => False) w2 ([cel bz [sv r.ref, v2] 109, rowR v2 [r], cel b3 (rc r) 40, cel bT (u4 x ++ [.map (some bm)]) 45, obj bm (.map ⟨tE Y⟩ Y.length), ows (sbR 109) Y, cel b5 (u4 y) 24] ++ B) := hS
   refine gW ?_
   refine g_l1 rfl rfl (hS.b 3 rfl) (v := .map (some bm)) (u4_16 hx _) ?_
   refine gW ?_
   refine g_dr mixed ?_
   replace hS := hS.drew
   refine gD ?_
   refine d_l1 rfl rfl rfl (hS.b 3 rfl) (v := .map (some bm)) (u4_16 hx _) ?_
   refine gD ?_
   refine d_l1 rfl rfl rfl (hS.b 2 rfl) (v := sv r.ref) (rc_18 r) ?_
   refine d_lm rfl rfl rfl (hS.b 6 rfl) (Nat.le_of_eq (u16 hyl).symm) ?_
   rw [List.drop_zero, List.take_of_length_le (Nat.le_of_eq (u16 hyl))]
   refine gD ?_
   refine d_e0 rfl rfl (ef_st hS 3 rfl rfl rfl (u16 hyl) (by rw [List.length_append, lx]; exact Nat.le_add_right 16 _) (u4_one _) fun w2 hS => ?_)
   replace hS := hS.ceq (l' := u4 y ++ [.map (some bm)]) 3 rfl (spl_0 hx hyl _)
   refine ⟨rc_1 rfl rfl rfl rfl (hS.b 2 rfl) (rc_18 r) rc_0, ?_⟩
   refine d_e rfl rfl (ef_me (es := tE Y) (kl_str Tryz.underlying9) hS 4 rfl rfl rfl ⟨_, rfl⟩ tE_key (fun _ w2 hS => ⟨rc_0, ?_⟩) fun j e hj he => absurd he (hkey e (List.mem_of_getElem? hj)))
   refine gD ?_
   have hlE : (tE Y).length = Y.length := by unfold tE; rw [List.length_mapIdx]
   refine d_e0 rfl rfl (ef_es (n := Y.length) (j := Y.length) (e := ⟨sv r.ref, .pointer none, Y.length⟩) hS 4 rfl rfl rfl rfl (by rw [List.getElem?_append_right (by omega), hlE, Nat.sub_self]; rfl) rfl (fun k e' hk he' => ?_) fun w2 hS => ⟨rc_0, ?_⟩)
   ·rw [List.getElem?_append_left (by omega)] at he'
    have := tE_idx he'
    omega
   refine d_fin ?_
   have es : (tE Y ++ [(⟨sv r.ref, .pointer none, Y.length⟩ : MapEntry)]).set Y.length (⟨sv r.ref, dp bz, Y.length⟩ : MapEntry) = tE (Y ++ [⟨bz, v2, r.ref, [r]⟩]) := by
    rw [tE_app, List.set_append_right _ _ (by omega), hlE, Nat.sub_self]
    rfl
   replace hS := hS.merge 0 1 rfl rfl (by decide)
   replace hS : St w0 (fun _ => False) w2 (ows (sbR 109) Y :: sbR 109 ⟨bz, v2, r.ref, [r]⟩ :: ([cel bT (u4 y ++ [.map (some bm)]) 45, obj bm (.map ⟨(tE Y ++ [(⟨sv r.ref, .pointer none, Y.length⟩ : MapEntry)]).set Y.length (⟨sv r.ref, dp bz, Y.length⟩ : MapEntry)⟩ (Y.length + 1))] ++ B)) := St.selB (A := [_, _, _, _, _, _, _]) (B := B) hS [5, 0, 3, 4] rfl rfl
   rw [es] at hS
   replace hS := St.ows_app hS
   replace hS := St.selB (A := [_, _, _]) (B := B) hS [1, 2, 0] rfl rfl
   refine gW ?_
   refine g_ret (q_1 rfl (h2 bm bz v2 _ ?_))
   have el : (Y ++ [(⟨bz, v2, r.ref, [r]⟩ : Sb)]).length = Y.length + 1 := by simp
   show St w0 (fun _ => False) _ ([cel bT (u4 y ++ [.map (some bm)]) 45, obj bm (.map ⟨tE (Y ++ [⟨bz, v2, r.ref, [r]⟩])⟩ (Y ++ [(⟨bz, v2, r.ref, [r]⟩ : Sb)]).length), ows (sbR 109) (Y ++ [⟨bz, v2, r.ref, [r]⟩])] ++ B)
   rw [el]
   exact hS
 | some q =>
  obtain ⟨Y1, z, Y2⟩ := q
  obtain ⟨rfl, hzs, hn1, hn2, hdot, hlate, hsort, hzl⟩ : _ = Y1 ++ z :: Y2 ∧ _ := hsp
  cases mo with
  | none =>
   obtain ⟨hY0, hS⟩ := hS.cond (r := emp) 2 rfl
   exact absurd hY0 (by simp)
  | some bm =>
   replace hS : St w0 (fun _ => False) _ ([cel b3 (rc r) 40, cel bT (u4 x ++ [.map (some bm)]) 45, obj bm (.map ⟨tE (Y1 ++ z :: Y2)⟩ (Y1 ++ z :: Y2).length), ows (sbR 109) (Y1 ++ z :: Y2), cel b5 (u4 y) 24] ++ B) := hS
   have hval : ∀ e ∈ tE (Y1 ++ z :: Y2), e.key = sv r.ref → e.val = dp z.b := fun e he hk => by
    obtain ⟨i, hi, rfl⟩ := tE_get he
    have e1 := sv_inj hk
    have hm := List.getElem_mem hi
    rcases List.mem_append.1 hm with h | h
    ·exact absurd e1 (hn1 _ h)
    ·rcases List.mem_cons.1 h with h | h
     ·show dp _ = dp _
      rw [h]
     ·exact absurd e1 (hn2 _ h)
   have hin : ∃ e ∈ tE (Y1 ++ z :: Y2), e.key = sv r.ref := ⟨_, tE_at _ (i := Y1.length) (by simp), by simp [hzs]⟩
   refine d_e rfl rfl (ef_mlk (kl_str Tryz.underlying9) (hS.ok 2 _ rfl) rfl rfl ⟨_, rfl⟩ tE_key (fun hne => by obtain ⟨e, he, hk⟩ := hin; exact absurd hk (hne e he)) fun j e hj he => ⟨rc_0, ?_⟩)
   rw [hval e (List.mem_of_getElem? hj) he]
   clear hj he
   refine gD ?_
   refine d_fin ?_
   replace hS := St.selB (A := [_, _, _, _, _]) (B := B) hS [3, 0, 1, 2, 4] rfl rfl
   replace hS := St.ows_split Y1 z Y2 hS
   replace hS : St w0 (fun _ => False) _ ([ows (sbR 109) Y1, (cel z.b [sv z.s, z.v] 109).and (rowR z.v z.l), ows (sbR 109) Y2, cel b3 (rc r) 40, cel bT (u4 x ++ [.map (some bm)]) 45, obj bm (.map ⟨tE (Y1 ++ z :: Y2)⟩ (Y1 ++ z :: Y2).length), cel b5 (u4 y) 24] ++ B) := hS
   replace hS := (hS.split 1 rfl).front
   replace hS : St w0 (fun _ => False) _ ([rowR z.v z.l, ows (sbR 109) Y1, cel z.b [sv z.s, z.v] 109, ows (sbR 109) Y2, cel b3 (rc r) 40, cel bT (u4 x ++ [.map (some bm)]) 45, obj bm (.map ⟨tE (Y1 ++ z :: Y2)⟩ (Y1 ++ z :: Y2).length), cel b5 (u4 y) 24] ++ B) := hS
   replace hS : St w0 (fun _ => False) _ ([cel z.b [sv z.s, z.v] 109, rowR z.v z.l] ++ ([ows (sbR 109) Y1, ows (sbR 109) Y2, cel b3 (rc r) 40, cel bT (u4 x ++ [.map (some bm)]) 45, obj bm (.map ⟨tE (Y1 ++ z :: Y2)⟩ (Y1 ++ z :: Y2).length), cel b5 (u4 y) 24] ++ B)) := St.selB (A := [_, _, _, _, _, _, _, _]) (B := B) hS [2, 0, 1, 3, 4, 5, 6, 7] rfl rfl
   refine gW ?_
   refine g_lm rfl rfl (hS.b 4 rfl) (Nat.le_of_eq (by rw [rc_len])) ?_
   rw [List.drop_zero, List.take_of_length_le (Nat.le_of_eq (rc_len _))]
   have hF := hS.frame
   refine g_cl rfl rfl (b_ApplySb (fun h => gl_foot hg hS h) hF.1 (by rw [hzs]; exact hne) hzs.symm hb hdot hlate hsort hzl fun gn v2 w2 h' => ?_)
   replace hS := hF.2 _ _ h'
   clear h' hF
   replace hS : St w0 (fun _ => False) w2 ([cel z.b [sv z.s, v2] 109, rowR v2 (stay r z.l ++ [r]), ows (sbR 109) Y1, ows (sbR 109) Y2, cel b3 (rc r) 40, cel bT (u4 x ++ [.map (some bm)]) 45, obj bm (.map ⟨tE (Y1 ++ z :: Y2)⟩ (Y1 ++ z :: Y2).length), cel b5 (u4 y) 24] ++ B) := hS
   refine gW ?_
   refine g_l1 rfl rfl (hS.b 5 rfl) (v := .map (some bm)) (u4_16 hx _) ?_
   refine gW ?_
   refine g_dr mixed ?_
   replace hS := hS.drew
   refine gD ?_
   refine d_l1 rfl rfl rfl (hS.b 5 rfl) (v := .map (some bm)) (u4_16 hx _) ?_
   refine gD ?_
   refine d_l1 rfl rfl rfl (hS.b 4 rfl) (v := sv r.ref) (rc_18 r) ?_
   refine d_lm rfl rfl rfl (hS.b 7 rfl) (Nat.le_of_eq (u16 hyl).symm) ?_
   rw [List.drop_zero, List.take_of_length_le (Nat.le_of_eq (u16 hyl))]
   refine gD ?_
   refine d_e0 rfl rfl (ef_st hS 5 rfl rfl rfl (u16 hyl) (by rw [List.length_append, lx]; exact Nat.le_add_right 16 _) (u4_one _) fun w2 hS => ?_)
   replace hS := hS.ceq (l' := u4 y ++ [.map (some bm)]) 5 rfl (spl_0 hx hyl _)
   refine ⟨rc_1 rfl rfl rfl rfl (hS.b 4 rfl) (rc_18 r) rc_0, ?_⟩
   refine d_e rfl rfl (ef_me (es := tE (Y1 ++ z :: Y2)) (kl_str Tryz.underlying9) hS 6 rfl rfl rfl ⟨_, rfl⟩ tE_key (fun hne => by obtain ⟨e, he, hk⟩ := hin; exact absurd hk (hne e he)) fun j e hj he w2 hS => ⟨rc_0, ?_⟩)
   refine gD ?_
   refine d_e0 rfl rfl (ef_es (n := e.born) (j := j) (e := e) hS 6 rfl rfl rfl rfl hj rfl (fun k e' hk he' => ?_) fun w2 hS => ⟨rc_0, ?_⟩)
   ·have h1 := tE_idx he'
    have h2 := tE_idx hj
    omega
   refine d_fin ?_
   have es : (tE (Y1 ++ z :: Y2)).set j ⟨e.key, dp z.b, e.born⟩ = tE (Y1 ++ ⟨z.b, v2, z.s, stay r z.l ++ [r]⟩ :: Y2) := by
    refine Eq.trans ?_ (tE_upd Y1 Y2 (z := z) (z' := ⟨z.b, v2, z.s, stay r z.l ++ [r]⟩) rfl rfl).symm
    have e0 := hval e (List.mem_of_getElem? hj) he
    obtain ⟨hjl, hje⟩ := List.getElem?_eq_some_iff.1 hj
    have : (⟨e.key, dp z.b, e.born⟩ : MapEntry) = (tE (Y1 ++ z :: Y2))[j] := by rw [hje, ← e0]
    rw [this, List.set_getElem_self]
   replace hS := hS.merge 0 1 rfl rfl (by decide)
   replace hS : St w0 (fun _ => False) w2 (ows (sbR 109) Y1 :: sbR 109 ⟨z.b, v2, z.s, stay r z.l ++ [r]⟩ :: ows (sbR 109) Y2 :: ([cel bT (u4 y ++ [.map (some bm)]) 45, obj bm (.map ⟨(tE (Y1 ++ z :: Y2)).set j ⟨e.key, dp z.b, e.born⟩⟩ (Y1 ++ z :: Y2).length)] ++ B)) := St.selB (A := [_, _, _, _, _, _, _, _]) (B := B) hS [2, 0, 3, 5, 6] rfl rfl
   rw [es] at hS
   replace hS := St.ows_join _ _ _ hS
   replace hS := St.selB (A := [_, _, _]) (B := B) hS [1, 2, 0] rfl rfl
   refine gW ?_
   refine g_ret (q_1 rfl (h2 bm 0 v2 _ ?_))
   have el : (Y1 ++ z :: Y2).length = (Y1 ++ (⟨z.b, v2, z.s, stay r z.l ++ [r]⟩ : Sb) :: Y2).length := by simp
   rw [el] at hS
   exact hS
end
theorem perm_lift {α β : Type} {f : α → β} : ∀ {a b : List β}, a.Perm b → ∀ l : List α, l.map f = a → ∃ m, l.Perm m ∧ m.map f = b := by
 intro a b h
 induction h with
 | nil => intro l hl; exact ⟨l, List.Perm.refl _, hl⟩
 | cons x _ ih =>
  intro l hl
  cases l with
  | nil => cases hl
  | cons y l =>
   rw [List.map_cons] at hl
   obtain ⟨h1, h2⟩ := List.cons.inj hl
   obtain ⟨m, hm, e⟩ := ih l h2
   exact ⟨y :: m, hm.cons y, by rw [List.map_cons, h1, e]⟩
 | swap x y l' =>
  intro l hl
  match l, hl with
  | a :: b :: l, hl =>
   rw [List.map_cons, List.map_cons] at hl
   obtain ⟨h1, h2⟩ := List.cons.inj hl
   obtain ⟨h3, h4⟩ := List.cons.inj h2
   exact ⟨b :: a :: l, List.Perm.swap _ _ _, by rw [List.map_cons, List.map_cons, h1, h3, h4]⟩
 | trans _ _ ih1 ih2 =>
  intro l hl
  obtain ⟨m, hm, e⟩ := ih1 l hl
  obtain ⟨m2, hm2, e2⟩ := ih2 m e
  exact ⟨m2, hm.trans hm2, e2⟩
theorem TabV.ofS {w0 w : World} {S0 : Nat → Prop} {B : List Res} {bT bm : Nat} {x : List Nat} {Y0 Y : List Sb} (hp : Y0.Perm Y) (hS : St w0 S0 w (TabS bT (some bm) x Y0 ++ B)) : TabV bT bm x Y w :=
 ⟨⟨_, (hS.b 0 rfl).r⟩, ⟨Y0, hp, hS.ok 1 _ rfl⟩, fun z hz => sb_v hS (i := 2) rfl z (hp.mem_iff.2 hz)⟩
section
variable {w w0 : World} {S0 : Nat → Prop} {L B : List Res} {K : Value → World → Prop} {s : Bs} {E0 E1 : Nat} {bT bm : Nat} {x : List Nat} {Y : List Sb}
set_option maxHeartbeats 1000000 in
theorem b_CopySb {z : Sb} (hv : SbV z w) (hne : z.s ≠ []) (hn : z.l.length < 2000000) (h : ∀ b v' w', St w (fun _ => False) w' [cel b [sv z.s, v'] 109, rowR v' z.l] → K (dp b) w') : CK Tryz.prog 49 [dp z.b] w K := by
 have hS := St.nil w (fun _ => False)
 refine call_k Tryz.func49 k49 Tryz.ntmps49 (Nat.le_of_ble_eq_true rfl) ?_
 refine gW ?_
 refine g_cl rfl rfl (b_noneSb hv hne ?_)
 refine gW ?_
 obtain ⟨⟨E, hb⟩, E', hr⟩ := hv
 refine g_dr mixed ?_
 replace hS := hS.drew
 have kp : ∀ {L : List Res} {w' : World}, St w (fun _ => False) w' L → Blr w' z.b [sv z.s, z.v] E := fun hS => hb.same (hS.fr.kept _ hb.lt fun h => h)
 refine gD ?_
 refine d_l1r rfl rfl rfl (kp hS) (v := sv z.s) rfl ?_
 refine gD ?_
 refine d_l1r rfl rfl rfl (kp hS) (v := z.v) rfl ?_
 refine d_cl rfl rfl rfl (b_CloneR rfl hn (hr.same fun b hb => hS.fr.kept b (hr.lt b hb) fun h => h) fun v1 w1 h' => ?_)
 replace hS := hS.call0.2 _ _ h'
 clear h'
 obtain ⟨a1, c1, rfl⟩ := hS.rlen 0 rfl
 refine ⟨rc_1r rfl rfl rfl rfl (kp hS) rfl rc_0, ?_⟩
 refine gD ?_
 refine d_e rfl rfl (ef_bx hS rfl fun b2 w2 hS => ⟨rc_0, ?_⟩)
 replace hS : St w (fun _ => False) w2 [rowR (.slice a1 z.l.length c1) z.l, cel b2 [sv z.s, .slice a1 z.l.length c1] 109] := hS
 refine gD ?_
 refine d_fin ?_
 refine gW ?_
 exact g_ret (q_1 rfl (h _ _ _ (hS.sel [1, 0] rfl rfl)))
set_option maxHeartbeats 2000000 in
theorem b_CopyT (hO : TabOk Y) (hv : TabV bT bm x Y w) (hx : x.length = 16) (h : ∀ bC bm2 Yc Yd w', Yc.Perm Yd → gps Yd = gps Y → St w (fun _ => False) w' (TabS bC (some bm2) x Yc) → K (dp bC) w') : CK Tryz.prog 18 [dp bT] w K := by
 have hS := St.nil w (fun _ => False)
 have lx : (u4 x).length = 16 := by rw [u4_len, hx]
 obtain ⟨⟨E, hb⟩, ⟨Y0, hp0, hm⟩, hz⟩ := hv
 have hl0 := hp0.length_eq
 have hzz : ∀ z ∈ Y0, z ∈ Y := fun z hz => hp0.mem_iff.1 hz
 have hYn0 : Y0.length < 400000 := by have := hO.n; omega
 have hm' : ∀ {L : List Res} {w' : World}, St w (fun _ => False) w' L → w'.heap[bm]? = some (.map ⟨tE Y0⟩ Y0.length) := fun hS => (hS.fr.kept _ (Array.getElem?_eq_some_iff.1 hm).1 fun h => h).trans hm
 have kb : ∀ {L : List Res} {w' : World}, St w (fun _ => False) w' L → Blr w' bT (u4 x ++ [.map (some bm)]) E := fun hS => hb.same (hS.fr.kept _ hb.lt fun h => h)
 refine call_k Tryz.func18 k18 Tryz.ntmps18 (Nat.le_of_ble_eq_true rfl) ?_
 refine gW ?_
 refine g_lmr rfl rfl hb (by rw [List.length_append, lx]; exact Nat.le_add_right 16 _) ?_
 rw [u4_h16 hx]
 refine g_ef rfl (ef_mkm hS fun m2 w1 hS => ?_)
 refine g_qt rfl (qt_bd (out := u4 x ++ [.map (some m2)]) (fill_tab hx rfl rfl rfl) _) ?_
 refine g_ef rfl (ef_bx hS rfl fun bC w1 hS => ?_)
 replace hS := St.ows_nil (sbR 109) hS
 replace hS : St w (fun _ => False) w1 [cel bC (u4 x ++ [.map (some m2)]) 45, obj m2 (.map ⟨tE []⟩ 0), ows (sbR 109) []] := hS.sel [2, 1, 0] rfl rfl
 refine gW ?_
 refine g_l1r rfl rfl (kb hS) (v := .map (some bm)) (u4_16 hx _) ?_
 refine g_ef rfl (ef_mrg hS (hm' hS) rfl fun bi w1 hS => ?_)
 refine gW ?_
 refine g_lp (ι := Array Nat × List Sb) (fun _ => [(3, dp bC), (19, .pointer (some ⟨bi, 0, none⟩))])
  (fun y w' => y.1.toList.Nodup ∧ (∀ k ∈ y.1.toList, k < Y0.length) ∧ y.1.size + (leftOf ⟨tE Y0⟩ y.1).size ≤ Y0.length ∧ gps y.2 = gps (tldS Y0 y.1) ∧ St w (fun _ => False) w' [cel bC (u4 x ++ [Value.map (some m2)]) 45, obj m2 (.map ⟨tE y.2⟩ y.2.length), ows (sbR 109) y.2, obj bi (.mapIter (some bm) Y0.length y.1 Y0.length)]) (fun y => (leftOf ⟨tE Y0⟩ y.1).size) (#[], [])
  ⟨rfl, rfl, trivial⟩ ⟨List.Pairwise.nil, fun k hk => absurd hk List.not_mem_nil, ?_, rfl, hS⟩ ?_
 ·have : (leftOf ⟨tE Y0⟩ #[]).size ≤ (tE Y0).length := Array.size_filter_le
  have h2 : (tE Y0).length = Y0.length := by unfold tE; rw [List.length_mapIdx]
  show (#[] : Array Nat).size + (leftOf ⟨tE Y0⟩ #[]).size ≤ Y0.length
  rw [show (#[] : Array Nat).size = 0 from rfl]
  omega
 clear hS
 rintro ⟨seen, Yc⟩ w1 ⟨hN, hB, hM, hG, hS⟩
 dsimp only at hN hB hM hG hS ⊢
 refine gW ?_
 refine g_ef rfl (ef_mnx hS 3 rfl rfl (hm' hS) (fun y hy => ?_) (Nat.le_refl _) (fun hz0 => ?_) (fun e hel w2 hS => ?_))
 ·obtain ⟨k, hk, rfl⟩ := tE_get hy
  exact hk
 ·have hp := (tldS_all hN hB hz0).trans hp0
  have hpg : (Yc.map Sb.g).Perm (Y.map Sb.g) := by
   have : Yc.map Sb.g = (tldS Y0 seen).map Sb.g := hG
   rw [this]
   exact hp.map _
  obtain ⟨Yd, hd1, hd2⟩ := perm_lift hpg Yc rfl
  refine gW ?_
  exact g_ret (q_1 rfl (h bC m2 Yc Yd _ hd1 hd2 (hS.sel [0, 1, 2] rfl rfl)))
 ·have hsh := left_shrinks _ _ _ hel
  have hmem := (mem_left hel).1
  obtain ⟨k, hk, rfl, hns⟩ := leftS_get hel
  have hsz : (leftOf ⟨tE Y0⟩ (seen.push k)).size < (leftOf ⟨tE Y0⟩ seen).size := hsh
  have hpush := tldS_push (seen := seen) hk
  have hkY := hzz _ (List.getElem_mem hk)
  have ho := hO.one hkY
  refine gW ?_
  refine g_qt rfl (qt_men (e := ⟨sv Y0[k].s, dp Y0[k].b, k⟩) (seen := seen) rfl (hS.ok 3 _ rfl) (hm' hS) hmem (by rw [show ((⟨tE Y0⟩ : Array MapEntry).toList.map (·.born)) = List.range Y0.length from tE_born Y0]; exact List.nodup_range)) ?_
  refine gW ?_
  refine g_dr mixed ?_
  replace hS := hS.drew
  refine gD ?_
  refine d_l1 rfl rfl rfl (hS.b 0 rfl) (v := .map (some m2)) (u4_16 hx _) ?_
  refine gD ?_
  refine d_cl rfl rfl rfl (b_CopySb ((hz _ hkY).in hS) (hO.s hkY).2 (by omega) fun bz v3 w3 h' => ?_)
  replace hS := hS.call0.2 _ _ h'
  clear h'
  refine ⟨rc_1 rfl rfl rfl rfl (hS.b 0 rfl) (u4_16 hx _) rc_0, ?_⟩
  have hfresh : ∀ e ∈ tE Yc, e.key ≠ sv Y0[k].s := fun e he hkk => by
   obtain ⟨i, hi, rfl⟩ := tE_get he
   have e1 := sv_inj hkk
   have e2 : (gps Yc)[i]'(by rw [gps_len]; exact hi) = Yc[i].g := gps_at Yc hi
   have e3 : Yc[i].g ∈ gps (tldS Y0 seen) := by rw [← hG, ← e2]; exact List.getElem_mem _
   obtain ⟨q, hq, e4⟩ := List.mem_map.1 e3
   unfold tldS at hq
   obtain ⟨j, hj, e5⟩ := List.mem_filterMap.1 hq
   have hjk : j ≠ k := fun e => hns (e ▸ hj)
   obtain ⟨hjl, e6⟩ := List.getElem?_eq_some_iff.1 e5
   have e7 : Y0[j].s = Y0[k].s := by
    rw [e6, ← e1]
    exact congrArg (·.1) e4
   have hnd : (Y0.map (·.s)).Nodup := by
    have hY : (Y.map (·.s)).Nodup := by
     rw [List.nodup_iff_pairwise_ne, List.pairwise_map]
     exact (gps_pw hO.P).imp blt_ne
    exact (hp0.map (·.s)).nodup_iff.2 hY
   exact hjk ((List.getElem_inj (i := j) (j := k) (h₀ := by rw [List.length_map]; exact hjl) (h₁ := by rw [List.length_map]; exact hk) hnd).1 (by rw [List.getElem_map, List.getElem_map]; exact e7))
  refine d_e0 rfl rfl (ef_mup (kl_str Tryz.underlying9) hS 1 rfl rfl rfl rfl ⟨_, rfl⟩ tE_key (fun _ w2 hS => ⟨rc_0, ?_⟩) fun j e hj he => absurd he (hfresh e (List.mem_of_getElem? hj)))
  refine d_fin ?_
  have e1 : tE Yc ++ [⟨sv Y0[k].s, dp bz, Yc.length⟩] = tE (Yc ++ [⟨bz, v3, Y0[k].s, Y0[k].l⟩]) := (tE_app Yc ⟨bz, v3, Y0[k].s, Y0[k].l⟩).symm
  replace hS := hS.merge 4 5 rfl rfl (by decide)
  replace hS : St w (fun _ => False) w2 (ows (sbR 109) Yc :: sbR 109 ⟨bz, v3, Y0[k].s, Y0[k].l⟩ :: _) := hS.sel [2, 4, 0, 1, 3] rfl rfl
  replace hS := St.ows_app hS
  replace hS := hS.sel [1, 2, 0, 3] rfl rfl
  refine gW ?_
  refine g_l (seen.push k, Yc ++ [⟨bz, v3, Y0[k].s, Y0[k].l⟩]) ⟨rfl, rfl, trivial⟩ ⟨?_, ?_, ?_, ?_, ?_⟩ hsz
  ·show (seen.push k).toList.Nodup
   rw [Array.toList_push, List.nodup_append]
   exact ⟨hN, List.pairwise_singleton _ _, fun a ha c hc => by rw [List.mem_singleton.1 hc]; rintro rfl; exact hns ha⟩
  ·intro y hy
   rw [Array.toList_push, List.mem_append] at hy
   rcases hy with hy | hy
   ·exact hB y hy
   ·rw [List.mem_singleton.1 hy]; exact hk
  ·show (seen.push k).size + (leftOf ⟨tE Y0⟩ (seen.push k)).size ≤ Y0.length
   rw [Array.size_push]; omega
  ·dsimp only
   rw [hpush]
   unfold gps at hG ⊢
   rw [List.map_append, List.map_append, hG]
   rfl
  ·dsimp only
   rw [← e1, List.length_append]
   exact hS
/-! of no table -/
theorem n_Apply (r : Rec) (h : ∀ w', St w (fun _ => False) w' [] → K (.int .i64 1) w') : CK Tryz.prog 11 [.pointer none, .agg ⟨rc r⟩] w K := by
 have hS := St.nil w (fun _ => False)
 refine call_k Tryz.func11 k11 Tryz.ntmps11 (Nat.le_of_ble_eq_true rfl) ?_
 refine gW ?_
 refine g_ef rfl (ef_bx hS rfl fun b3 w1 hS => ?_)
 refine gW ?_
 exact g_ret (q_1 rfl (h _ (hS.sel [] rfl rfl)))
theorem n_Vec (h : ∀ w', St w (fun _ => False) w' [] → K (.agg ⟨u4 (List.replicate 16 0)⟩) w') : CK Tryz.prog 13 [.pointer none] w K := by
 have hS := St.nil w (fun _ => False)
 refine call_k Tryz.func13 k13 Tryz.ntmps13 (Nat.le_of_ble_eq_true rfl) ?_
 refine gW ?_
 refine g_ef rfl (ef_al hS fun b2 w1 hS => ?_)
 refine gW ?_
 refine g_ef0 rfl (ef_st hS 0 rfl rfl rfl rfl (by decide) rfl fun w1 hS => ?_)
 replace hS := hS.ceq (l' := u4 (List.replicate 16 0)) 0 rfl rfl
 refine gW ?_
 exact g_ret (q_c1 (n := 16) rfl (by kernel_rfl) (hS.b 0 rfl) (by decide) (h _ (hS.sel [] rfl rfl)))
theorem n_Refs (h : ∀ w', St w (fun _ => False) w' [] → K (.slice none 0 0) w') : CK Tryz.prog 21 [.pointer none] w K := by
 have hS := St.nil w (fun _ => False)
 refine call_k Tryz.func21 k21 Tryz.ntmps21 (Nat.le_of_ble_eq_true rfl) ?_
 refine gW ?_
 exact g_ret (q_1 rfl (h _ hS))
theorem n_of (h : K (.pointer none) w) : CK Tryz.prog 47 [.pointer none, sv s] w K := by
 refine call_k Tryz.func47 k47 Tryz.ntmps47 (Nat.le_of_ble_eq_true rfl) ?_
 refine gW ?_
 exact g_ret (q_1 rfl h)
theorem n_Sib (h : ∀ w', St w (fun _ => False) w' [] → K (.slice none 0 0) w') : CK Tryz.prog 16 [.pointer none, sv s] w K := by
 refine call_k Tryz.func16 k16 Tryz.ntmps16 (Nat.le_of_ble_eq_true rfl) ?_
 refine gW ?_
 refine g_cl rfl rfl (n_of ?_)
 refine gW ?_
 refine g_cl rfl rfl (b_AllN1 fun w1 hS => ?_)
 refine gW ?_
 exact g_ret (q_1 rfl (h _ (hS.sel [] rfl rfl)))
theorem n_Tips (h : ∀ v' w', St w (fun _ => False) w' [rowI v' []] → K v' w') : CK Tryz.prog 17 [.pointer none, .pointer none, sv s] w K := by
 refine call_k Tryz.func17 k17 Tryz.ntmps17 (Nat.le_of_ble_eq_true rfl) ?_
 refine gW ?_
 refine g_cl rfl rfl (n_of ?_)
 refine gW ?_
 refine g_cl rfl rfl (b_TipsG (l := []) (Nat.zero_lt_succ _) (fun {K} h => b_AllN1 fun w' hS => h _ _ hS) fun v1 w1 hS => ?_)
 refine gW ?_
 refine g_cl rfl rfl (b_SurvN (tips := []) (Nat.zero_lt_succ _) (Ow.rd (hS.ok 0 _ rfl)) fun v2 w2 h' => ?_)
 replace hS := hS.call0.2 _ _ h'
 refine gW ?_
 exact g_ret (q_1 rfl (h _ _ (hS.sel [1] rfl rfl)))
theorem n_Copy (h : K (.pointer none) w) : CK Tryz.prog 18 [.pointer none] w K := by
 refine call_k Tryz.func18 k18 Tryz.ntmps18 (Nat.le_of_ble_eq_true rfl) ?_
 refine gW ?_
 exact g_ret (q_1 rfl h)
theorem n_each (h : ∀ b w', St w (fun _ => False) w' [cel b [.pointer none] 27] → K (.func (.func 80) ⟨[]⟩ ⟨[dp b]⟩) w') : CK Tryz.prog 43 [.pointer none] w K := by
 have hS := St.nil w (fun _ => False)
 refine call_k Tryz.func43 k43 Tryz.ntmps43 (Nat.le_of_ble_eq_true rfl) ?_
 refine gW ?_
 refine g_ef rfl (ef_bx hS rfl fun b1 w1 hS => ?_)
 replace hS : St w (fun _ => False) w1 [cel b1 [.pointer none] 27] := hS
 refine gW ?_
 exact g_ret (q_1 rfl (h _ _ hS))
theorem dn_each {b1 l i : Nat} (hS : St w0 S0 w L) (hi : L[i]? = some (cel b1 [.pointer none] 27)) (he : ∀ w', St w0 S0 w' L → K (.tuple ⟨[]⟩) w') : CK Tryz.prog 80 [.func (.yield l) ⟨[]⟩ ⟨[]⟩, dp b1] w K := by
 refine call_k Tryz.func80 k80 Tryz.ntmps80 (Nat.le_of_ble_eq_true rfl) ?_
 refine gW ?_
 refine g_l1 rfl rfl (hS.b i hi) rfl ?_
 refine g_cl rfl rfl (n_Refs fun w1 h' => ?_)
 replace hS := hS.call0.2 _ _ h'
 rw [List.append_nil] at hS
 refine gW ?_
 refine g_lp (ι := Unit) (fun _ => [(7, .int .i64 0), (8, .int .i64 0)]) (fun _ w' => St w0 S0 w' L) (fun _ => 0) () ⟨rfl, rfl, trivial⟩ hS ?_
 clear hS
 rintro _ w1 hS
 refine gW ?_
 exact q_n (he _ hS)
theorem n_All (h : ∀ w', St w (fun _ => False) w' [] → K (.slice none 0 0) w') : CK Tryz.prog 12 [.pointer none] w K := by
 have hS := St.nil w (fun _ => False)
 refine call_k Tryz.func12 k12 Tryz.ntmps12 (Nat.le_of_ble_eq_true rfl) ?_
 refine gW ?_
 refine g_ef rfl (ef_al hS fun b3 w1 hS => ?_)
 refine gW ?_
 refine g_cl rfl rfl (n_each fun b1 w1 h' => ?_)
 replace hS := hS.call0.2 _ _ h'
 clear h'
 replace hS : St w (fun _ => False) w1 [cel b3 [.slice none 0 0] 25, cel b1 [.pointer none] 27] := hS
 refine g_r0 ?_
 refine g_atd 1 [(3, dp b3)] (fun D1 w' => ∃ dB, D1 = [⟨.collected dB, #[]⟩] ∧ St w (fun _ => False) w' [cel b3 [.slice none 0 0] 25, obj dB (.deferred (some []))]) rfl ?_ ?_
 ·refine gW ?_
  refine g_wkc (T' := [(7, .func (.func 80) ⟨[]⟩ ⟨[dp b1]⟩), (3, dp b3)]) ⟨rfl, rfl, trivial⟩ ?_
  refine g_rf (cap := [dp b1]) (first := []) hS rfl (callFunc_of Tryz.func80 rfl rfl) fun l dB w2 hS => ?_
  refine dn_each (i := 1) hS rfl fun w2 hS => ?_
  refine ⟨_, 3, _, _, hS, rfl, (fun h => nomatch h), fun w2 hS => ?_⟩
  exact g_b (g_jd ⟨rfl, trivial⟩ ⟨dB, rfl, hS.sel [0, 2] rfl rfl⟩)
 ·clear hS
  rintro T D1 w1 hT ⟨dB, rfl, hS⟩
  refine g_wkc hT ?_
  refine gW ?_
  refine g_l1 rfl rfl (hS.b  0 rfl) rfl ?_
  refine gW ?_
  exact g_ret (q_dr hS 1 rfl fun w hS => q_1 rfl (h _ (hS.sel [] rfl rfl)))
theorem n_Alive (h : ∀ v' w', St w (fun _ => False) w' [rowI v' []] → K v' w') : CK Tryz.prog 15 [.pointer none] w K := by
 have hS := St.nil w (fun _ => False)
 refine call_k Tryz.func15 k15 Tryz.ntmps15 (Nat.le_of_ble_eq_true rfl) ?_
 refine gW ?_
 refine g_ef rfl (ef_al hS fun b3 w1 hS => ?_)
 refine gW ?_
 refine g_cl rfl rfl (n_each fun b1 w1 h' => ?_)
 replace hS := hS.call0.2 _ _ h'
 clear h'
 replace hS : St w (fun _ => False) w1 [cel b3 [.slice none 0 0] 51, cel b1 [.pointer none] 27] := hS
 refine g_r0 ?_
 refine g_atd 1 [(3, dp b3)] (fun D1 w' => ∃ dB, D1 = [⟨.collected dB, #[]⟩] ∧ St w (fun _ => False) w' [cel b3 [.slice none 0 0] 51, obj dB (.deferred (some []))]) rfl ?_ ?_
 ·refine gW ?_
  refine g_wkc (T' := [(7, .func (.func 80) ⟨[]⟩ ⟨[dp b1]⟩), (3, dp b3)]) ⟨rfl, rfl, trivial⟩ ?_
  refine g_rf (cap := [dp b1]) (first := []) hS rfl (callFunc_of Tryz.func80 rfl rfl) fun l dB w2 hS => ?_
  refine dn_each (i := 1) hS rfl fun w2 hS => ?_
  refine ⟨_, 3, _, _, hS, rfl, (fun h => nomatch h), fun w2 hS => ?_⟩
  exact g_b (g_jd ⟨rfl, trivial⟩ ⟨dB, rfl, hS.sel [0, 2] rfl rfl⟩)
 ·clear hS
  rintro T D1 w1 hT ⟨dB, rfl, hS⟩
  refine g_wkc hT ?_
  refine gW ?_
  refine g_l1 rfl rfl (hS.b  0 rfl) rfl ?_
  refine g_cl rfl rfl (b_Set (E0 := 0) (n := 0) (d := []) rfl (Nat.zero_lt_succ _) (.inl ⟨⟨_, rfl⟩, rfl, rfl⟩) fun v2 w2 h' => ?_)
  replace hS := hS.call0.2 _ _ h'
  refine gW ?_
  exact g_ret (q_dr hS 1 rfl fun w hS => q_1 rfl (h _ _ (hS.sel [2] rfl rfl)))
theorem n_List (hg : Gl w) (h : ∀ v' w', St w (fun _ => False) w' [rowL (v', jnL [])] → K v' w') : CK Tryz.prog 19 [.pointer none, .pointer none] w K := by
 have hS := St.nil w (fun _ => False)
 refine call_k Tryz.func19 k19 Tryz.ntmps19 (Nat.le_of_ble_eq_true rfl) ?_
 refine gW ?_
 refine g_ef rfl (ef_bx hS rfl fun b2 w1 hS => ?_)
 refine g_ef rfl (ef_bx hS rfl fun b3 w1 hS => ?_)
 refine g_ef rfl (ef_al hS fun b4 w1 hS => ?_)
 refine gW ?_
 refine g_ef rfl (ef_al hS fun b5 w1 hS => ?_)
 replace hS : St w (fun _ => False) w1 [cel b2 [.pointer none] 27, cel b3 [.pointer none] 80, cel b4 [.slice none 0 0] 56, cel b5 [.slice none 0 0] 99] := hS
 refine gW ?_
 refine g_l1 rfl rfl (hS.b  0 rfl) rfl ?_
 refine g_cl rfl rfl (n_each fun b1 w1 h' => ?_)
 replace hS := hS.call0.2 _ _ h'
 clear h'
 refine g_r0 ?_
 refine g_atd 1 [(4, dp b4), (5, dp b5)] (fun D1 w' => ∃ dB, D1 = [⟨.collected dB, #[]⟩] ∧ St w (fun _ => False) w' [cel b4 [.slice none 0 0] 56, cel b5 [.slice none 0 0] 99, obj dB (.deferred (some []))]) rfl ?_ ?_
 ·refine gW ?_
  refine g_wkc (T' := [(12, .func (.func 80) ⟨[]⟩ ⟨[dp b1]⟩), (2, dp b2), (3, dp b3), (4, dp b4), (5, dp b5)]) ⟨rfl, rfl, rfl, rfl, rfl, trivial⟩ ?_
  refine g_rf (cap := [dp b1]) (first := []) hS rfl (callFunc_of Tryz.func80 rfl rfl) fun l dB w2 hS => ?_
  refine dn_each (i := 4) hS rfl fun w2 hS => ?_
  refine ⟨_, 6, _, _, hS, rfl, (fun h => nomatch h), fun w2 hS => ?_⟩
  exact g_b (g_jd ⟨rfl, rfl, trivial⟩ ⟨dB, rfl, hS.sel [2, 3, 5] rfl rfl⟩)
 ·clear hS
  rintro T D1 w1 hT ⟨dB, rfl, hS⟩
  refine g_wkc hT ?_
  refine gW ?_
  refine g_l1 rfl rfl (hS.b  1 rfl) rfl ?_
  refine g_cl rfl rfl (b_Join (E0 := 0) (n := 0) (ps := []) rfl (Nat.zero_lt_succ _) (Nat.zero_lt_succ _) (fun y hy => absurd hy List.not_mem_nil) (hg.in hS) (.inl ⟨⟨_, rfl⟩, rfl, rfl⟩) (fun p hp => absurd hp List.not_mem_nil) fun v2 w2 h' => ?_)
  replace hS := hS.call0.2 _ _ h'
  clear h'
  obtain ⟨a6, c6, rfl⟩ := hS.rlen 3 rfl
  refine gW ?_
  by_cases he : jnE [] = 0
  ·rw [show jnE (List.map (·.2) ([] : List Lv1)) = 0 from he, cmv_neq]
   refine gW ?_
   refine g_ef0 rfl (ef_st hS 0 rfl rfl rfl rfl (Nat.le_of_ble_eq_true rfl) rfl fun w1 hS => ?_)
   refine gW ?_
   exact g_ret (q_dr hS 2 rfl fun w hS => q_s1 rfl (by kernel_rfl) (hS.b 0 rfl) rfl (h _ _ (hS.sel [3] rfl rfl)))
  ·have e0 : jnL [] = [] := by
    unfold jnE at he
    unfold jnL
    cases e : joinS [] with
    | none => rfl
    | some d => rw [e] at he; exact absurd rfl he
   rw [e0] at h
   rw [show jnE (List.map (·.2) ([] : List Lv1)) = jnE [] from rfl, cmv_ye he]
   refine gW ?_
   refine g_ef0 rfl (ef_st hS 0 rfl rfl rfl rfl (Nat.le_of_ble_eq_true rfl) rfl fun w1 hS => ?_)
   refine gW ?_
   exact g_ret (q_dr hS 2 rfl fun w hS => q_s1 rfl (by kernel_rfl) (hS.b 0 rfl) (v := .slice none 0 0) rfl (h _ _ ((hS.sel [] rfl rfl).nilrow 59 33)))
end
theorem cut_hit (s t : Bs) (h : (126 : UInt8) ∉ s) : Lib.cut (s ++ 126 :: t) [126] = (s, t, true) := by
 unfold Lib.cut
 rw [Lib.index_one, ib_app s t 126 h, if_pos (by omega)]
 simp
theorem cut_miss (s : Bs) (h : (126 : UInt8) ∉ s) : Lib.cut s [126] = (s, [], false) := by
 unfold Lib.cut
 rw [Lib.index_one, ib_none s 126 h, if_neg (by omega)]
theorem brk_no {s : Bs} (h : brk s = 0) : (126 : UInt8) ∉ s := by
 intro hm
 have h1 := brkF_0 s 8 0 h 1 (by omega) (by omega)
 simp only [rul] at h1
 rw [List.any_eq_false] at h1
 exact h1 126 hm (by decide)
theorem dgv_dig {i : Nat} (h : i < 16) : dgv (dig.getD i 0) = i ∧ isD (dig.getD i 0) = true := by
 have key : ∀ i : Fin 16, dgv (dig.getD i.val 0) = i.val ∧ isD (dig.getD i.val 0) = true := by decide
 exact key ⟨i, h⟩
theorem hex_at : ∀ (id : Bs) (i : Nat) (h : i < id.length), (hex id).getD (2 * i) 0 = dig.getD (id[i].toNat / 16) 0 ∧ (hex id).getD (2 * i + 1) 0 = dig.getD (id[i].toNat % 16) 0
 | c :: id, 0, _ => by constructor <;> rfl
 | c :: id, i + 1, h => by
  have ih := hex_at id i (by simpa using h)
  have e : hex (c :: id) = dig.getD (c.toNat / 16) 0 :: dig.getD (c.toNat % 16) 0 :: hex id := by simp [hex, hx]
  rw [e, show 2 * (i + 1) = 2 * i + 1 + 1 by omega]
  simpa using ih
theorem unhex_hex {id : Bs} (hl : id.length = 32) : unhex (hex id) = some id := by
 unfold unhex
 rw [if_pos]
 ·congr 1
  unfold unh
  refine List.ext_getElem (by simp [hl]) fun i h1 h2 => ?_
  rw [List.getElem_map, List.getElem_range]
  have := hex_at id i h2
  rw [this.1, this.2]
  have hb := id[i].toNat_lt
  rw [(dgv_dig (show id[i].toNat / 16 < 16 by omega)).1, (dgv_dig (show id[i].toNat % 16 < 16 by omega)).1]
  rw [show 16 * (id[i].toNat / 16) + id[i].toNat % 16 = id[i].toNat by omega]
  simp
 ·refine ⟨by rw [hex_len, hl], List.all_eq_true.2 fun x hx => ?_⟩
  unfold hex at hx
  obtain ⟨l, hl, hx⟩ := List.mem_flatten.1 hx
  obtain ⟨c, _, rfl⟩ := List.mem_map.1 hl
  have hb := c.toNat_lt
  have hx : x ∈ [dig.getD (c.toNat / 16) 0, dig.getD (c.toNat % 16) 0] := hx
  rcases List.mem_cons.1 hx with rfl | hx
  ·exact (dgv_dig (by omega)).2
  ·rw [List.mem_singleton.1 hx]
   exact (dgv_dig (by omega)).2
theorem nmE_0 {s : Bs} (h : brk s = 0) : nmE s = 0 := by unfold nmE; rw [if_pos h]
theorem spN_ref {s : Bs} (h : brk s = 0) : spN s = (s, zid, false, 0) := by
 unfold spN
 rw [cut_miss s (brk_no h)]
 simp [nmE_0 h]
theorem unhE_hex (id : Id) : unhE (hex id.1) = 0 := by unfold unhE; rw [unhex_hex id.2]; rfl
theorem unhV_hex (id : Id) : unhV (hex id.1) = id.1 := by unfold unhV; rw [unhex_hex id.2]; rfl
theorem spN_cfl {s : Bs} (h : brk s = 0) (id : Id) : spN (cfl s id) = (s, id.1, true, 0) := by
 unfold spN cfl
 rw [cut_hit s _ (brk_no h)]
 simp [nmE_0 h, unhE_hex, unhV_hex]
theorem ent_nm {s : Bs} (h : brk s = 0) (m : Bool) (id : Id) : ent (nm1 s m id) = (s, m, true) := by
 cases m
 ·simp [ent, nm1, spN_ref h]
 ·simp [ent, nm1, spN_cfl h]
theorem nmL_ent {s : Bs} (h : brk s = 0) (ids : List Id) {x : Li} (hx : x ∈ nmL s ids) : ent x = (s, decide (1 < (iset ids).length), true) := by
 unfold nmL at hx
 obtain ⟨id, _, rfl⟩ := List.mem_map.1 hx
 exact ent_nm h _ _
theorem nmL_chk {s : Bs} (h : brk s = 0) (ids : List Id) : chk (nmL s ids) = true := by
 unfold chk
 simp only [Bool.and_eq_true, List.all_eq_true, Bool.or_eq_true, Bool.not_eq_true', decide_eq_true_eq]
 refine ⟨?_, fun x hx => by rw [nmL_ent h ids hx], fun x hx => ?_⟩
 ·have hs := nmL_sorted s ids
  have nd : (nmL s ids).Nodup := by
   unfold nmL
   have : (iset ids).Nodup := (kset_sorted (fun x : Id => x.1) id_inj ids).imp fun h => h.2
   refine List.Pairwise.map _ (fun a b hab e => hab ?_) this
   exact congrArg Prod.snd e
  rw [List.pairwise_iff_getElem] at hs ⊢
  intro i j hi hj hij
  refine ⟨hs i j hi hj hij, fun e => ?_⟩
  have := nmL_inj s ids _ _ (List.getElem_mem hi) (List.getElem_mem hj) e
  exact (List.pairwise_iff_getElem.1 nd i j hi hj hij) this
 ·rw [nmL_ent h ids hx]
  cases hm : decide (1 < (iset ids).length)
  ·exact .inl rfl
  ·exact .inr fun y hy => .inl (by rw [nmL_ent h ids hy]; exact hm)
abbrev RT := Bs × List Id
def pts (rt : List RT) : List (List Li) := rt.map fun p => nmL p.1 p.2
def okR (rt : List RT) : Prop := (rt.map (·.1)).Nodup ∧ ∀ p ∈ rt, brk p.1 = 0
theorem mem_pts {rt : List RT} {x : Li} : x ∈ (pts rt).flatten ↔ ∃ p ∈ rt, x ∈ nmL p.1 p.2 := by
 unfold pts
 rw [List.mem_flatten]
 constructor
 ·rintro ⟨l, hl, hx⟩
  obtain ⟨p, hp, rfl⟩ := List.mem_map.1 hl
  exact ⟨p, hp, hx⟩
 ·rintro ⟨p, hp, hx⟩
  exact ⟨_, List.mem_map.2 ⟨p, hp, rfl⟩, hx⟩
theorem okR_inj {rt : List RT} (h : okR rt) {p q : RT} (hp : p ∈ rt) (hq : q ∈ rt) (e : p.1 = q.1) : p = q := by
 obtain ⟨i, hi, rfl⟩ := List.getElem_of_mem hp
 obtain ⟨j, hj, rfl⟩ := List.getElem_of_mem hq
 have h1 := h.1
 unfold List.Nodup at h1
 rw [List.pairwise_map, List.pairwise_iff_getElem] at h1
 rcases Nat.lt_trichotomy i j with hij | rfl | hij
 ·exact absurd e (h1 i j hi hj hij)
 ·rfl
 ·exact absurd e.symm (h1 j i hj hi hij)
theorem ent_name {x y : Li} (h : x.1 = y.1) : (ent x).1 = (ent y).1 := by
 unfold ent
 rw [h]
theorem pts_names {rt : List RT} (h : okR rt) : (pts rt).flatten.Pairwise fun x y => x.1 ≠ y.1 := by
 rw [List.pairwise_flatten]
 constructor
 ·intro l hl
  obtain ⟨p, hp, rfl⟩ := List.mem_map.1 hl
  exact (chk_nbr (nmL_chk (h.2 p hp) p.2)).imp fun h => h.2
 ·unfold pts
  rw [List.pairwise_map]
  have h1 := h.1
  unfold List.Nodup at h1
  rw [List.pairwise_map] at h1
  refine List.Pairwise.imp_of_mem (fun {p q} hp hq hne x hx y hy e => hne ?_) h1
  have e1 := ent_name e
  rw [nmL_ent (h.2 p hp) p.2 hx, nmL_ent (h.2 q hq) q.2 hy] at e1
  exact e1
theorem join_mem (rt : List RT) (x : Li) : x ∈ srtN (pts rt).flatten ↔ ∃ p ∈ rt, x ∈ nmL p.1 p.2 := (srtN_perm _).mem_iff.trans mem_pts
theorem join_nbr {rt : List RT} (h : okR rt) : (srtN (pts rt).flatten).Pairwise nbr := by
 have h1 := srtN_sorted (pts rt).flatten
 have h2 : (srtN (pts rt).flatten).Pairwise fun x y => x.1 ≠ y.1 := (List.Perm.pairwise_iff (fun {x y} h => Ne.symm h) (srtN_perm _)).2 (pts_names h)
 exact h1.and h2
theorem join_chk {rt : List RT} (h : okR rt) : chk (srtN (pts rt).flatten) = true := by
 unfold chk
 simp only [Bool.and_eq_true, List.all_eq_true, Bool.or_eq_true, Bool.not_eq_true', decide_eq_true_eq]
 refine ⟨join_nbr h, fun x hx => ?_, fun x hx => ?_⟩
 ·obtain ⟨p, hp, hx⟩ := (join_mem rt x).1 hx
  rw [nmL_ent (h.2 p hp) p.2 hx]
 ·obtain ⟨p, hp, hx⟩ := (join_mem rt x).1 hx
  cases hc : (ent x).2.1
  ·exact .inl rfl
  ·refine .inr fun y hy => ?_
   obtain ⟨q, hq, hy⟩ := (join_mem rt y).1 hy
   by_cases e : (ent y).1 = (ent x).1
   ·left
    rw [nmL_ent (h.2 p hp) p.2 hx, nmL_ent (h.2 q hq) q.2 hy] at e
    have := okR_inj h hq hp e
    subst this
    rw [nmL_ent (h.2 q hq) q.2 hx] at hc
    rw [nmL_ent (h.2 q hq) q.2 hy]
    exact hc
   ·exact .inr e
theorem join_some {rt : List RT} (h : okR rt) : joinS (pts rt) = some (srtN (pts rt).flatten) := by
 have hall : (pts rt).all chk = true := List.all_eq_true.2 fun l hl => by
  obtain ⟨p, hp, rfl⟩ := List.mem_map.1 hl
  exact nmL_chk (h.2 p hp) p.2
 unfold joinS
 rw [if_pos ⟨hall, join_chk h⟩]
def idT (t : UInt8) : Id := ⟨t :: List.replicate 31 0, rfl⟩
def rb1 : Rec := mkR [98] 0 1 [] (by decide) (by decide) (by decide)
def ra2 : Rec := mkR [97] 1 2 [] (by decide) (by decide) (by decide)
def rb3 : Rec := mkR [98] 2 3 [] (by decide) (by decide) (by decide)
def rbx : Rec := mkR [98] 0 1 [1] (by decide) (by decide) (by decide)
def rsp : Rec := mkR [97, 32, 98] 3 1 [] (by decide) (by decide) (by decide)
def rb9 : Rec := mkR [98] 3 1 [2] (by decide) (by decide) (by decide)
def rdl : Rec := mkR [98] 1 0 [1, 1, 1] (by decide) (by decide) (by decide)
def ra0 : Rec := mkR [97] 0 1 [] (by decide) (by decide) (by decide)
def rax : Rec := mkR [97] 1 2 [1] (by decide) (by decide) (by decide)
def x0 : List Nat := List.replicate 16 0
def x1 : List Nat := 1 :: List.replicate 15 0
def x2 : List Nat := 1 :: 1 :: List.replicate 14 0
def x3 : List Nat := 1 :: 1 :: 1 :: List.replicate 13 0
def x4 : List Nat := 1 :: 2 :: 1 :: List.replicate 13 0
def x01 : List Nat := 0 :: 1 :: List.replicate 14 0
def x7 : List Nat := 7 :: List.replicate 15 0
theorem ok_bx : okA x0 rbx = false := by decide
theorem ok_1 : okA x0 rb1 = true ∧ nxt x0 rb1 = x1 := ⟨by decide, by decide⟩
theorem ok_2 : okA x1 ra2 = true ∧ nxt x1 ra2 = x2 := ⟨by decide, by decide⟩
theorem ok_3 : okA x2 rb3 = true ∧ nxt x2 rb3 = x3 := ⟨by decide, by decide⟩
theorem ok_4 : okA x3 rb1 = false := by decide
theorem ok_5 : okA x3 rsp = false := by decide
theorem ok_6 : okA x3 rb9 = false := by decide
theorem ok_7 : okA x3 rdl = true ∧ nxt x3 rdl = x4 := ⟨by decide, by decide⟩
theorem stay_3 : stay rb3 [rb1] ++ [rb3] = [rb1, rb3] := rfl
theorem stay_7 : stay rdl [rb1, rb3] ++ [rdl] = [rdl] := rfl
theorem ld_2 : ldB [ra2] := ⟨by decide, List.pairwise_singleton _ _⟩
theorem ld_3 : ldB [rb1, rb3] := ⟨by decide, by decide⟩
theorem ld_7 : ldB [rdl] := ⟨by decide, List.pairwise_singleton _ _⟩
theorem sib_2 : sibB [97] [ra2] := ⟨ld_2, fun x hx => by rw [List.mem_singleton.1 hx]; rfl, by decide⟩
theorem sib_3 : sibB [98] [rb1, rb3] := ⟨ld_3, fun x hx => by
 rcases List.mem_cons.1 hx with rfl | hx
 ·rfl
 ·rw [List.mem_singleton.1 hx]; rfl, by decide⟩
theorem sib_7 : sibB [98] [rdl] := ⟨ld_7, fun x hx => by rw [List.mem_singleton.1 hx]; rfl, by decide⟩
theorem sp_2 (bz : Nat) (v : Value) : spotB [⟨bz, v, [98], [rb1]⟩] ra2 none := fun z hz => by rw [List.mem_singleton.1 hz]; exact (by decide : ([98] : Bs) ≠ [97])
theorem an_3 : [rb1].any (sameD rb3) = false := by decide
theorem ao_3 : ([rb1].any fun y => outd y rb3) = false := by decide
theorem an_7 : [rb1, rb3].any (sameD rdl) = false := by decide
theorem ao_7 : ([rb1, rb3].any fun y => outd y rdl) = false := by decide
theorem sp_3 (b1 b2 : Nat) (v1 v2 : Value) : spotB [⟨b1, v1, [98], [rb1]⟩, ⟨b2, v2, [97], [ra2]⟩] rb3 (some ([], ⟨b1, v1, [98], [rb1]⟩, [⟨b2, v2, [97], [ra2]⟩])) :=
 ⟨rfl, rfl, (fun y hy => nomatch hy), (fun y hy => by rw [List.mem_singleton.1 hy]; exact (by decide : ([97] : Bs) ≠ [98])), an_3, ao_3, by rw [stay_3]; exact ld_3.2, Nat.le_of_ble_eq_true rfl⟩
theorem sp_7 (b1 b2 : Nat) (v1 v2 : Value) : spotB [⟨b1, v1, [98], [rb1, rb3]⟩, ⟨b2, v2, [97], [ra2]⟩] rdl (some ([], ⟨b1, v1, [98], [rb1, rb3]⟩, [⟨b2, v2, [97], [ra2]⟩])) :=
 ⟨rfl, rfl, (fun y hy => nomatch hy), (fun y hy => by rw [List.mem_singleton.1 hy]; exact (by decide : ([97] : Bs) ≠ [98])), an_7, ao_7, by rw [stay_7]; exact ld_7.2, Nat.le_of_ble_eq_true rfl⟩
theorem ok_two {b1 b2 : Nat} {v1 v2 : Value} {l : List Rec} (h : sibB [98] l) (hl : l ≠ []) (hn : l.length < 100) : TabOk [⟨b2, v2, [97], [ra2]⟩, ⟨b1, v1, [98], l⟩] := by
 refine ⟨⟨fun g hg => ?_, ?_⟩, fun z hz => ?_, ?_⟩
 ·rcases List.mem_cons.1 hg with rfl | hg
  ·exact sib_2
  ·rw [List.mem_singleton.1 hg]; exact h
 ·refine List.pairwise_cons.2 ⟨fun g hg => ?_, List.pairwise_singleton _ _⟩
  rw [List.mem_singleton.1 hg]
  exact (by decide : blt [97] [98] = true)
 ·rcases List.mem_cons.1 hz with rfl | hz
  ·exact fun e => nomatch e
  ·rw [List.mem_singleton.1 hz]; exact hl
 ·show ([ra2] ++ (l ++ [])).length < 400000
  rw [List.append_nil, List.length_append, List.length_singleton]
  omega
theorem is_0 : iset [] = [] := iset_of List.Pairwise.nil fun x => Iff.rfl
theorem is_1 (x : Id) : iset [x] = [x] := iset_of (List.pairwise_singleton _ _) fun x => Iff.rfl
theorem lt_12 : lts (fun x : Id => x.1) (idT 1) (idT 2) := ⟨by decide, by decide⟩
theorem lt_13 : lts (fun x : Id => x.1) (idT 1) (idT 3) := ⟨by decide, by decide⟩
theorem lt_23 : lts (fun x : Id => x.1) (idT 2) (idT 3) := ⟨by decide, by decide⟩
theorem srt_13 : [idT 1, idT 3].Pairwise (lts fun x : Id => x.1) := List.pairwise_cons.2 ⟨fun y hy => by rw [List.mem_singleton.1 hy]; exact lt_13, List.pairwise_singleton _ _⟩
theorem srt_123 : [idT 1, idT 2, idT 3].Pairwise (lts fun x : Id => x.1) := List.pairwise_cons.2 ⟨fun y hy => by
 rcases List.mem_cons.1 hy with rfl | hy
 ·exact lt_12
 ·rw [List.mem_singleton.1 hy]; exact lt_13, List.pairwise_cons.2 ⟨fun y hy => by rw [List.mem_singleton.1 hy]; exact lt_23, List.pairwise_singleton _ _⟩⟩
theorem is_13 : iset [idT 1, idT 3] = [idT 1, idT 3] := iset_of srt_13 fun x => Iff.rfl
theorem is_213 : iset [idT 2, idT 1, idT 3] = [idT 1, idT 2, idT 3] := iset_of srt_123 fun x => by
 simp only [List.mem_cons, List.not_mem_nil, or_false]
 constructor
 ·rintro (h | h | h)
  ·exact .inr (.inl h)
  ·exact .inl h
  ·exact .inr (.inr h)
 ·rintro (h | h | h)
  ·exact .inr (.inl h)
  ·exact .inl h
  ·exact .inr (.inr h)
theorem tip_2 : tipR [ra2] = [idT 2] := is_1 (idT 2)
theorem tip_3 : tipR [rb1, rb3] = [idT 1, idT 3] := is_13
theorem tip_7 : tipR [rdl] = [] := is_0
theorem alv_3 {b1 b2 : Nat} {v1 v2 : Value} : alvT (gps [⟨b2, v2, [97], [ra2]⟩, ⟨b1, v1, [98], [rb1, rb3]⟩]) = [idT 1, idT 2, idT 3] := by
 show iset (tipR [ra2] ++ (tipR [rb1, rb3] ++ [])) = _
 rw [tip_2, tip_3]
 exact is_213
theorem nm_2 : nmL [97] [idT 2] = [([97], idT 2)] := by unfold nmL; rw [is_1]; rfl
theorem nm_3 : nmL [98] [idT 1, idT 3] = [(cfl [98] (idT 1), idT 1), (cfl [98] (idT 3), idT 3)] := by unfold nmL; rw [is_13]; rfl
theorem nm_7 : nmL [98] [] = [] := by unfold nmL; rw [is_0]; rfl
def li2 : Li := ([97], idT 2)
def li1 : Li := (cfl [98] (idT 1), idT 1)
def li3 : Li := (cfl [98] (idT 3), idT 3)
theorem lst_of {rt : List RT} (h : okR rt) {l : List Li} (e : (pts rt).flatten = l) (hs : l.Pairwise fun x y => ble x.1 y.1 = true) : jnL (pts rt) = l := by
 unfold jnL
 rw [join_some h, e]
 refine sorted_unique (key := fun x : Li => x.1) (fun x y hx hy hk => ?_) (srtN_perm l) (srtN_sorted l) hs
 have hn := nbr_inj (join_nbr h)
 rw [e] at hn
 exact hn x y ((srtN_perm l).mem_iff.2 hx) ((srtN_perm l).mem_iff.2 hy) hk
theorem okR_2 (p q : List Id) : okR [([97], p), ([98], q)] := ⟨(by decide : ([[97], [98]] : List Bs).Nodup), fun x hx => by
 rcases List.mem_cons.1 hx with rfl | hx
 ·exact (by decide : brk [97] = 0)
 ·rw [List.mem_singleton.1 hx]; exact (by decide : brk [98] = 0)⟩
theorem lst_3 {b1 b2 : Nat} {v1 v2 : Value} : lstT (gps [⟨b2, v2, [97], [ra2]⟩, ⟨b1, v1, [98], [rb1, rb3]⟩]) = [li2, li1, li3] := by
 show jnL [nmL [97] (tipR [ra2]), nmL [98] (tipR [rb1, rb3])] = _
 rw [tip_2, tip_3]
 refine lst_of (okR_2 [idT 2] [idT 1, idT 3]) ?_ ?_
 ·show nmL [97] [idT 2] ++ (nmL [98] [idT 1, idT 3] ++ []) = _
  rw [nm_2, nm_3]
  rfl
 ·refine List.pairwise_cons.2 ⟨fun y hy => ?_, List.pairwise_cons.2 ⟨fun y hy => ?_, List.pairwise_singleton _ _⟩⟩
  ·rcases List.mem_cons.1 hy with rfl | hy
   ·exact (by decide : ble li2.1 li1.1 = true)
   ·rw [List.mem_singleton.1 hy]; exact (by decide : ble li2.1 li3.1 = true)
  ·rw [List.mem_singleton.1 hy]; exact (by decide : ble li1.1 li3.1 = true)
theorem lst_7 {b1 b2 : Nat} {v1 v2 : Value} : lstT (gps [⟨b2, v2, [97], [ra2]⟩, ⟨b1, v1, [98], [rdl]⟩]) = [li2] := by
 show jnL [nmL [97] (tipR [ra2]), nmL [98] (tipR [rdl])] = _
 rw [tip_2, tip_7]
 refine lst_of (okR_2 [idT 2] []) ?_ (List.pairwise_singleton _ _)
 show nmL [97] [idT 2] ++ (nmL [98] [] ++ []) = _
 rw [nm_2, nm_7]
 rfl
theorem jn_0 : jnL [] = [] := by
 have := lst_of (rt := []) (l := []) ⟨List.Pairwise.nil, fun x hx => nomatch hx⟩ rfl List.Pairwise.nil
 exact this
theorem okT_7 : okT x4 [ra2, rdl] := ⟨⟨fun g hg => by
 rcases List.mem_cons.1 (show g ∈ [([97], [ra2]), ([98], [rdl])] from hg) with rfl | hg
 ·exact sib_2
 ·rw [List.mem_singleton.1 hg]; exact sib_7, List.pairwise_cons.2 ⟨fun g hg => by
  rw [List.mem_singleton.1 (show g ∈ [([98], [rdl])] from hg)]
  exact (by decide : blt [97] [98] = true), List.pairwise_singleton _ _⟩⟩, fun r hr => by
 rcases List.mem_cons.1 hr with rfl | hr
 ·exact ⟨by decide, by decide⟩
 ·rw [List.mem_singleton.1 hr]; exact ⟨by decide, by decide⟩⟩
theorem noT_0 : ¬ okT x0 [ra2, rdl] := fun h => by
 have := (h.2 ra2 List.mem_cons_self).1
 exact absurd this (by decide)
theorem noT_1 : ¬ okT x4 [rb1, ra2] := fun h => by
 have h1 := h.1.2
 have h2 : [(([98] : Bs), [rb1]), ([97], [ra2])].Pairwise (fun x y : Gp => blt x.1 y.1 = true) := h1
 exact absurd ((List.pairwise_cons.1 h2).1 ([97], [ra2]) List.mem_cons_self) (by decide)
theorem noT_2 : ¬ okT x4 [ra2, ra0] := fun h => by
 have h1 : sibB [97] [ra2, ra0] := h.1.1 ([97], [ra2, ra0]) (show _ ∈ [(([97] : Bs), [ra2, ra0])] from List.mem_cons_self)
 exact absurd ((List.pairwise_cons.1 h1.1.2).1 ra0 List.mem_cons_self) (by decide)
theorem noT_3 : ¬ okT x01 [rax] := fun h => absurd (h.2 rax List.mem_cons_self).2 (by decide)
theorem okT_8 : okT x7 [] := ⟨⟨fun g hg => absurd hg List.not_mem_nil, List.Pairwise.nil⟩, fun r hr => absurd hr List.not_mem_nil⟩
theorem lc_tip {l : List Value} {o : Nat} {x : Li} (h : (l.drop o).take 33 = lc x) : (l.drop (o + 1)).take 32 = bys x.2.1 := by
 have h1 := congrArg (List.drop 1) h
 rw [List.drop_take, List.drop_drop] at h1
 exact h1
theorem lc_nm {l : List Value} {o : Nat} {x : Li} (h : (l.drop o).take 33 = lc x) : l[o + 0]? = some (sv x.1) := by
 have h2 := congrArg (fun l : List Value => l[0]?) h
 simp only [List.getElem?_take, List.getElem?_drop] at h2
 rw [if_pos (by decide)] at h2
 exact h2
section
variable {w w0 : World} {S0 : Nat → Prop} {L B : List Res} {K : Value → World → Prop} {s : Bs} {E0 E1 : Nat} {r : Rec} {bT : Nat} {mo : Option Nat} {x : List Nat} {Y : List Sb}
theorem ap_bad (ho : okA x r = false) (hg : Gl w0) (hx : x.length = 16) (hxb : ∀ y ∈ x, y < 4294967296) (hY : Y.length < 400000) (hS : St w0 (fun _ => False) w (TabS bT mo x Y ++ B)) (h : ∀ w', St w0 (fun _ => False) w' (TabS bT mo x Y ++ B) → K (.int .i64 210) w') : CK Tryz.prog 11 [dp bT, .agg ⟨rc r⟩] w K :=
 b_ApplyT none hg hx hxb hY hS (fun _ => h) (fun e => by rw [ho] at e; cases e) (fun e => by rw [ho] at e; cases e)
theorem ap_ok {y : List Nat} (sp : Spot) (ho : okA x r = true ∧ nxt x r = y) (hsp : spotB Y r sp) (hg : Gl w0) (hx : x.length = 16) (hxb : ∀ y ∈ x, y < 4294967296) (hY : Y.length < 400000) (hS : St w0 (fun _ => False) w (TabS bT mo x Y ++ B)) (h : ∀ bm bz v w', St w0 (fun _ => False) w' (TabS bT (some bm) y (updY Y r bz v sp) ++ B) → K (.int .i64 0) w') : CK Tryz.prog 11 [dp bT, .agg ⟨rc r⟩] w K :=
 b_ApplyT sp hg hx hxb hY hS (fun e => by rw [ho.1] at e; cases e) (fun _ => hsp) (fun _ => by rw [ho.2]; exact h)
theorem rd_nil (E sz : Nat) : Rd (.slice none 0 0) E sz 0 [] w := .inl ⟨⟨_, rfl⟩, rfl, rfl⟩
theorem rd_blk {g n E : Nat} {l : List Value} (h : Blr w g l E) (hl : l.length = n) : Rd (.slice (some ⟨g, 0, none⟩) n n) E 1 n l w := .inr ⟨g, 0, n, l, rfl, Nat.le_refl _, by omega, by rw [List.drop_zero, List.take_of_length_le (by omega)], h⟩
theorem tabS_new {b : Nat} (hS : St w0 S0 w [cel b (zx [(16, .int .u32 0), (1, .map none)]) 45]) : St w0 S0 w (TabS b none x0 [] ++ []) := (hS.fact (p := ([] : List Sb) = []) rfl).emp
theorem lxb {x : List Nat} (h : (x.all fun y => decide (y < 4294967296)) = true) : ∀ y ∈ x, y < 4294967296 := fun y hy => of_decide_eq_true (List.all_eq_true.1 h y hy)
set_option maxRecDepth 100000 in
set_option maxHeartbeats 4000000 in
theorem b_aliveT (hg : Gl w) (h : ∀ w', St w (fun _ => False) w' [] → K (.bool true) w') : CK Tryz.prog 22 [] w K := by
 have hS := St.nil w (fun _ => False)
 refine call_k Tryz.func22 k22 Tryz.ntmps22 (Nat.le_of_ble_eq_true rfl) ?_
 refine gW ?_
 refine g_ef rfl (ef_al hS fun b1 w1 hS => ?_)
 replace hS : St w (fun _ => False) w1 (TabS b1 none x0 [] ++ []) := tabS_new hS
 refine gW ?_
 refine g_ef rfl (ef_bl (rs := u4 [1]) hS rfl fun g w1 hS => ?_)
 refine g_cl rfl rfl (c_of (s := [98]) (n := 0) (t := 1) (C := [1]) (by decide) (by decide) (by decide) (rd_blk (hS.b 3 rfl).r rfl) fun w1 h' => ?_)
 replace hS := hS.call0.2 _ _ h'
 clear h'
 replace hS : St w (fun _ => False) w1 (TabS b1 none x0 [] ++ []) := hS.sel [0, 1, 2] rfl rfl
 refine gW ?_
 refine g_cl rfl rfl (ap_bad (r := rbx) ok_bx hg rfl (lxb (by decide)) (by decide) hS fun w1 hS => ?_)
 refine gW ?_
 refine g_cl rfl rfl (c_of (s := [98]) (n := 0) (t := 1) (C := []) (by decide) (by decide) (by decide) (rd_nil 0 1) fun w1 h' => ?_)
 replace hS := hS.call0.2 _ _ h'
 clear h'
 rw [List.append_nil] at hS
 refine gW ?_
 refine g_cl rfl rfl (ap_ok (r := rb1) none ok_1 (fun z hz => absurd hz List.not_mem_nil) hg rfl (lxb (by decide)) (by decide) hS fun m1 bz1 v1 w1 hS => ?_)
 replace hS : St w (fun _ => False) w1 (TabS b1 (some m1) x1 [⟨bz1, v1, [98], [rb1]⟩] ++ []) := hS
 refine gW ?_
 refine g_cl rfl rfl (c_of (s := [97]) (n := 1) (t := 2) (C := []) (by decide) (by decide) (by decide) (rd_nil 0 1) fun w1 h' => ?_)
 replace hS := hS.call0.2 _ _ h'
 clear h'
 rw [List.append_nil] at hS
 refine gW ?_
 refine g_cl rfl rfl (ap_ok (r := ra2) none ok_2 (sp_2 _ _) hg rfl (lxb (by decide)) (by simp) hS fun m2 bz2 v2 w1 hS => ?_)
 replace hS : St w (fun _ => False) w1 (TabS b1 (some m2) x2 [⟨bz1, v1, [98], [rb1]⟩, ⟨bz2, v2, [97], [ra2]⟩] ++ []) := hS
 refine gW ?_
 refine g_cl rfl rfl (c_of (s := [98]) (n := 2) (t := 3) (C := []) (by decide) (by decide) (by decide) (rd_nil 0 1) fun w1 h' => ?_)
 replace hS := hS.call0.2 _ _ h'
 clear h'
 rw [List.append_nil] at hS
 refine gW ?_
 refine g_cl rfl rfl (ap_ok (r := rb3) _ ok_3 (sp_3 bz1 bz2 v1 v2) hg rfl (lxb (by decide)) (by simp) hS fun m3 bz3 v3 w1 hS => ?_)
 replace hS : St w (fun _ => False) w1 (TabS b1 (some m3) x3 [⟨bz1, v3, [98], [rb1, rb3]⟩, ⟨bz2, v2, [97], [ra2]⟩] ++ []) := hS
 have hp : [(⟨bz1, v3, [98], [rb1, rb3]⟩ : Sb), ⟨bz2, v2, [97], [ra2]⟩].Perm [⟨bz2, v2, [97], [ra2]⟩, ⟨bz1, v3, [98], [rb1, rb3]⟩] := List.Perm.swap _ _ _
 have hO := ok_two (b1 := bz1) (b2 := bz2) (v1 := v3) (v2 := v2) sib_3 (by simp) (by decide)
 refine gW ?_
 refine g_cl rfl rfl (b_ListT hO (hg.in hS) (TabV.ofS hp hS) rfl fun vl w1 h' => ?_)
 replace hS := hS.call0.2 _ _ h'
 clear h'
 rw [lst_3] at hS
 obtain ⟨al, cl, e0⟩ := hS.rlen 3 rfl
 have e0 : vl = .slice al 3 cl := e0
 subst e0
 obtain ⟨bl, offl, capl, ll, el, hcapl, hll, hxl, hbl⟩ := Rd.block (Ow.rd (hS.ok 3 (rowL (.slice al 3 cl, [li2, li1, li3])) rfl)) (Nat.zero_lt_succ _)
 cases el
 refine gW ?_
 refine g_cl rfl rfl (b_RefsT hO (TabV.ofS (B := [_]) hp hS) rfl fun v4 w1 h' => ?_)
 replace hS := hS.call0.2 _ _ h'
 clear h'
 refine gW ?_
 refine g_ef rfl (ef_bl (rs := [sv [97], sv [98]]) hS rfl fun g2 w1 hS => ?_)
 refine g_cl rfl rfl (r_Texts20 (d := [[97], [98]]) (e := [[97], [98]]) rfl rfl (by decide) (by decide) (Ow.rd (hS.ok 4 _ rfl)) (rd_blk (hS.b 5 rfl).r rfl) fun w1 h' => ?_)
 replace hS := hS.call0.2 _ _ h'
 clear h'
 rw [decide_eq_true rfl]
 obtain ⟨b5, off5, cap5, l5, e5, hcap5, hl5, hx5, hb5⟩ := Rd.block (Ow.rd (hS.ok 3 (rowL (.slice (some ⟨bl, offl, none⟩) 3 cl, [li2, li1, li3])) rfl)) (Nat.zero_lt_succ _)
 cases e5
 have hc3 : 3 ≤ cl := hcap5
 have k0 := rd_at lc_len hx5 rfl (i := 0) (Nat.le_of_ble_eq_true rfl)
 have k1 := rd_at lc_len hx5 rfl (i := 1) (Nat.le_of_ble_eq_true rfl)
 have k2 := rd_at lc_len hx5 rfl (i := 2) (Nat.le_of_ble_eq_true rfl)
 refine gW ?_
 refine g_rq rfl rfl ⟨by decide, by decide⟩ ?_
 refine g_lmr rfl rfl hb5 (by show offl + 0 * 33 + 33 ≤ l5.length; omega) ?_
 rw [show (l5.drop (offl + Int.toNat 0 * 33)).take 33 = lc li2 from k0]
 refine gW ?_
 refine g_qt rfl (qt_eqd (a := lc li2) (b := lc li2) rfl rfl (lc_fits _) (lc_fits _)) ?_
 rw [show eqdv .eql (deqv (lc li2) (lc li2)) = true from deqv_eq ⟨fun _ => rfl, fun _ => rfl⟩]
 refine gW ?_
 refine g_rq rfl rfl ⟨by decide, by decide⟩ ?_
 refine gW ?_
 refine g_lmr rfl rfl hb5 (by show offl + 1 * 33 + 1 + 32 ≤ l5.length; omega) ?_
 rw [show (l5.drop (offl + Int.toNat 1 * 33 + 1)).take 32 = bys (idT 1).1 from lc_tip k1]
 refine gW ?_
 refine g_qt rfl (qt_aq (a := (idT 1).1) (b := (idT 1).1) rfl rfl rfl rfl) ?_
 rw [show aqv .eql (idT 1).1 (idT 1).1 = true from by decide]
 refine gW ?_
 refine g_rq rfl rfl ⟨by decide, by decide⟩ ?_
 refine gW ?_
 refine g_lmr rfl rfl hb5 (by show offl + 2 * 33 + 1 + 32 ≤ l5.length; omega) ?_
 rw [show (l5.drop (offl + Int.toNat 2 * 33 + 1)).take 32 = bys (idT 3).1 from lc_tip k2]
 refine gW ?_
 refine g_qt rfl (qt_aq (a := (idT 3).1) (b := (idT 3).1) rfl rfl rfl rfl) ?_
 rw [show aqv .eql (idT 3).1 (idT 3).1 = true from by decide]
 refine gW ?_
 refine g_rq rfl rfl ⟨by decide, by decide⟩ ?_
 refine gW ?_
 refine g_l1r rfl rfl hb5 (v := sv li1.1) (lc_nm k1) ?_
 refine gW ?_
 exact g_ret (q_1 rfl (h _ (hS.sel [] rfl rfl)))
end
theorem evcs_n {T : TT} {a : Operand} {l : List Operand} {sz : Nat} {cs r : List Value} (ha : ev T a = some (.agg ⟨cs⟩)) (hl : cs.length = sz) (hr : evcs T sz l = some r) : evcs T sz (a :: l) = some (cs ++ r) := by
 subst hl
 have e : Nat.beq cs.length cs.length = true := Nat.beq_refl _
 unfold evcs
 rw [ha, hr]
 show (match Nat.beq cs.length cs.length with | true => some (cs ++ r) | false => none) = _
 rw [e]
theorem TabOk.gp {Y Z : List Sb} (h : TabOk Y) (e : gps Z = gps Y) : TabOk Z := by
 have ef : ∀ Y : List Sb, flt Y = ((gps Y).map (·.2)).flatten := fun Y => by unfold flt gps; rw [List.map_map]; rfl
 refine ⟨by rw [e]; exact h.P, fun z hz => ?_, by rw [ef, e, ← ef]; exact h.len⟩
 have h1 : z.g ∈ gps Y := by rw [← e]; exact List.mem_map.2 ⟨z, hz, rfl⟩
 obtain ⟨y, hy, e2⟩ := List.mem_map.1 h1
 have e3 : z.l = y.l := (congrArg (·.2) e2).symm
 rw [e3]
 exact h.ne y hy
theorem tab_ok' {Y : List Sb} {d : List Rec} (hP : okP (grp d)) (h : gps Y = grp d) (hd : d.length < 400000) : TabOk Y :=
 ⟨by rw [h]; exact hP, fun z hz => (grp_refs d z.g (by rw [← h]; exact List.mem_map.2 ⟨z, hz, rfl⟩)).1, by rw [flt_grp h]; exact hd⟩
def recs3 : List Rec := [rb1, ra2, rb3]
section
variable {w w0 : World} {S0 : Nat → Prop} {L B : List Res} {K : Value → World → Prop} {s : Bs} {E0 E1 : Nat} {r : Rec} {bT : Nat} {mo : Option Nat} {x : List Nat} {Y : List Sb}
theorem rd_blk32 {g E : Nat} {d : List Id} (h : Blr w g (fl ic d) E) (_ : d = d) : Rd (.slice (some ⟨g, 0, none⟩) d.length d.length) E 32 d.length (fl ic d) w := .inr ⟨g, 0, d.length, _, rfl, Nat.le_refl _, by rw [fl_len ic_len]; omega, by rw [List.drop_zero, List.take_of_length_le (by rw [fl_len ic_len]; exact Nat.le_refl _)], h⟩
theorem rd_blk52 {g E : Nat} {d : List Rec} (h : Blr w g (fl rc d) E) : Rd (.slice (some ⟨g, 0, none⟩) d.length d.length) E 52 d.length (fl rc d) w := .inr ⟨g, 0, d.length, _, rfl, Nat.le_refl _, by rw [fl_len rc_len]; omega, by rw [List.drop_zero, List.take_of_length_le (by rw [fl_len rc_len]; exact Nat.le_refl _)], h⟩
def I3 (w0 : World) (b1 g : Nat) (k : Nat) (w : World) : Prop := match k with
 | 0 => St w0 (fun _ => False) w (TabS b1 none x0 [] ++ [cel g (fl rc recs3) 40])
 | 1 => ∃ m bz v, St w0 (fun _ => False) w (TabS b1 (some m) x1 [⟨bz, v, [98], [rb1]⟩] ++ [cel g (fl rc recs3) 40])
 | 2 => ∃ m bz v bz2 v2, St w0 (fun _ => False) w (TabS b1 (some m) x2 [⟨bz, v, [98], [rb1]⟩, ⟨bz2, v2, [97], [ra2]⟩] ++ [cel g (fl rc recs3) 40])
 | _ => ∃ m bz v bz2 v2, St w0 (fun _ => False) w (TabS b1 (some m) x3 [⟨bz, v, [98], [rb1, rb3]⟩, ⟨bz2, v2, [97], [ra2]⟩] ++ [cel g (fl rc recs3) 40])
theorem rec3_at {k : Nat} {x : Rec} (h : recs3[k]? = some x) : ((fl rc recs3).drop (0 + (k : Int).toNat * 52)).take 52 = rc x := by
 rw [Int.toNat_natCast, Nat.zero_add]
 exact fl_at rc_len recs3 k x h
theorem rec3_len : (fl rc recs3).length = 156 := fl_len rc_len recs3
set_option maxRecDepth 100000 in
set_option maxHeartbeats 8000000 in
theorem b_TableNames (hg : Gl w) (h : ∀ w', St w (fun _ => False) w' [] → K (.bool true) w') : CK Tryz.prog 4 [] w K := by
 have hS := St.nil w (fun _ => False)
 have lz : (zx zRc).length = 52 := by decide
 refine call_k Tryz.func4 k4 Tryz.ntmps4 (Nat.le_of_ble_eq_true rfl) ?_
 refine gW ?_
 refine g_ef rfl (ef_al hS fun b1 w1 hS => ?_)
 replace hS : St w (fun _ => False) w1 (TabS b1 none x0 [] ++ []) := tabS_new hS
 refine gW ?_
 refine g_cl rfl rfl (c_of (s := [98]) (n := 0) (t := 1) (C := []) (by decide) (by decide) (by decide) (rd_nil 0 1) fun w1 h' => ?_)
 replace hS := hS.call0.2 _ _ h'
 clear h'
 rw [List.append_nil] at hS
 refine gW ?_
 refine g_cl rfl rfl (c_of (s := [97]) (n := 1) (t := 2) (C := []) (by decide) (by decide) (by decide) (rd_nil 0 1) fun w1 h' => ?_)
 replace hS := hS.call0.2 _ _ h'
 clear h'
 rw [List.append_nil] at hS
 refine gW ?_
 refine g_cl rfl rfl (c_of (s := [98]) (n := 2) (t := 3) (C := []) (by decide) (by decide) (by decide) (rd_nil 0 1) fun w1 h' => ?_)
 replace hS := hS.call0.2 _ _ h'
 clear h'
 rw [List.append_nil] at hS
 refine g_ef rfl (ef_bl (rs := fl rc recs3) hS (evcs_n rfl (rc_len rb1) (evcs_n rfl (rc_len ra2) (evcs_n rfl (rc_len rb3) rfl))) fun g w1 hS => ?_)
 replace hS : I3 w b1 g 0 w1 := hS
 refine gW ?_
 refine g_atx (ι := Unit) 2 (fun _ => [(1, dp b1)]) (fun _ w' => I3 w b1 g 3 w') rfl ?_ ?_
 ·refine g_lp (ι := Nat) (fun k => [(1, dp b1), (30, .slice (some ⟨g, 0, none⟩) 3 3), (31, .int .i64 3), (32, .int .i64 k)]) (fun k w' => k ≤ 3 ∧ I3 w b1 g k w') (fun k => 3 - k) 0 ⟨rfl, rfl, rfl, rfl, trivial⟩ ⟨Nat.zero_le _, hS⟩ ?_
  clear hS
  rintro k w1 ⟨hk, hI⟩
  rcases k with _ | _ | _ | k
  ·have hS : St w (fun _ => False) w1 (TabS b1 none x0 [] ++ [cel g (fl rc recs3) 40]) := hI
   refine gW ?_
   refine g_rq rfl rfl ⟨by decide, by decide⟩ ?_
   refine g_lm rfl rfl (hS.b 3 rfl) (by rw [rec3_len]; decide) ?_
   rw [rec3_at (k := 0) (x := rb1) rfl]
   refine g_ef rfl (ef_al hS fun b3 w1 hS => ?_)
   refine g_ef0 rfl (ef_st hS 4 rfl rfl rfl (rc_len _) (by rw [lz]; decide) (List.all_eq_true.2 (rc_one _)) fun w1 hS => ?_)
   replace hS := hS.ceq (l' := rc rb1) 4 rfl (spl_full' _ _ (by show (rc rb1).length = _; rw [rc_len, lz]))
   refine gW ?_
   refine g_lm rfl rfl (hS.b 4 rfl) (Nat.le_of_eq (by rw [rc_len])) ?_
   rw [List.drop_zero, List.take_of_length_le (Nat.le_of_eq (rc_len _))]
   refine g_cl rfl rfl (ap_ok (r := rb1) (B := [_, _]) none ok_1 (fun z hz => absurd hz List.not_mem_nil) hg rfl (lxb (by decide)) (by decide) hS fun m1 bz1 v1 w1 hS => ?_)
   refine gW ?_
   refine g_rq rfl rfl (in64 (by decide)) ?_
   refine gW ?_
   exact g_l 1 ⟨rfl, rfl, rfl, rfl, trivial⟩ ⟨by decide, m1, bz1, v1, hS.sel [0, 1, 2, 3] rfl rfl⟩ (by decide)
  ·obtain ⟨m1, bz1, v1, hS⟩ : ∃ m bz v, St w (fun _ => False) w1 (TabS b1 (some m) x1 [⟨bz, v, [98], [rb1]⟩] ++ [cel g (fl rc recs3) 40]) := hI
   refine gW ?_
   refine g_rq rfl rfl ⟨by decide, by decide⟩ ?_
   refine g_lm rfl rfl (hS.b 3 rfl) (by rw [rec3_len]; decide) ?_
   rw [rec3_at (k := 1) (x := ra2) rfl]
   refine g_ef rfl (ef_al hS fun b3 w1 hS => ?_)
   refine g_ef0 rfl (ef_st hS 4 rfl rfl rfl (rc_len _) (by rw [lz]; decide) (List.all_eq_true.2 (rc_one _)) fun w1 hS => ?_)
   replace hS := hS.ceq (l' := rc ra2) 4 rfl (spl_full' _ _ (by show (rc ra2).length = _; rw [rc_len, lz]))
   refine gW ?_
   refine g_lm rfl rfl (hS.b 4 rfl) (Nat.le_of_eq (by rw [rc_len])) ?_
   rw [List.drop_zero, List.take_of_length_le (Nat.le_of_eq (rc_len _))]
   refine g_cl rfl rfl (ap_ok (r := ra2) (B := [_, _]) none ok_2 (sp_2 _ _) hg rfl (lxb (by decide)) (by simp) hS fun m2 bz2 v2 w1 hS => ?_)
   refine gW ?_
   refine g_rq rfl rfl (in64 (by decide)) ?_
   refine gW ?_
   exact g_l 2 ⟨rfl, rfl, rfl, rfl, trivial⟩ ⟨by decide, m2, bz1, v1, bz2, v2, hS.sel [0, 1, 2, 3] rfl rfl⟩ (by decide)
  ·obtain ⟨m1, bz1, v1, bz2, v2, hS⟩ : ∃ m bz v bz2 v2, St w (fun _ => False) w1 (TabS b1 (some m) x2 [⟨bz, v, [98], [rb1]⟩, ⟨bz2, v2, [97], [ra2]⟩] ++ [cel g (fl rc recs3) 40]) := hI
   refine gW ?_
   refine g_rq rfl rfl ⟨by decide, by decide⟩ ?_
   refine g_lm rfl rfl (hS.b 3 rfl) (by rw [rec3_len]; decide) ?_
   rw [rec3_at (k := 2) (x := rb3) rfl]
   refine g_ef rfl (ef_al hS fun b3 w1 hS => ?_)
   refine g_ef0 rfl (ef_st hS 4 rfl rfl rfl (rc_len _) (by rw [lz]; decide) (List.all_eq_true.2 (rc_one _)) fun w1 hS => ?_)
   replace hS := hS.ceq (l' := rc rb3) 4 rfl (spl_full' _ _ (by show (rc rb3).length = _; rw [rc_len, lz]))
   refine gW ?_
   refine g_lm rfl rfl (hS.b 4 rfl) (Nat.le_of_eq (by rw [rc_len])) ?_
   rw [List.drop_zero, List.take_of_length_le (Nat.le_of_eq (rc_len _))]
   refine g_cl rfl rfl (ap_ok (r := rb3) (B := [_, _]) _ ok_3 (sp_3 bz1 bz2 v1 v2) hg rfl (lxb (by decide)) (by simp) hS fun m2 bz3 v3 w1 hS => ?_)
   refine gW ?_
   refine g_rq rfl rfl (in64 (by decide)) ?_
   refine gW ?_
   exact g_l 3 ⟨rfl, rfl, rfl, rfl, trivial⟩ ⟨by decide, m2, bz1, v3, bz2, v2, hS.sel [0, 1, 2, 3] rfl rfl⟩ (by decide)
  ·obtain rfl : k = 0 := by omega
   refine gW ?_
   exact g_jx () ⟨rfl, trivial⟩ hI
 clear hS
 rintro _ T w1 hT ⟨m1, bz1, v1, bz2, v2, hS⟩
 refine g_wkc hT ?_
 clear hT
 replace hS : St w (fun _ => False) w1 (TabS b1 (some m1) x3 [⟨bz1, v1, [98], [rb1, rb3]⟩, ⟨bz2, v2, [97], [ra2]⟩] ++ []) := hS.sel [0, 1, 2] rfl rfl
 have hp : [(⟨bz1, v1, [98], [rb1, rb3]⟩ : Sb), ⟨bz2, v2, [97], [ra2]⟩].Perm [⟨bz2, v2, [97], [ra2]⟩, ⟨bz1, v1, [98], [rb1, rb3]⟩] := List.Perm.swap _ _ _
 have hO := ok_two (b1 := bz1) (b2 := bz2) (v1 := v1) (v2 := v2) sib_3 (by simp) (by decide)
 refine gW ?_
 refine g_cl rfl rfl (b_AllT hO (TabV.ofS hp hS) rfl fun va w1 h' => ?_)
 replace hS := hS.call0.2 _ _ h'
 clear h'
 replace hS : St w (fun _ => False) w1 (TabS b1 (some m1) x3 [⟨bz1, v1, [98], [rb1, rb3]⟩, ⟨bz2, v2, [97], [ra2]⟩] ++ [rowR va [ra2, rb1, rb3]]) := hS
 obtain ⟨b4, off4, c4, l4, rfl, hc4, _, hb4, _, hj0⟩ := rdk (d := [ra2, rb1, rb3]) (Ow.rd (hS.ok 3 (rowR va [ra2, rb1, rb3]) rfl)) (k := 0) (by decide)
 obtain ⟨b5, off5, c5, l5, e5, _, _, hb5, _, hj1⟩ := rdk (d := [ra2, rb1, rb3]) (Ow.rd (hS.ok 3 (rowR _ [ra2, rb1, rb3]) rfl)) (k := 1) (by decide)
 cases e5
 refine gW ?_
 refine g_rq rfl rfl ⟨by decide, by decide⟩ ?_
 refine gW ?_
 refine g_l1r rfl rfl hb4 (v := sv [97]) ((hj0 18 (by decide)).trans (rc_18 ra2)) ?_
 refine gW ?_
 rw [sv_dec]
 refine gW ?_
 refine g_rq rfl rfl ⟨by decide, by decide⟩ ?_
 refine gW ?_
 refine g_l1r rfl rfl hb5 (v := .int .i64 0) ((hj1 0 (by decide)).trans (rc_site rb1)) ?_
 refine gW ?_
 refine g_cl rfl rfl (b_Vec (TabV.ofS (B := [_]) hp hS) rfl fun w1 h' => ?_)
 replace hS := hS.call0.2 _ _ h'
 rw [List.append_nil] at hS
 clear h'
 refine gW ?_
 refine g_qt rfl (qt_eqd (a := u4 x3) (b := u4 x3) rfl rfl (u4_fit rfl) (u4_fit rfl)) ?_
 rw [show eqdv .eql (deqv (u4 x3) (u4 x3)) = true from deqv_eq ⟨fun _ => rfl, fun _ => rfl⟩]
 refine gW ?_
 refine g_cl rfl rfl (b_AliveT hO (TabV.ofS (B := [_]) hp hS) rfl fun vi w1 h' => ?_)
 replace hS := hS.call0.2 _ _ h'
 clear h'
 rw [alv_3] at hS
 refine gW ?_
 refine g_ef rfl (ef_bl (rs := fl ic [idT 1, idT 2, idT 3]) hS (evcs_n (cs := ic (idT 1)) rfl (ic_len _) (evcs_n (cs := ic (idT 2)) rfl (ic_len _) (evcs_n (cs := ic (idT 3)) rfl (ic_len _) rfl))) fun g2 w1 hS => ?_)
 refine g_cl rfl rfl (r_SameI (d := [idT 1, idT 2, idT 3]) (e := [idT 1, idT 2, idT 3]) rfl rfl (by decide) (by decide) (Ow.rd (hS.ok 4 _ rfl)) (rd_blk32 (hS.b 5 rfl).r rfl) fun w1 h' => ?_)
 replace hS := hS.call0.2 _ _ h'
 clear h'
 rw [decide_eq_true rfl]
 replace hS : St w (fun _ => False) w1 (TabS b1 (some m1) x3 [⟨bz1, v1, [98], [rb1, rb3]⟩, ⟨bz2, v2, [97], [ra2]⟩] ++ []) := hS.sel [0, 1, 2] rfl rfl
 refine gW ?_
 refine g_cl rfl rfl (b_SibT (s := [98]) hO (TabV.ofS hp hS) rfl fun vs w1 h' => ?_)
 replace hS := hS.call0.2 _ _ h'
 have h' : St _ _ _ [rowR vs [rb1, rb3]] := h'
 obtain ⟨a9, c9, rfl⟩ := h'.rlen 0 rfl
 clear h'
 replace hS : St w (fun _ => False) w1 (TabS b1 (some m1) x3 [⟨bz1, v1, [98], [rb1, rb3]⟩, ⟨bz2, v2, [97], [ra2]⟩] ++ []) := hS.sel [0, 1, 2] rfl rfl
 refine gW ?_
 refine g_cl rfl rfl (b_SibT (s := [99]) hO (TabV.ofS hp hS) rfl fun vs w1 h' => ?_)
 replace hS := hS.call0.2 _ _ h'
 have h' : St _ _ _ [rowR vs []] := h'
 obtain ⟨as2, cs2, rfl⟩ := h'.rlen 0 rfl
 clear h'
 replace hS : St w (fun _ => False) w1 (TabS b1 (some m1) x3 [⟨bz1, v1, [98], [rb1, rb3]⟩, ⟨bz2, v2, [97], [ra2]⟩] ++ []) := hS.sel [0, 1, 2] rfl rfl
 refine gW ?_
 refine g_cl rfl rfl (b_TipsT (s := [98]) hO (TabV.ofS hp hS) rfl fun vs w1 h' => ?_)
 replace hS := hS.call0.2 _ _ h'
 have h' : St _ _ _ [rowI vs (tipR [rb1, rb3])] := h'
 rw [tip_3] at h'
 obtain ⟨as3, cs3, rfl⟩ := h'.rlen 0 rfl
 clear h'
 replace hS : St w (fun _ => False) w1 (TabS b1 (some m1) x3 [⟨bz1, v1, [98], [rb1, rb3]⟩, ⟨bz2, v2, [97], [ra2]⟩] ++ []) := hS.sel [0, 1, 2] rfl rfl
 refine gW ?_
 refine g_cl rfl rfl (c_of (s := [98]) (n := 0) (t := 1) (C := []) (by decide) (by decide) (by decide) (rd_nil 0 1) fun w1 h' => ?_)
 replace hS := hS.call0.2 _ _ h'
 clear h'
 rw [List.append_nil] at hS
 refine gW ?_
 refine g_cl rfl rfl (ap_bad (r := rb1) ok_4 hg rfl (lxb (by decide)) (by simp) hS fun w1 hS => ?_)
 refine gW ?_
 refine g_cl rfl rfl (c_of (s := [97, 32, 98]) (n := 3) (t := 1) (C := []) (by decide) (by decide) (by decide) (rd_nil 0 1) fun w1 h' => ?_)
 replace hS := hS.call0.2 _ _ h'
 clear h'
 rw [List.append_nil] at hS
 refine gW ?_
 refine g_cl rfl rfl (ap_bad (r := rsp) ok_5 hg rfl (lxb (by decide)) (by simp) hS fun w1 hS => ?_)
 refine gW ?_
 refine g_ef rfl (ef_bl (rs := u4 [2]) hS rfl fun g3 w1 hS => ?_)
 refine g_cl rfl rfl (c_of (s := [98]) (n := 3) (t := 1) (C := [2]) (by decide) (by decide) (by decide) (rd_blk (hS.b 3 rfl).r rfl) fun w1 h' => ?_)
 replace hS := hS.call0.2 _ _ h'
 clear h'
 replace hS : St w (fun _ => False) w1 (TabS b1 (some m1) x3 [⟨bz1, v1, [98], [rb1, rb3]⟩, ⟨bz2, v2, [97], [ra2]⟩] ++ []) := hS.sel [0, 1, 2] rfl rfl
 refine gW ?_
 refine g_cl rfl rfl (ap_bad (r := rb9) ok_6 hg rfl (lxb (by decide)) (by simp) hS fun w1 hS => ?_)
 refine gW ?_
 refine g_cl rfl rfl (b_CopyT hO (TabV.ofS hp hS) rfl fun bC mC Yc Yd w1 hpc hgc h' => ?_)
 replace hS := hS.call0.2 _ _ h'
 clear h'
 rw [List.append_nil] at hS
 refine gW ?_
 refine g_ef rfl (ef_bl (rs := u4 [1, 1, 1]) hS rfl fun g3 w1 hS => ?_)
 refine g_cl rfl rfl (c_of (s := [98]) (n := 1) (t := 0) (C := [1, 1, 1]) (by decide) (by decide) (by decide) (rd_blk (hS.b 6 rfl).r rfl) fun w1 h' => ?_)
 replace hS := hS.call0.2 _ _ h'
 clear h'
 replace hS : St w (fun _ => False) w1 (TabS b1 (some m1) x3 [⟨bz1, v1, [98], [rb1, rb3]⟩, ⟨bz2, v2, [97], [ra2]⟩] ++ TabS bC (some mC) x3 Yc) := hS.sel [0, 1, 2, 3, 4, 5] rfl rfl
 refine gW ?_
 refine g_cl rfl rfl (ap_ok (r := rdl) _ ok_7 (sp_7 bz1 bz2 v1 v2) hg rfl (lxb (by decide)) (by simp) hS fun m3 bz3 v3 w1 hS => ?_)
 clear hp hO
 replace hS : St w (fun _ => False) w1 (TabS b1 (some m3) x4 [⟨bz1, v3, [98], [rdl]⟩, ⟨bz2, v2, [97], [ra2]⟩] ++ TabS bC (some mC) x3 Yc) := hS
 have hp : [(⟨bz1, v3, [98], [rdl]⟩ : Sb), ⟨bz2, v2, [97], [ra2]⟩].Perm [⟨bz2, v2, [97], [ra2]⟩, ⟨bz1, v3, [98], [rdl]⟩] := List.Perm.swap _ _ _
 have hO := ok_two (b1 := bz1) (b2 := bz2) (v1 := v3) (v2 := v2) sib_7 (by simp) (by decide)
 have hOc : TabOk Yd := (ok_two (b1 := bz1) (b2 := bz2) (v1 := v1) (v2 := v2) sib_3 (by simp) (by decide)).gp hgc
 refine gW ?_
 refine g_cl rfl rfl (b_ListT hO (hg.in hS) (TabV.ofS hp hS) rfl fun vl w1 h' => ?_)
 replace hS := hS.call0.2 _ _ h'
 clear h'
 rw [lst_7] at hS
 replace hS : St w (fun _ => False) w1 (TabS b1 (some m3) x4 [⟨bz1, v3, [98], [rdl]⟩, ⟨bz2, v2, [97], [ra2]⟩] ++ (TabS bC (some mC) x3 Yc ++ [rowL (vl, [li2])])) := by rw [← List.append_assoc]; exact hS
 obtain ⟨al, cl, e6⟩ := hS.rlen 6 rfl
 have e6 : vl = .slice al 1 cl := e6
 subst e6
 refine gW ?_
 obtain ⟨b6, off6, cap6, l6, e6, hcap6, hl6, hx6, hb6⟩ := Rd.block (Ow.rd (hS.ok 6 (rowL (.slice al 1 cl, [li2])) rfl)) (Nat.zero_lt_succ _)
 cases e6
 have k0 := rd_at lc_len hx6 rfl (i := 0) (Nat.le_of_ble_eq_true rfl)
 refine g_rq rfl rfl ⟨by decide, by decide⟩ ?_
 refine gW ?_
 refine g_l1r rfl rfl hb6 (v := sv [97]) (lc_nm k0) ?_
 refine gW ?_
 rw [sv_dec]
 refine gW ?_
 refine g_cl rfl rfl (b_SibT (s := [98]) hO (TabV.ofS hp hS) rfl fun vs w1 h' => ?_)
 replace hS := hS.call0.2 _ _ h'
 have h' : St _ _ _ [rowR vs [rdl]] := h'
 obtain ⟨as4, cs4, rfl⟩ := h'.rlen 0 rfl
 clear h'
 replace hS : St w (fun _ => False) w1 (TabS b1 (some m3) x4 [⟨bz1, v3, [98], [rdl]⟩, ⟨bz2, v2, [97], [ra2]⟩] ++ TabS bC (some mC) x3 Yc) := hS.sel [0, 1, 2, 3, 4, 5] rfl rfl
 refine gW ?_
 refine g_cl rfl rfl (b_RefsT hO (TabV.ofS hp hS) rfl fun v4 w1 h' => ?_)
 replace hS := hS.call0.2 _ _ h'
 clear h'
 replace hS : St w (fun _ => False) w1 (TabS b1 (some m3) x4 [⟨bz1, v3, [98], [rdl]⟩, ⟨bz2, v2, [97], [ra2]⟩] ++ (TabS bC (some mC) x3 Yc ++ [row v4 9 1 2 [sv [97], sv [98]]])) := by rw [← List.append_assoc]; exact hS
 refine gW ?_
 refine g_ef rfl (ef_bl (rs := [sv [97], sv [98]]) hS rfl fun g2 w1 hS => ?_)
 refine g_cl rfl rfl (r_Texts20 (d := [[97], [98]]) (e := [[97], [98]]) rfl rfl (by decide) (by decide) (Ow.rd (hS.ok 6 _ rfl)) (rd_blk (hS.b 7 rfl).r rfl) fun w1 h' => ?_)
 replace hS := hS.call0.2 _ _ h'
 clear h'
 rw [decide_eq_true rfl]
 replace hS : St w (fun _ => False) w1 (TabS bC (some mC) x3 Yc ++ TabS b1 (some m3) x4 [⟨bz1, v3, [98], [rdl]⟩, ⟨bz2, v2, [97], [ra2]⟩]) := hS.sel [3, 4, 5, 0, 1, 2] rfl rfl
 refine gW ?_
 refine g_cl rfl rfl (b_ListT hOc (hg.in hS) (TabV.ofS hpc hS) rfl fun vl w1 h' => ?_)
 replace hS := hS.call0.2 _ _ h'
 rw [hgc, lst_3] at h'
 obtain ⟨al2, cl2, e7⟩ := h'.rlen 0 rfl
 have e7 : vl = .slice al2 3 cl2 := e7
 subst e7
 clear h'
 replace hS : St w (fun _ => False) w1 (TabS b1 (some m3) x4 [⟨bz1, v3, [98], [rdl]⟩, ⟨bz2, v2, [97], [ra2]⟩] ++ []) := hS.sel [3, 4, 5] rfl rfl
 refine gW ?_
 refine g_cl rfl rfl (b_Vec (TabV.ofS hp hS) rfl fun w1 h' => ?_)
 replace hS := hS.call0.2 _ _ h'
 rw [List.append_nil] at hS
 clear h'
 refine gW ?_
 refine g_cl rfl rfl (b_AllT hO (TabV.ofS hp hS) rfl fun va w1 h' => ?_)
 replace hS := hS.call0.2 _ _ h'
 clear h'
 refine gW ?_
 refine g_cl rfl rfl (b_LoadT (x := x4) (d := [ra2, rdl]) rfl (lxb (by decide)) (by decide) (hg.in hS) (Ow.rd (hS.ok 3 _ rfl)) (fun hn => absurd okT_7 hn) fun _ bU mU Yu w1 hU h' => ?_)
 replace hS := hS.call0.2 _ _ h'
 clear h'
 replace hS : St w (fun _ => False) w1 (TabS b1 (some m3) x4 [⟨bz1, v3, [98], [rdl]⟩, ⟨bz2, v2, [97], [ra2]⟩] ++ TabS bU (some mU) x4 Yu) := hS.sel [0, 1, 2, 4, 5, 6] rfl rfl
 have hOu : TabOk Yu := tab_ok' okT_7.1 hU (by decide)
 refine gW ?_
 refine g_cl rfl rfl (b_AllT hO (TabV.ofS hp hS) rfl fun va2 w1 h' => ?_)
 replace hS := hS.call0.2 _ _ h'
 have hr2 : Rd va2 40 52 [ra2, rdl].length (fl rc [ra2, rdl]) w1 := Ow.rd (h'.ok 0 _ rfl)
 clear h'
 refine gW ?_
 refine g_cl rfl rfl (b_LoadT (x := x0) (d := [ra2, rdl]) rfl (lxb (by decide)) (by decide) (hg.in hS) hr2 (fun _ w1 h' => ?_) fun hy => absurd hy noT_0)
 replace hS := hS.call0.2 _ _ h'
 clear h' hr2
 replace hS : St w (fun _ => False) w1 (TabS b1 (some m3) x4 [⟨bz1, v3, [98], [rdl]⟩, ⟨bz2, v2, [97], [ra2]⟩] ++ TabS bU (some mU) x4 Yu) := hS.sel [0, 1, 2, 3, 4, 5] rfl rfl
 refine gW ?_
 refine g_cl rfl rfl (b_Vec (TabV.ofS hp hS) rfl fun w1 h' => ?_)
 replace hS := hS.call0.2 _ _ h'
 rw [List.append_nil] at hS
 clear h'
 refine gW ?_
 refine g_cl rfl rfl (c_of (s := [98]) (n := 0) (t := 1) (C := []) (by decide) (by decide) (by decide) (rd_nil 0 1) fun w1 h' => ?_)
 replace hS := hS.call0.2 _ _ h'
 clear h'
 rw [List.append_nil] at hS
 refine gW ?_
 refine g_cl rfl rfl (c_of (s := [97]) (n := 1) (t := 2) (C := []) (by decide) (by decide) (by decide) (rd_nil 0 1) fun w1 h' => ?_)
 replace hS := hS.call0.2 _ _ h'
 clear h'
 rw [List.append_nil] at hS
 refine g_ef rfl (ef_bl (rs := fl rc [rb1, ra2]) hS (evcs_n (cs := rc rb1) rfl (rc_len rb1) (evcs_n (cs := rc ra2) rfl (rc_len ra2) rfl)) fun g4 w1 hS => ?_)
 refine gW ?_
 refine g_cl rfl rfl (b_LoadT (x := x4) (d := [rb1, ra2]) rfl (lxb (by decide)) (by decide) (hg.in hS) (rd_blk52 (hS.b 6 rfl).r) (fun _ w1 h' => ?_) fun hy => absurd hy noT_1)
 replace hS := hS.call0.2 _ _ h'
 clear h'
 replace hS : St w (fun _ => False) w1 (TabS b1 (some m3) x4 [⟨bz1, v3, [98], [rdl]⟩, ⟨bz2, v2, [97], [ra2]⟩] ++ TabS bU (some mU) x4 Yu) := hS.sel [0, 1, 2, 3, 4, 5] rfl rfl
 refine gW ?_
 refine g_cl rfl rfl (b_Vec (TabV.ofS hp hS) rfl fun w1 h' => ?_)
 replace hS := hS.call0.2 _ _ h'
 rw [List.append_nil] at hS
 clear h'
 refine gW ?_
 refine g_cl rfl rfl (c_of (s := [97]) (n := 1) (t := 2) (C := []) (by decide) (by decide) (by decide) (rd_nil 0 1) fun w1 h' => ?_)
 replace hS := hS.call0.2 _ _ h'
 clear h'
 rw [List.append_nil] at hS
 refine gW ?_
 refine g_cl rfl rfl (c_of (s := [97]) (n := 0) (t := 1) (C := []) (by decide) (by decide) (by decide) (rd_nil 0 1) fun w1 h' => ?_)
 replace hS := hS.call0.2 _ _ h'
 clear h'
 rw [List.append_nil] at hS
 refine g_ef rfl (ef_bl (rs := fl rc [ra2, ra0]) hS (evcs_n (cs := rc ra2) rfl (rc_len ra2) (evcs_n (cs := rc ra0) rfl (rc_len ra0) rfl)) fun g4 w1 hS => ?_)
 refine gW ?_
 refine g_cl rfl rfl (b_LoadT (x := x4) (d := [ra2, ra0]) rfl (lxb (by decide)) (by decide) (hg.in hS) (rd_blk52 (hS.b 6 rfl).r) (fun _ w1 h' => ?_) fun hy => absurd hy noT_2)
 replace hS := hS.call0.2 _ _ h'
 clear h'
 replace hS : St w (fun _ => False) w1 (TabS b1 (some m3) x4 [⟨bz1, v3, [98], [rdl]⟩, ⟨bz2, v2, [97], [ra2]⟩] ++ TabS bU (some mU) x4 Yu) := hS.sel [0, 1, 2, 3, 4, 5] rfl rfl
 refine gW ?_
 refine g_ef rfl (ef_bl (rs := u4 [1]) hS rfl fun g3 w1 hS => ?_)
 refine g_cl rfl rfl (c_of (s := [97]) (n := 1) (t := 2) (C := [1]) (by decide) (by decide) (by decide) (rd_blk (hS.b 6 rfl).r rfl) fun w1 h' => ?_)
 replace hS := hS.call0.2 _ _ h'
 clear h'
 replace hS : St w (fun _ => False) w1 (TabS b1 (some m3) x4 [⟨bz1, v3, [98], [rdl]⟩, ⟨bz2, v2, [97], [ra2]⟩] ++ TabS bU (some mU) x4 Yu) := hS.sel [0, 1, 2, 3, 4, 5] rfl rfl
 refine g_ef rfl (ef_bl (rs := fl rc [rax]) hS (evcs_n (cs := rc rax) rfl (rc_len rax) rfl) fun g4 w1 hS => ?_)
 refine gW ?_
 refine g_cl rfl rfl (b_LoadT (x := x01) (d := [rax]) rfl (lxb (by decide)) (by decide) (hg.in hS) (rd_blk52 (hS.b 6 rfl).r) (fun _ w1 h' => ?_) fun hy => absurd hy noT_3)
 replace hS := hS.call0.2 _ _ h'
 clear h'
 replace hS : St w (fun _ => False) w1 (TabS b1 (some m3) x4 [⟨bz1, v3, [98], [rdl]⟩, ⟨bz2, v2, [97], [ra2]⟩] ++ TabS bU (some mU) x4 Yu) := hS.sel [0, 1, 2, 3, 4, 5] rfl rfl
 refine gW ?_
 refine g_cl rfl rfl (b_LoadT (x := x7) (d := []) rfl (lxb (by decide)) (by decide) (hg.in hS) (rd_nil 0 52) (fun hn => absurd okT_8 hn) fun _ bE mE Ye w1 hE h' => ?_)
 replace hS := hS.call0.2 _ _ h'
 clear h'
 have hOe : TabOk Ye := tab_ok' okT_8.1 hE (by decide)
 have hYe : Ye = [] := List.map_eq_nil_iff.1 (show Ye.map Sb.g = [] from hE)
 subst hYe
 replace hS : St w (fun _ => False) w1 (TabS bU (some mU) x4 Yu ++ (TabS b1 (some m3) x4 [⟨bz1, v3, [98], [rdl]⟩, ⟨bz2, v2, [97], [ra2]⟩] ++ TabS bE (some mE) x7 [])) := hS.sel [3, 4, 5, 0, 1, 2, 6, 7, 8] rfl rfl
 refine gW ?_
 refine g_cl rfl rfl (b_AllT hOu (TabV.ofS (List.Perm.refl _) hS) rfl fun vu w1 h' => ?_)
 replace hS := hS.call0.2 _ _ h'
 clear h'
 rw [flt_grp hU] at hS
 replace hS : St w (fun _ => False) w1 (TabS b1 (some m3) x4 [⟨bz1, v3, [98], [rdl]⟩, ⟨bz2, v2, [97], [ra2]⟩] ++ (TabS bU (some mU) x4 Yu ++ TabS bE (some mE) x7 [] ++ [rowR vu [ra2, rdl]])) := hS.sel [3, 4, 5, 0, 1, 2, 6, 7, 8, 9] rfl rfl
 refine gW ?_
 refine g_cl rfl rfl (b_AllT hO (TabV.ofS hp hS) rfl fun vb w1 h' => ?_)
 replace hS := hS.call0.2 _ _ h'
 have hr2 : Rd vb 40 52 [ra2, rdl].length (fl rc [ra2, rdl]) w1 := Ow.rd (h'.ok 0 _ rfl)
 clear h'
 refine g_cl rfl rfl (r_SameR (d := [ra2, rdl]) (e := [ra2, rdl]) rfl rfl (by decide) (by decide) (Ow.rd (hS.ok 9 _ rfl)) hr2 fun q hq w1 h' => ?_)
 rw [hq.2 rfl]
 replace hS := hS.call0.2 _ _ h'
 clear h' hq hr2
 replace hS : St w (fun _ => False) w1 (TabS bU (some mU) x4 Yu ++ (TabS b1 (some m3) x4 [⟨bz1, v3, [98], [rdl]⟩, ⟨bz2, v2, [97], [ra2]⟩] ++ TabS bE (some mE) x7 [])) := hS.sel [3, 4, 5, 0, 1, 2, 6, 7, 8] rfl rfl
 refine gW ?_
 refine g_cl rfl rfl (b_Vec (TabV.ofS (List.Perm.refl _) hS) rfl fun w1 h' => ?_)
 replace hS := hS.call0.2 _ _ h'
 clear h'
 replace hS : St w (fun _ => False) w1 (TabS b1 (some m3) x4 [⟨bz1, v3, [98], [rdl]⟩, ⟨bz2, v2, [97], [ra2]⟩] ++ TabS bE (some mE) x7 []) := hS.sel [3, 4, 5, 6, 7, 8] rfl rfl
 refine gW ?_
 refine g_cl rfl rfl (b_Vec (TabV.ofS hp hS) rfl fun w1 h' => ?_)
 replace hS := hS.call0.2 _ _ h'
 clear h'
 replace hS : St w (fun _ => False) w1 (TabS bE (some mE) x7 [] ++ []) := hS.sel [3, 4, 5] rfl rfl
 refine g_qt rfl (qt_eqd (a := u4 x4) (b := u4 x4) rfl rfl (u4_fit rfl) (u4_fit rfl)) ?_
 rw [show eqdv .eql (deqv (u4 x4) (u4 x4)) = true from deqv_eq ⟨fun _ => rfl, fun _ => rfl⟩]
 refine gW ?_
 refine g_cl rfl rfl (b_Vec (TabV.ofS (List.Perm.refl _) hS) rfl fun w1 h' => ?_)
 replace hS := hS.call0.2 _ _ h'
 rw [List.append_nil] at hS
 clear h'
 refine gW ?_
 refine g_qt rfl (qt_eqd (a := u4 x7) (b := u4 x7) rfl rfl (u4_fit rfl) (u4_fit rfl)) ?_
 rw [show eqdv .eql (deqv (u4 x7) (u4 x7)) = true from deqv_eq ⟨fun _ => rfl, fun _ => rfl⟩]
 refine gW ?_
 refine g_cl rfl rfl (b_RefsT hOe (TabV.ofS (List.Perm.refl _) hS) rfl fun v5 w1 h' => ?_)
 replace hS := hS.call0.2 _ _ h'
 obtain ⟨a5, c5, e8⟩ := h'.rlen 0 rfl
 have e8 : v5 = .slice a5 0 c5 := e8
 subst e8
 clear h'
 replace hS : St w (fun _ => False) w1 [] := hS.sel [] rfl rfl
 refine gW ?_
 refine g_cl rfl rfl (b_aliveT (hg.in hS) fun w1 h' => ?_)
 replace hS := hS.call0.2 _ _ h'
 clear h'
 refine gW ?_
 refine g_cl rfl rfl (c_of (s := [97]) (n := 0) (t := 1) (C := []) (by decide) (by decide) (by decide) (rd_nil 0 1) fun w1 h' => ?_)
 replace hS := hS.call0.2 _ _ h'
 clear h'
 refine gW ?_
 refine g_cl rfl rfl (n_Apply ra0 fun w1 h' => ?_)
 replace hS := hS.call0.2 _ _ h'
 clear h'
 refine gW ?_
 refine g_cl rfl rfl (n_Vec fun w1 h' => ?_)
 replace hS := hS.call0.2 _ _ h'
 clear h'
 refine gW ?_
 refine g_qt rfl (qt_eqd (a := u4 x0) (b := u4 x0) rfl rfl (u4_fit rfl) (u4_fit rfl)) ?_
 rw [show eqdv .eql (deqv (u4 x0) (u4 x0)) = true from deqv_eq ⟨fun _ => rfl, fun _ => rfl⟩]
 refine gW ?_
 refine g_cl rfl rfl (n_Refs fun w1 h' => ?_)
 replace hS := hS.call0.2 _ _ h'
 clear h'
 refine gW ?_
 refine g_cl rfl rfl (n_All fun w1 h' => ?_)
 replace hS := hS.call0.2 _ _ h'
 clear h'
 refine gW ?_
 refine g_rq rfl rfl (in64 (by decide)) ?_
 refine gW ?_
 refine g_cl rfl rfl (n_Sib fun w1 h' => ?_)
 replace hS := hS.call0.2 _ _ h'
 clear h'
 refine gW ?_
 refine g_rq rfl rfl (in64 (by decide)) ?_
 refine gW ?_
 refine g_cl rfl rfl (n_Alive fun v6 w1 h' => ?_)
 replace hS := hS.call0.2 _ _ h'
 obtain ⟨a6, c6, rfl⟩ := h'.rlen 0 rfl
 clear h'
 refine gW ?_
 refine g_rq rfl rfl (in64 (by decide)) ?_
 refine gW ?_
 refine g_cl rfl rfl (n_Tips fun v7 w1 h' => ?_)
 replace hS := hS.call0.2 _ _ h'
 obtain ⟨a7, c7, rfl⟩ := h'.rlen 0 rfl
 clear h'
 refine gW ?_
 refine g_rq rfl rfl (in64 (by decide)) ?_
 refine gW ?_
 refine g_cl rfl rfl (n_List (hg.in hS) fun v8 w1 h' => ?_)
 replace hS := hS.call0.2 _ _ h'
 rw [jn_0] at h'
 obtain ⟨a8, c8, e9⟩ := h'.rlen 0 rfl
 have e9 : v8 = .slice a8 0 c8 := e9
 subst e9
 clear h'
 refine gW ?_
 refine g_rq rfl rfl (in64 (by decide)) ?_
 refine gW ?_
 refine g_cl rfl rfl (n_Copy ?_)
 refine gW ?_
 exact g_ret (q_1 rfl (h _ (hS.sel [] rfl rfl)))
end
open Go.En Go.ChangeShapes Go.WideShapes Go.Deep
section
variable {H : Type} {enc : TypeId × Value → H} {W : World}
set_option maxRecDepth 10000 in
theorem gl_of (h : W.ShapedOpen Tryz.prog) : Gl W :=
 Go.Proofs.cell_of_shapedOpen_int (zero := #[.int .i64 0]) (t := 3) h (of_decide_eq_true (by kernel_rfl)) (by kernel_rfl) rfl (by kernel_rfl) (by kernel_rfl) Tryz.underlying3
end
end Go.Proofs.YtfffdhafbbbpcaaGreatDoor
