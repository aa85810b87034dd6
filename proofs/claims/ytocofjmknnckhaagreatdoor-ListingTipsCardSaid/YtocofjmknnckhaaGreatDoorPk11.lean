/- Qe5 Qe6 Qe7 Qf0 Qh1 -/
import Derived.Test.YtocofjmknnckhaaGreatDoorPk10
import Derived.Test.YtocofjmknnckhaaGreatDoorChecked
import Derived.KernelRfl
set_option linter.unusedSimpArgs false
set_option linter.unusedVariables false
namespace Go.Proofs.YtocofjmknnckhaaGreatDoor
open Go.En
structure RdOk {α : Type} (f : Rst → α × Rst) (bs : Bs) (x : α) (bs' : Bs) (e : Int) : Prop where
 le : bs'.length ≤ bs.length
 e0 : 0 ≤ e
 e1 : e ≤ 100
 ok : e = 0 → f (bs, false) = (x, bs', false)
 no : e ≠ 0 → (f (bs, false)).2.2 = true
structure Trk (e : Int) (cur : Bs) (s : Rst) : Prop where
 e0 : 0 ≤ e
 ok : e = 0 → s = (cur, false)
 no : e ≠ 0 → s.2 = true
def Mono {α : Type} (f : Rst → α × Rst) : Prop := ∀ s, s.2 = true → (f s).2.2 = true
theorem gotS_mono {α : Type} (z : α) (f : Bs → Option (α × Bs)) : Mono (gotS z f) := fun s h => by
 obtain ⟨b, wr⟩ := s
 cases h
 rfl
theorem one_mono : Mono oneS := fun s h => gotS_mono [] (rawS 1) s h
theorem id_mono : Mono idT := fun s h => gotS_mono [] (rawS 32) s h
theorem txt_mono : Mono txtS := gotS_mono _ _
theorem ent_mono : Mono entS := fun s h => id_mono _ (one_mono _ (txt_mono s h))
theorem sev_mono {α : Type} {f : Rst → α × Rst} (hf : Mono f) : ∀ n, Mono (sevS f n)
 | 0, s, h => h
 | n + 1, s, h => by
  unfold sevS
  rw [if_pos h]
  exact h
theorem Trk.step {α : Type} {f : Rst → α × Rst} {e e' : Int} {cur cur' : Bs} {s : Rst} {x : α} (h : Trk e cur s) (hr : RdOk f cur x cur' e') (hm : Mono f) : Trk (e + e') cur' (f s).2 ∧ (e + e' = 0 → (f s).1 = x) := by
 have h0 := h.e0
 have h1 := hr.e0
 by_cases he : e = 0
 ·have hs := h.ok he
  subst hs
  refine ⟨⟨by omega, fun h2 => ?_, fun h2 => hr.no (by omega)⟩, fun h2 => ?_⟩
  ·rw [hr.ok (by omega)]
  ·rw [hr.ok (by omega)]
 ·exact ⟨⟨by omega, fun h2 => by omega, fun _ => hm s (h.no he)⟩, fun h2 => by omega⟩
theorem Trk.mk0 (b : Bs) : Trk 0 b (b, false) := ⟨Int.le_refl _, fun _ => rfl, fun h => absurd rfl h⟩
def enZ : En := ([], 0, idZ)
section
variable {w w0 : World} {S0 : Nat → Prop} {L B : List Res} {K : Value → World → Prop} {s : Bs} {E0 E1 : Nat} {s0 : Nat} {v0 v : Value} {all bs : Bs}
theorem c_msg (hv : SubV v0 all v bs) (hb : bs.length < 1000000000) (hS : St w0 S0 w (SrcX s0 v0 all v)) (h : ∀ x e v' bs' w', RdOk txtS bs x bs' e → SubV v0 all v' bs' → St w0 S0 w' (SrcX s0 v0 all v') → K (.tuple ⟨[sv x, .int .i64 e]⟩) w') : CK Tryz.prog 109 [dp s0] w K := by
 refine r_msg hv hb hS (fun hn e w' he hS => h [] e v bs w' ⟨Nat.le_refl _, by omega, by omega, fun h => by omega, fun _ => ?_⟩ hv hS) (fun x r hx v' w' hv' hS => h x 0 v' r w' ⟨byt_len 4000 _ _ _ hx, by decide, by decide, fun _ => gotS_s hx, fun h => absurd rfl h⟩ hv' hS)
 unfold txtS
 rw [gotS_n hn]
theorem c_id (hv : SubV v0 all v bs) (hb : bs.length < 1000000000) (hS : St w0 S0 w (SrcX s0 v0 all v)) (h : ∀ (x : Id) e v' bs' w', RdOk idT bs x bs' e → SubV v0 all v' bs' → St w0 S0 w' (SrcX s0 v0 all v') → K (.tuple ⟨[.agg ⟨ic x⟩, .int .i64 e]⟩) w') : CK Tryz.prog 108 [dp s0] w K := by
 refine r_id hv hb hS (fun hn w' hS => h idZ 10 v bs w' ⟨Nat.le_refl _, by decide, by decide, fun h => absurd h (by decide), fun _ => ?_⟩ hv hS) (fun x r hx v' w' hv' hS => h x 0 v' r w' ⟨raw_len 32 _ _ _ hx, by decide, by decide, fun _ => ?_, fun h => absurd rfl h⟩ hv' hS)
 ·show (gotS [] (rawS 32) (bs, false)).2.2 = true
  rw [gotS_n hn]
 ·have hg := gotS_s (z := []) hx
  refine Prod.ext (Subtype.ext ?_) ?_
  ·show (gotS [] (rawS 32) (bs, false)).1 ++ List.replicate (32 - (gotS [] (rawS 32) (bs, false)).1.length) 0 = x.1
   rw [hg]
   show x.1 ++ List.replicate (32 - x.1.length) 0 = x.1
   rw [x.2]
   simp
  ·show (gotS [] (rawS 32) (bs, false)).2 = _
   rw [hg]
theorem c_one (hv : SubV v0 all v bs) (hb : bs.length < 1000000000) (hS : St w0 S0 w (SrcX s0 v0 all v)) (h : ∀ l u e v' bs' w', RdOk oneS bs ((l : Bs).getD 0 0).toNat bs' e → (e = 0 → l.length = 1) → SubV v0 all v' bs' → St w0 S0 w' (SrcX s0 v0 all v' ++ [row u 5 1 l.length (bys l)]) → K (.tuple ⟨[u, .int .i64 e]⟩) w') : CK Tryz.prog 104 [dp s0, .int .i64 1] w K := by
 refine r_Raw (n := 1) hv hb (by decide) hS (fun hlt w' hS => h [] nl 10 v bs w' ⟨Nat.le_refl _, by decide, by decide, fun h => absurd h (by decide), fun _ => ?_⟩ (fun h => absurd h (by decide)) hv (hS.nilrow 5 1)) (fun hge v' u w' hv' hS => h (bs.take 1) u 0 v' (bs.drop 1) w' ⟨by rw [List.length_drop]; omega, by decide, by decide, fun _ => ?_, fun h => absurd rfl h⟩ (fun _ => by rw [List.length_take]; omega) hv' (by rw [List.length_take, Nat.min_eq_left hge]; exact hS))
 ·show (gotS [] (rawS 1) (bs, false)).2.2 = true
  rw [gotS_n (show rawS 1 bs = none from if_pos hlt)]
 ·show (((gotS [] (rawS 1) (bs, false)).1.getD 0 0).toNat, (gotS [] (rawS 1) (bs, false)).2) = _
  rw [gotS_s (show rawS 1 bs = some (bs.take 1, bs.drop 1) from if_neg (by omega))]
theorem c_num {most : Nat} (hv : SubV v0 all v bs) (hb : bs.length < 1000000000) (hS : St w0 S0 w (SrcX s0 v0 all v)) (h : ∀ (n : Nat) e v' bs' w', RdOk (gotS 0 (numS most)) bs n bs' e → n ≤ most → SubV v0 all v' bs' → St w0 S0 w' (SrcX s0 v0 all v') → K (.tuple ⟨[.int .u64 (n : Int), .int .i64 e]⟩) w') : CK Tryz.prog 106 [dp s0, .int .u64 (most : Int)] w K := by
 have hrg := numEM_rng bs most
 refine r_Number (most := most) hv hb hS (fun he w' hS => h 0 _ v bs w' ⟨Nat.le_refl _, by omega, by omega, fun h => absurd h he, fun _ => ?_⟩ (Nat.zero_le _) hv hS) (fun he v' w' hv' hS => h _ 0 v' _ w' ⟨by rw [List.length_drop]; omega, by decide, by decide, fun _ => gotS_s (if_pos he), fun h => absurd rfl h⟩ (numEM_le he) hv' hS)
 rw [gotS_n (show numS most bs = none from if_neg he)]
theorem c_byt {most : Nat} (hm : most < 1000000) (hv : SubV v0 all v bs) (hb : bs.length < 1000000000) (hS : St w0 S0 w (SrcX s0 v0 all v)) (h : ∀ l u e v' bs' w', RdOk (gotS [] (bytS most)) bs l bs' e → SubV v0 all v' bs' → St w0 S0 w' (SrcX s0 v0 all v' ++ [row u 5 1 l.length (bys l)]) → K (.tuple ⟨[u, .int .i64 e]⟩) w') : CK Tryz.prog 105 [dp s0, .int .i64 (most : Int)] w K := by
 have hrg := bytE_rng bs most
 refine r_Bytes (most := most) hv hb (by omega) hS (fun he w' hS => h [] nl _ v bs w' ⟨Nat.le_refl _, by omega, by omega, fun h => absurd h he, fun _ => ?_⟩ hv (hS.nilrow 5 1)) (fun he v' u w' hv' hS => h _ u 0 v' _ w' ⟨byt_len most _ _ _ (if_pos he), by decide, by decide, fun _ => gotS_s (if_pos he), fun h => absurd rfl h⟩ hv' hS)
 rw [gotS_n (show bytS most bs = none from if_neg he)]
set_option maxHeartbeats 2000000 in
theorem c_ent (hv : SubV v0 all v bs) (hb : bs.length < 1000000000) (hS : St w0 S0 w (SrcX s0 v0 all v)) (h : ∀ (x : En) e v' bs' w', RdOk entS bs x bs' e → SubV v0 all v' bs' → St w0 S0 w' (SrcX s0 v0 all v') → K (.tuple ⟨[.agg ⟨enC x⟩, .int .i64 e]⟩) w') : CK Tryz.prog 107 [dp s0] w K := by
 refine call_k Tryz.func107 k107 Tryz.ntmps107 (Nat.le_of_ble_eq_true rfl) ?_
 refine gW ?_
 refine g_ef rfl (ef_al hS fun b2 w1 hS => ?_)
 replace hS : St w0 S0 w1 (SrcX s0 v0 all v ++ [cel b2 (enC enZ) 175]) := hS
 refine gW ?_
 have hF := hS.frame
 refine g_cl rfl rfl (c_msg hv hb hF.1 fun x1 e1 v1 bs1 w1 hr1 hv1 h' => ?_)
 replace hS := hF.2 _ _ h'
 clear h' hF
 have l1 := hr1.le
 refine gW ?_
 have hF := hS.frame
 refine g_cl rfl rfl (c_one hv1 (by omega) hF.1 fun l u e2 v2 bs2 w1 hr2 hl2 hv2 h' => ?_)
 replace hS := hF.2 _ _ h'
 clear h' hF
 have l2 := hr2.le
 rw [List.append_assoc] at hS
 refine gW ?_
 have hF := hS.frame
 refine g_cl rfl rfl (c_id hv2 (by omega) hF.1 fun x3 e3 v3 bs3 w1 hr3 hv3 h' => ?_)
 replace hS := hF.2 _ _ h'
 clear h' hF
 have l3 := hr3.le
 obtain ⟨t1, t1'⟩ := (Trk.mk0 bs).step hr1 txt_mono
 obtain ⟨t2, t2'⟩ := t1.step hr2 one_mono
 obtain ⟨t3, t3'⟩ := t2.step hr3 id_mono
 have b1 := hr1.e1
 have b2' := hr2.e1
 have b3 := hr3.e1
 have c1 := hr1.e0
 have c2 := hr2.e0
 have c3 := hr3.e0
 refine gW ?_
 refine g_ef rfl (ef_al hS fun b8 w1 hS => ?_)
 refine gW ?_
 refine g_ef0 rfl (ef_st hS 4 rfl rfl rfl (ic_len x3) (Nat.le_of_ble_eq_true rfl) (List.all_eq_true.2 (ic_one x3)) fun w1 hS => ?_)
 replace hS : St w0 S0 w1 (SrcX s0 v0 all v3 ++ [row u 5 1 l.length (bys l), cel b2 (enC enZ) 175, cel b8 (ic x3) 46]) := hS.ceq (l' := ic x3) 4 rfl (spl_full _ _ (by show (ic x3).length = _; rw [ic_len]; rfl))
 refine gW ?_
 refine g_rq rfl rfl (in64 (by simp only [arv]; omega)) ?_
 refine gW ?_
 refine g_rq rfl rfl (in64 (by simp only [arv]; omega)) ?_
 have hsum : arv .add (arv .add e1 e2) e3 = 0 + e1 + e2 + e3 := by simp only [arv]; omega
 refine gW ?_
 rw [hsum]
 by_cases hz : 0 + e1 + e2 + e3 = 0
 ·rw [show cmv BinOp.neq (0 + e1 + e2 + e3) 0 = false by simp only [cmv]; rw [hz]; rfl]
  have hl := hl2 (by omega)
  match l, hl with
  | [c], _ =>
   obtain ⟨b, cap, rest, e, hcap, hB, hl2⟩ := row_blk hS 2 rfl (Nat.zero_lt_one)
   cases e
   have hX : entS (bs, false) = ((x1, c.toNat, x3), bs3, false) := by
    have h3 := t3.ok hz
    have q1 := t1' (by omega)
    have q2 := t2' (by omega)
    have q3 := t3' hz
    show (((txtS (bs, false)).1, (oneS (txtS (bs, false)).2).1, (idT (oneS (txtS (bs, false)).2).2).1), (idT (oneS (txtS (bs, false)).2).2).2) = _
    rw [h3, q1, q2, q3]
    rfl
   refine gW ?_
   refine g_dr mixed ?_
   replace hS := hS.drew
   refine gD ?_
   refine d_rq rfl rfl rfl ⟨by decide, by show (0 : Int) < 1; decide⟩ ?_
   have hB2 : Blk w1.drew b _ _ := hB
   refine d_l1 rfl rfl rfl hB2 (v := .int .u8 (c.toNat : Int)) rfl ?_
   refine gD ?_
   rw [show IntKind.i64.wrap (c.toNat : Int) = (c.toNat : Int) from wrap_in (in64 (by have := c.toNat_lt; omega))]
   refine d_lm rfl rfl rfl (hS.b 4 rfl) (Nat.le_of_eq (by rw [ic_len])) ?_
   rw [List.drop_zero, List.take_of_length_le (Nat.le_of_eq (ic_len _))]
   refine d_qp rfl rfl rfl (fun w => qt_bd (out := enC (x1, c.toNat, x3)) (fill_en (x1, c.toNat, x3) rfl rfl rfl) w) ?_
   refine d_e0 rfl rfl ?_
   refine ef_st hS 3 rfl rfl rfl (enC_len _) (Nat.le_of_eq (by rw [enC_len])) (List.all_eq_true.2 (enC_one _)) fun w4 hS => ⟨rc_0, ?_⟩
   replace hS := hS.ceq (l' := enC (x1, c.toNat, x3)) 3 rfl (spl_full _ _ (by show (enC _).length = (enC _).length; rw [enC_len, enC_len]))
   refine gD ?_
   refine d_fin ?_
   refine g_ret (q_c2 (n := 34) rfl (by kernel_rfl) (hS.b 3 rfl) (Nat.le_of_eq (by rw [enC_len])) rfl ?_)
   rw [List.drop_zero, List.take_of_length_le (Nat.le_of_eq (enC_len _))]
   exact h _ 0 v3 bs3 _ ⟨by omega, by decide, by decide, fun _ => hX, fun h => absurd rfl h⟩ hv3 (hS.sel [0, 1] rfl rfl)
 ·rw [show cmv BinOp.neq (0 + e1 + e2 + e3) 0 = true by simp only [cmv]; rw [decide_eq_false hz]; rfl]
  refine gW ?_
  refine g_ef0 rfl (ef_st hS 3 rfl rfl rfl rfl (Nat.le_of_ble_eq_true rfl) rfl fun w1 hS => ?_)
  replace hS := hS.ceq (l' := enC enZ) 3 rfl (spl_full _ _ rfl)
  refine gW ?_
  refine g_ret (q_c2 (n := 34) rfl (by kernel_rfl) (hS.b 3 rfl) (Nat.le_of_eq (by rw [enC_len])) rfl ?_)
  rw [List.drop_zero, List.take_of_length_le (Nat.le_of_eq (enC_len _))]
  exact h enZ 70 v3 bs3 _ ⟨by omega, by decide, by decide, fun h => absurd h (by decide), fun _ => t3.no hz⟩ hv3 (hS.sel [0, 1] rfl rfl)
end
theorem prSk_mono (k : Nat) : Mono (prSk k) := fun s h => by
 unfold prSk
 split
 ·exact gotS_mono _ _ s h
 ·split
  ·exact sev_mono ent_mono _ _ (gotS_mono _ _ s h)
  ·split
   ·exact txt_mono _ (sev_mono id_mono _ _ (gotS_mono _ _ _ (id_mono s h)))
   ·split
    ·exact txt_mono _ (id_mono _ (one_mono s h))
    ·exact h
theorem fill_tg {T : TT} {a b : Operand} {k : Nat} {x : Id} (ha : ev T a = some (.int .i64 (k : Int))) (hb : ev T b = some (.agg ⟨ic x⟩)) : fillP T [(0, 1, a), (1, 32, b)] (zx [(1, .int .i64 0), (32, .int .u8 0)]) = some (tgC k x) := by
 refine fillG (A := []) (D := [.int .i64 0]) (C := z32) (u := [.int .i64 (k : Int)]) ha rfl rfl rfl rfl rfl ?_
 refine fillG (A := [.int .i64 (k : Int)]) (D := z32) (C := []) (u := ic x) hb rfl rfl rfl rfl (ic_len x) ?_
 show some _ = some _
 congr 1
 unfold tgC
 simp
theorem oc_sT (o : Obj) (vd ve vp : Value) (k : Nat) (x : Id) : spl (oc o vd ve vp) 36 (tgC k x) = oc { o with tk := k, tid := x } vd ve vp := by
 have := ic_len o.tree
 refine (spl_at (l := oc o vd ve vp) (n := 36) (u := tgC k x) (A := .int .i64 (o.kind : Int) :: vd :: ve :: (ic o.tree ++ [vp])) (D := tgC o.tk o.tid) (C := [sv o.msg]) (by unfold oc tgC; simp) (by simp [this]) (by unfold tgC; rw [List.length_cons, List.length_cons, ic_len, ic_len])).trans ?_
 unfold oc tgC; simp
section
variable {w w0 : World} {S0 : Nat → Prop} {L B : List Res} {K : Value → World → Prop} {s : Bs} {E0 E1 : Nat}
set_option maxRecDepth 100000 in
set_option maxHeartbeats 8000000 in
theorem r_read {all : Bs} {v : Value} {n : Nat} (hl : all.length = n) (hn : n < 1000000000) (hr : Rd v E0 1 n (bys all) w)
  (h : ∀ o vd ve vp e rest w', 0 ≤ e → (e = 0 → prS all = (o, rest, false)) → (e ≠ 0 → (prS all).2.2 = true) → St w (fun _ => False) w' (rowO o vd ve vp) → K (.tuple ⟨[.agg ⟨oc o vd ve vp⟩, .int .i64 e]⟩) w') : CK Tryz.prog 56 [v] w K := by
 have hS := St.nil w (fun _ => False)
 subst hl
 refine call_k Tryz.func56 k56 Tryz.ntmps56 (Nat.le_of_ble_eq_true rfl) ?_
 refine gW ?_
 refine g_ef rfl (ef_al hS fun b2 w1 hS => ?_)
 replace hS : St w (fun _ => False) w1 [cel b2 (oc obZ nl nl nl) 79] := hS
 refine gW ?_
 refine g_cl rfl rfl (r_Twin (by omega) (hr.same fun b hb => hS.fr.kept b (hr.lt b hb) fun h => h) fun v1 w2 h' => ?_)
 replace hS := hS.call0.2 _ _ h'
 clear h'
 have hp := row_pl (hS.ok 1 _ rfl)
 obtain ⟨a, c, rfl⟩ := hS.rlen 1 rfl
 refine gW ?_
 refine g_ef rfl (ef_bx hS rfl fun s0 w1 hS => ?_)
 replace hS := hS.conv (r' := rdR (.slice a all.length c) 5 1 all.length (bys all)) 1 rfl (fun b hb => vb_vo hb) (Ow.rd (hS.ok 1 _ rfl))
 generalize hv0e : (Value.slice a all.length c) = v0 at hS hp
 have hv0 : SubV v0 all v0 all := ⟨hp, fun w h => h⟩
 replace hS : St w (fun _ => False) w1 (SrcX s0 v0 all v0 ++ [cel b2 (oc obZ nl nl nl) 79]) := by
  have hS : St w (fun _ => False) w1 [cel b2 (oc obZ nl nl nl) 79, rdR v0 5 1 all.length (bys all), cel s0 [v0] 183] := by rw [← hv0e] at hS ⊢; exact hS
  exact hS.sel [2, 1, 0] rfl rfl
 have hF := hS.frame
 refine gW ?_
 refine g_cl rfl rfl (c_one hv0 (by omega) hF.1 fun l u e1 v1 bs1 w1 hr1 hl1 hv1 h' => ?_)
 replace hS := hF.2 _ _ h'
 clear h' hF
 have hPd : prS all = prSk (oneS (all, false)).1 (oneS (all, false)).2 := rfl
 refine gW ?_
 by_cases he1 : e1 = 0
 rotate_left
 ·rw [show cmv BinOp.neq e1 0 = true by simp only [cmv]; rw [decide_eq_false he1]; rfl]
  refine gW ?_
  refine g_ef0 rfl (ef_st hS 3 rfl rfl rfl rfl (Nat.le_of_ble_eq_true rfl) rfl fun w1 hS => ?_)
  replace hS := hS.ceq (l' := oc obZ nl nl nl) 3 rfl (spl_full _ _ rfl)
  refine gW ?_
  refine g_ret (q_c2 (n := 70) rfl (by kernel_rfl) (hS.b 3 rfl) (Nat.le_of_ble_eq_true rfl) rfl ?_)
  exact h obZ nl nl nl 70 [] w1 (by decide) (fun h => absurd h (by decide)) (fun _ => by rw [hPd]; exact prSk_mono _ _ (hr1.no he1)) ((((hS.nilrow 5 1).nilrow 175 34).nilrow 46 32).sel [4, 5, 6] rfl rfl)
 subst he1
 have hone := hr1.ok rfl
 match l, hl1 rfl with
 | [kc], _ =>
  rw [hone] at hPd
  replace hPd : prS all = prSk kc.toNat (bs1, false) := hPd
  have hlb := hr1.le
  obtain ⟨b, cap, rest, e, hcap, hB, hl2⟩ := row_blk hS 2 rfl (Nat.zero_lt_one)
  cases e
  refine gW ?_
  refine g_rq rfl rfl ⟨by decide, by show (0 : Int) < 1; decide⟩ ?_
  refine g_l1 rfl rfl hB (v := .int .u8 (kc.toNat : Int)) rfl ?_
  refine gW ?_
  rw [show IntKind.i64.wrap (kc.toNat : Int) = (kc.toNat : Int) from wrap_in (in64 (by have := kc.toNat_lt; omega))]
  generalize kc.toNat = k at hPd ⊢
  refine g_ef rfl (ef_al hS fun b7 w1 hS => ?_)
  refine gW ?_
  refine g_ef0 rfl (ef_st hS 4 rfl rfl rfl rfl (Nat.le_of_ble_eq_true rfl) rfl fun w1 hS => ?_)
  replace hS : St w (fun _ => False) w1 (SrcX s0 v0 all v1 ++ [cel b2 (oc obZ nl nl nl) 79, cel b7 (oc { obZ with kind := k } nl nl nl) 79]) := (hS.ceq (l' := oc { obZ with kind := k } nl nl nl) 4 rfl (spl_full _ _ rfl)).sel [0, 1, 3, 4] rfl rfl
  have hPk : ∀ k' st', prSk k' st' = if k' = 1 then prS1 st' else if k' = 2 then prS2 st' else if k' = 3 then prS3 st' else if k' = 4 then prS4 st' else ({ obZ with kind := k' }, st') := fun _ _ => rfl
  refine g_r0 ?_
  refine g_sq ?_
  refine g_atx (ι := Obj × Value × Value × Value × Int × Bs) 1 (fun x => [(2, dp b2), (6, .int .i64 x.2.2.2.2.1), (7, dp b7)]) (fun x w' => Trk x.2.2.2.2.1 x.2.2.2.2.2 (prS all).2 ∧ (x.2.2.2.2.1 = 0 → (prS all).1 = x.1) ∧ St w (fun _ => False) w' ([cel b2 (oc obZ nl nl nl) 79, cel b7 (oc x.1 x.2.1 x.2.2.1 x.2.2.2.1) 79] ++ rowO x.1 x.2.1 x.2.2.1 x.2.2.2.1)) rfl ?_ ?_
  ·rw [hPd]
   have hT0 := Trk.mk0 bs1
   refine gW ?_
   refine g_l1 rfl rfl (hS.b 3 rfl) (v := .int .i64 (k : Int)) rfl ?_
   refine gW ?_
   (generalize k1 : cmv _ _ _ = q; cases q <;> simp only [cmv, arv, Bool.not_eq_true', Bool.not_eq_false', decide_eq_true_eq, decide_eq_false_iff_not] at k1 <;> first | (exfalso; omega) | skip)
   ·refine gW ?_
    (generalize k2 : cmv _ _ _ = q; cases q <;> simp only [cmv, arv, Bool.not_eq_true', Bool.not_eq_false', decide_eq_true_eq, decide_eq_false_iff_not] at k2 <;> first | (exfalso; omega) | skip)
    ·refine gW ?_
     (generalize k3 : cmv _ _ _ = q; cases q <;> simp only [cmv, arv, Bool.not_eq_true', Bool.not_eq_false', decide_eq_true_eq, decide_eq_false_iff_not] at k3 <;> first | (exfalso; omega) | skip)
     ·refine gW ?_
      (generalize k4 : cmv _ _ _ = q; cases q <;> simp only [cmv, arv, Bool.not_eq_true', Bool.not_eq_false', decide_eq_true_eq, decide_eq_false_iff_not] at k4 <;> first | (exfalso; omega) | skip)
      ·rw [hPk, if_neg (by omega), if_neg (by omega), if_neg (by omega), if_neg (by omega)]
       refine gW ?_
       refine g_jx ({ obZ with kind := k }, nl, nl, nl, 0, bs1) ⟨rfl, rfl, rfl, trivial⟩ ⟨hT0, fun _ => rfl, ?_⟩
       exact (((hS.nilrow 5 1).nilrow 175 34).nilrow 46 32).sel [2, 3, 4, 5, 6] rfl rfl
      ·have ek : k = 4 := by omega
       subst ek
       have e : prSk 4 (bs1, false) = prS4 (bs1, false) := rfl
       rw [e]
       refine gW ?_
       have hF := hS.frame
       refine g_cl rfl rfl (c_one hv1 (by omega) hF.1 fun l4 u4 e4 v2 bs2 w1 hr4 hl4 hv2 h' => ?_)
       replace hS := hF.2 _ _ h'
       clear h' hF
       have q4 := hr4.le
       rw [List.append_assoc] at hS
       refine gW ?_
       have hF := hS.frame
       refine g_cl rfl rfl (c_id hv2 (by omega) hF.1 fun x5 e5 v3 bs3 w1 hr5 hv3 h' => ?_)
       replace hS := hF.2 _ _ h'
       clear h' hF
       have q5 := hr5.le
       refine gW ?_
       refine g_ef rfl (ef_al hS fun b22 w1 hS => ?_)
       refine gW ?_
       refine g_ef0 rfl (ef_st hS 5 rfl rfl rfl (ic_len x5) (Nat.le_of_ble_eq_true rfl) (List.all_eq_true.2 (ic_one x5)) fun w1 hS => ?_)
       replace hS : St w (fun _ => False) w1 (SrcX s0 v0 all v3 ++ [row u4 5 1 l4.length (bys l4), cel b2 (oc obZ nl nl nl) 79, cel b7 (oc { obZ with kind := 4 } nl nl nl) 79, cel b22 (ic x5) 46]) := hS.ceq (l' := ic x5) 5 rfl (spl_full _ _ (by show (ic x5).length = _; rw [ic_len]; rfl))
       refine gW ?_
       have hF := hS.frame
       refine g_cl rfl rfl (c_msg hv3 (by omega) hF.1 fun m6 e6 v4 bs4 w1 hr6 hv4 h' => ?_)
       replace hS := hF.2 _ _ h'
       clear h' hF
       obtain ⟨t1, t1'⟩ := hT0.step hr4 one_mono
       obtain ⟨t2, t2'⟩ := t1.step hr5 id_mono
       obtain ⟨t3, t3'⟩ := t2.step hr6 txt_mono
       have z1 := hr4.e1
       have z2 := hr5.e1
       have z3 := hr6.e1
       have c1 := hr4.e0
       have c2 := hr5.e0
       have c3 := hr6.e0
       refine gW ?_
       refine g_rq rfl rfl (in64 (by simp only [arv]; omega)) ?_
       refine gW ?_
       refine g_rq rfl rfl (in64 (by simp only [arv]; omega)) ?_
       have hsum : arv .add (arv .add e4 e5) e6 = 0 + e4 + e5 + e6 := by simp only [arv]; omega
       rw [hsum]
       refine gW ?_
       by_cases hz : 0 + e4 + e5 + e6 = 0
       ·rw [show cmv BinOp.eql (0 + e4 + e5 + e6) 0 = true by simp only [cmv]; exact decide_eq_true hz]
        match l4, hl4 (by omega) with
        | [tc], _ =>
         obtain ⟨b', cap', rest', e', hcap', hB', hl2'⟩ := row_blk hS 2 rfl (Nat.zero_lt_one)
         cases e'
         refine gW ?_
         refine g_dr mixed ?_
         replace hS := hS.drew
         have hB2 : Blk w1.drew b' _ _ := hB'
         refine gD ?_
         refine d_rq rfl rfl rfl ⟨by decide, by show (0 : Int) < 1; decide⟩ ?_
         refine d_l1 rfl rfl rfl hB2 (v := .int .u8 (tc.toNat : Int)) rfl ?_
         refine gD ?_
         rw [show IntKind.i64.wrap (tc.toNat : Int) = (tc.toNat : Int) from wrap_in (in64 (by have := tc.toNat_lt; omega))]
         refine d_lm rfl rfl rfl (hS.b 5 rfl) (Nat.le_of_eq (by rw [ic_len])) ?_
         rw [List.drop_zero, List.take_of_length_le (Nat.le_of_eq (ic_len _))]
         refine d_qp rfl rfl rfl (fun w => qt_bd (out := tgC tc.toNat x5) (fill_tg rfl rfl) w) ?_
         refine gD ?_
         refine d_e0 rfl rfl ?_
         refine ef_st hS 4 rfl rfl rfl (by show (tgC _ _).length = _; unfold tgC; rw [List.length_cons, ic_len]) (by rw [oc_len]; decide) (List.all_eq_true.2 fun v hv => by
          have hv : v ∈ tgC tc.toNat x5 := hv
          unfold tgC at hv
          rcases List.mem_cons.1 hv with rfl | hv
          ·rfl
          ·exact ic_one x5 v hv) fun w4 hS => ⟨rc_0, ?_⟩
         replace hS := hS.ceq (l' := oc { obZ with kind := 4, tk := tc.toNat, tid := x5 } nl nl nl) 4 rfl (oc_sT _ _ _ _ tc.toNat x5)
         refine d_fin ?_
         refine gW ?_
         refine g_ef0 rfl (ef_st hS 4 rfl rfl rfl rfl (by rw [oc_len]; decide) rfl fun w1 hS => ?_)
         replace hS := hS.ceq (l' := oc { obZ with kind := 4, tk := tc.toNat, tid := x5, msg := m6 } nl nl nl) 4 rfl (oc_s69 _ _ _ _ _)
         refine gW ?_
         refine g_jx ({ obZ with kind := 4, tk := tc.toNat, tid := x5, msg := m6 }, nl, nl, nl, 0 + e4 + e5 + e6, bs4) ⟨rfl, rfl, rfl, trivial⟩ ⟨t3, fun _ => ?_, ?_⟩
         ·have q1 := t1' (by omega)
          have q2 := t2' (by omega)
          have q3 := t3' hz
          show ({ obZ with kind := 4, tk := (oneS (bs1, false)).1, tid := (idT (oneS (bs1, false)).2).1, msg := (txtS (idT (oneS (bs1, false)).2).2).1 } : Obj) = _
          rw [q1, q2, q3]
          rfl
         ·exact (((hS.nilrow 5 1).nilrow 175 34).nilrow 46 32).sel [3, 4, 6, 7, 8] rfl rfl
       ·rw [show cmv BinOp.eql (0 + e4 + e5 + e6) 0 = false by simp only [cmv]; exact decide_eq_false hz]
        refine gW ?_
        refine g_jx ({ obZ with kind := 4 }, nl, nl, nl, 0 + e4 + e5 + e6, bs4) ⟨rfl, rfl, rfl, trivial⟩ ⟨t3, fun h => absurd h hz, ?_⟩
        exact (((hS.nilrow 5 1).nilrow 175 34).nilrow 46 32).sel [3, 4, 6, 7, 8] rfl rfl
     ·have ek : k = 3 := by omega
      subst ek
      refine gW ?_
      have hF := hS.frame
      refine g_cl rfl rfl (c_id hv1 (by omega) hF.1 fun tr e0 vt bst w1 hrt hvt h' => ?_)
      replace hS := hF.2 _ _ h'
      clear h' hF
      obtain ⟨tt, tt'⟩ := hT0.step hrt id_mono
      have qt := hrt.le
      have z0 := hrt.e1
      have c0 := hrt.e0
      refine gW ?_
      refine g_ef rfl (ef_al hS fun b13 w1 hS => ?_)
      refine gW ?_
      refine g_ef0 rfl (ef_st hS 4 rfl rfl rfl (ic_len tr) (Nat.le_of_ble_eq_true rfl) (List.all_eq_true.2 (ic_one tr)) fun w1 hS => ?_)
      replace hS := hS.ceq (l' := ic tr) 4 rfl (spl_full _ _ (by show (ic tr).length = _; rw [ic_len]; rfl))
      refine gW ?_
      refine g_lm rfl rfl (hS.b 4 rfl) (Nat.le_of_eq (by rw [ic_len])) ?_
      rw [List.drop_zero, List.take_of_length_le (Nat.le_of_eq (ic_len _))]
      refine gW ?_
      refine g_ef0 rfl (ef_st hS 3 rfl rfl rfl (ic_len tr) (by rw [oc_len]; decide) (List.all_eq_true.2 (ic_one tr)) fun w1 hS => ?_)
      replace hS : St w (fun _ => False) w1 (SrcX s0 v0 all vt ++ [cel b2 (oc obZ nl nl nl) 79, cel b7 (oc { obZ with kind := 3, tree := tr } nl nl nl) 79]) := (hS.ceq (l' := oc { obZ with kind := 3, tree := tr } nl nl nl) 3 rfl (oc_s3 _ _ _ _ tr)).sel [0, 1, 2, 3] rfl rfl
      refine gW ?_
      have hF := hS.frame
      refine g_cl rfl rfl (c_num (most := 4) hvt (by omega) hF.1 fun n2 e2 v2 bs2 w1 hr2 hn2 hv2 h' => ?_)
      replace hS := hF.2 _ _ h'
      clear h' hF
      obtain ⟨t1, t1'⟩ := tt.step hr2 (gotS_mono _ _)
      have q2 := hr2.le
      have c2 := hr2.e0
      have z2 := hr2.e1
      have e : prSk 3 (bs1, false) = prS3b (idT (bs1, false)).1 (idT (bs1, false)).2 := rfl
      rw [e]
      clear e hr2 hT0
      generalize idT (bs1, false) = g1 at tt tt' t1 t1' ⊢
      obtain ⟨tr0, stt⟩ := g1
      dsimp only at tt tt' t1 t1' ⊢
      unfold prS3b
      generalize gotS 0 (numS 4) stt = gg at t1 t1' ⊢
      obtain ⟨N, st1⟩ := gg
      dsimp only at t1 t1' ⊢
      have hadd : arv .add e0 e2 = 0 + e0 + e2 := by simp only [arv]; omega
      refine gW ?_
      refine g_rq rfl rfl (in64 (by rw [hadd]; omega)) ?_
      rw [hadd]
      have htr0 : 0 + e0 + e2 = 0 → tr0 = tr := fun h => tt' (by omega)
      generalize 0 + e0 + e2 = e2 at t1 t1' htr0 ⊢
      refine gW ?_
      refine g_lp (ι := Nat × Int × Bs × Value × List Id × Value) (fun x => [(2, dp b2), (4, dp s0), (6, .int .i64 x.2.1), (7, dp b7), (15, .int .u64 (n2 : Int)), (17, .int .u64 (x.1 : Int))])
       (fun x w' => x.1 ≤ n2 ∧ x.2.2.1.length ≤ bs1.length ∧ SubV v0 all x.2.2.2.1 x.2.2.1 ∧ 0 ≤ x.2.1 ∧ x.2.2.2.2.1.length ≤ x.1 ∧ (x.2.1 = 0 → sevS idT N st1 = (x.2.2.2.2.1 ++ (sevS idT (n2 - x.1) (x.2.2.1, false)).1, (sevS idT (n2 - x.1) (x.2.2.1, false)).2)) ∧ (x.2.1 ≠ 0 → (sevS idT N st1).2.2 = true) ∧ (x.2.1 = 0 → tr0 = tr) ∧ St w (fun _ => False) w' (SrcX s0 v0 all x.2.2.2.1 ++ [cel b2 (oc obZ nl nl nl) 79, cel b7 (oc { obZ with kind := 3, tree := tr, pars := x.2.2.2.2.1 } nl nl x.2.2.2.2.2) 79, row x.2.2.2.2.2 46 32 x.2.2.2.2.1.length (fl ic x.2.2.2.2.1)])) (fun x => n2 - x.1) (0, e2, bs2, v2, [], nl)
       ⟨rfl, rfl, rfl, rfl, rfl, rfl, trivial⟩ ⟨Nat.zero_le _, by show bs2.length ≤ bs1.length; omega, hv2, t1.e0, Nat.zero_le _, fun h => ?_, fun h => sev_mono id_mono _ _ (t1.no h), htr0, hS.nilrow 46 32⟩ ?_
      ·show sevS idT N st1 = ([] ++ (sevS idT (n2 - 0) (bs2, false)).1, (sevS idT (n2 - 0) (bs2, false)).2)
       rw [t1.ok h, t1' h]
       rfl
      clear hS hv2 t1 t1' htr0
      rintro ⟨i, wr, cur, v3, acc, va⟩ w1 ⟨hi, hcl, hv3, hw0, hal, hok, hno, htrz, hS⟩
      dsimp only at hi hcl hv3 hw0 hal hok hno hS ⊢
      obtain ⟨a3, c3, rfl⟩ := hS.rlen 4 rfl
      have fin : (i = n2 ∨ wr ≠ 0) → Trk wr cur (sevS idT N st1).2 ∧ (wr = 0 → (sevS idT N st1).1 = acc) := fun hc => by
       have hz : wr = 0 → sevS idT N st1 = (acc, cur, false) := fun h => by
        rcases hc with hc | hc
        ·rw [hok h, hc, Nat.sub_self]
         show (acc ++ [], cur, false) = _
         rw [List.append_nil]
        ·exact absurd h hc
       exact ⟨⟨hw0, fun h => by rw [hz h], hno⟩, fun h => by rw [hz h]⟩
      refine gW ?_
      (generalize hlt : cmv _ _ _ = q; cases q <;> simp only [cmv, arv, Bool.not_eq_true', Bool.not_eq_false', decide_eq_true_eq, decide_eq_false_iff_not] at hlt <;> first | (exfalso; omega) | skip)
      ·have ei : i = n2 := by omega
       obtain ⟨f1, f2⟩ := fin (.inl ei)
       refine gW ?_
       by_cases hw : wr = 0
       rotate_left
       ·rw [show cmv BinOp.eql wr 0 = false by simp only [cmv]; exact decide_eq_false hw]
        refine gW ?_
        refine g_jx ({ obZ with kind := 3, tree := tr, pars := acc }, nl, nl, .slice a3 acc.length c3, wr, cur) ⟨rfl, rfl, rfl, trivial⟩ ⟨⟨hw0, fun h => absurd h hw, fun h => txt_mono _ (f1.no h)⟩, fun h => absurd h hw, ?_⟩
        exact ((hS.nilrow 5 1).nilrow 175 34).sel [2, 3, 5, 6, 4] rfl rfl
       rw [show cmv BinOp.eql wr 0 = true by simp only [cmv]; exact decide_eq_true hw]
       have hF := hS.frame
       refine gW ?_
       refine g_cl rfl rfl (c_msg hv3 (by omega) hF.1 fun m6 e6 v4 bs4 w1 hr6 hv4 h' => ?_)
       replace hS := hF.2 _ _ h'
       clear h' hF
       obtain ⟨t3, t3'⟩ := f1.step hr6 txt_mono
       rw [hw] at t3 t3'
       have ez6 : 0 + e6 = e6 := by omega
       rw [ez6] at t3 t3'
       refine gW ?_
       refine g_ef0 rfl (ef_st hS 3 rfl rfl rfl rfl (by rw [oc_len]; decide) rfl fun w1 hS => ?_)
       replace hS := hS.ceq (l' := oc { obZ with kind := 3, tree := tr, pars := acc, msg := m6 } nl nl (.slice a3 acc.length c3)) 3 rfl (oc_s69 _ _ _ _ _)
       refine gW ?_
       refine g_jx ({ obZ with kind := 3, tree := tr, pars := acc, msg := m6 }, nl, nl, .slice a3 acc.length c3, e6, bs4) ⟨rfl, rfl, rfl, trivial⟩ ⟨t3, fun h => ?_, ?_⟩
       ·show ({ obZ with kind := 3, tree := tr0, pars := (sevS idT N st1).1, msg := (txtS (sevS idT N st1).2).1 } : Obj) = _
        rw [t3' h, f2 hw, htrz hw]
       ·exact ((hS.nilrow 5 1).nilrow 175 34).sel [2, 3, 5, 6, 4] rfl rfl
      have hlt : i < n2 := by omega
      refine gW ?_
      by_cases hw : wr = 0
      rotate_left
      ·have ew : cmv BinOp.eql wr 0 = false := by simp only [cmv]; exact decide_eq_false hw
       rw [ew]
       obtain ⟨f1, f2⟩ := fin (.inr hw)
       refine gW ?_
       rw [ew]
       refine gW ?_
       refine g_jx ({ obZ with kind := 3, tree := tr, pars := acc }, nl, nl, .slice a3 acc.length c3, wr, cur) ⟨rfl, rfl, rfl, trivial⟩ ⟨⟨hw0, fun h => absurd h hw, fun h => txt_mono _ (f1.no h)⟩, fun h => absurd h hw, ?_⟩
       exact ((hS.nilrow 5 1).nilrow 175 34).sel [2, 3, 5, 6, 4] rfl rfl
      rw [show cmv BinOp.eql wr 0 = true by simp only [cmv]; exact decide_eq_true hw]
      have hok := hok hw
      have hF := hS.frame
      refine gW ?_
      refine g_cl rfl rfl (c_id hv3 (by omega) hF.1 fun x e3 v4 cur' w1 hr3 hv4 h' => ?_)
      replace hS := hF.2 _ _ h'
      clear h' hF
      refine gW ?_
      refine g_ef rfl (ef_al hS fun b11 w1 hS => ?_)
      have lz : (zx [(32, Value.int .u8 0)]).length = 32 := by decide
      refine gW ?_
      refine g_ef0 rfl (ef_st hS 5 rfl rfl rfl (ic_len _) (by rw [lz]; decide) (List.all_eq_true.2 (ic_one _)) fun w1 hS => ?_)
      replace hS := hS.ceq (l' := ic x) 5 rfl (spl_full _ _ (by show (ic x).length = _; rw [ic_len, lz]))
      refine gW ?_
      refine g_l1 rfl rfl (hS.b 3 rfl) (v := .slice a3 acc.length c3) (oc_at _ _ _ _).1 ?_
      refine g_lm rfl rfl (hS.b 5 rfl) (Nat.le_of_eq (by rw [ic_len])) ?_
      rw [List.drop_zero, List.take_of_length_le (Nat.le_of_eq (ic_len _))]
      refine g_ef rfl (ef_bl (rs := ic x) hS (evcs_1 rfl (ic_len _)) fun g w2 hS => ?_)
      refine g_ef rfl (ef_ap (n := acc.length) (m := 1) (ys := ic x) hS 4 rfl rfl rfl (.inl ⟨46, .inr ⟨g, 0, 1, _, rfl, Nat.le_refl _, Nat.le_of_eq (by rw [ic_len]), by rw [List.drop_zero, List.take_of_length_le (Nat.le_of_eq (ic_len _))], (hS.b 6 rfl).r⟩⟩) (List.all_eq_true.2 (ic_one x)) (by omega) (by omega) fun va' w2 hS => ?_)
      have est : fl ic acc ++ ic x = fl ic (acc ++ [x]) := by rw [fl_app]; simp [fl]
      have etl : acc.length + 1 = (acc ++ [x]).length := by simp
      rw [est, etl] at hS
      obtain ⟨a5, c5, rfl⟩ := hS.rlen 4 rfl
      refine gW ?_
      refine g_ef0 rfl (ef_st hS 3 rfl rfl rfl rfl (by rw [oc_len]; decide) rfl fun w1 hS => ?_)
      replace hS := hS.ceq (l' := oc { obZ with kind := 3, tree := tr, pars := acc ++ [x] } nl nl (.slice a5 (acc ++ [x]).length c5)) 3 rfl (oc_s35 { obZ with kind := 3, tree := tr, pars := acc ++ [x] } _ _ _ _)
      refine gW ?_
      rw [show IntKind.u64.wrap (arv .add (i : Int) 1) = ((i + 1 : Nat) : Int) by rw [show arv .add (i : Int) 1 = ((i + 1 : Nat) : Int) by simp only [arv]; omega]; exact u64n (by omega)]
      have en : n2 - i = (n2 - (i + 1)) + 1 := by omega
      have es : sevS idT (n2 - i) (cur, false) = ((idT (cur, false)).1 :: (sevS idT (n2 - (i + 1)) (idT (cur, false)).2).1, (sevS idT (n2 - (i + 1)) (idT (cur, false)).2).2) := by rw [en]; rfl
      have q3 := hr3.le
      refine g_l (i + 1, e3, cur', v4, acc ++ [x], .slice a5 (acc ++ [x]).length c5) ⟨rfl, rfl, rfl, rfl, rfl, rfl, trivial⟩ ⟨hlt, by simp only; omega, hv4, hr3.e0, by rw [← etl]; simp only; omega, fun h => ?_, fun h => ?_, fun _ => htrz hw, hS.sel [0, 1, 2, 3, 4] rfl rfl⟩ (by simp only; omega)
      ·show sevS idT N st1 = (acc ++ [x] ++ (sevS idT (n2 - (i + 1)) (cur', false)).1, (sevS idT (n2 - (i + 1)) (cur', false)).2)
       rw [hok, es, hr3.ok h, List.append_assoc]
       rfl
      ·rw [hok, es]
       exact sev_mono id_mono _ _ (hr3.no h)
    ·have ek : k = 2 := by omega
     subst ek
     refine gW ?_
     have hF := hS.frame
     refine g_cl rfl rfl (c_num (most := 32) hv1 (by omega) hF.1 fun n2 e2 v2 bs2 w1 hr2 hn2 hv2 h' => ?_)
     replace hS := hF.2 _ _ h'
     clear h' hF
     obtain ⟨t1, t1'⟩ := hT0.step hr2 (gotS_mono _ _)
     have q2 := hr2.le
     have c2 := hr2.e0
     have ez : 0 + e2 = e2 := by omega
     rw [ez] at t1 t1'
     have e : prSk 2 (bs1, false) = ({ obZ with kind := 2, ents := (sevS entS (gotS 0 (numS 32) (bs1, false)).1 (gotS 0 (numS 32) (bs1, false)).2).1 }, (sevS entS (gotS 0 (numS 32) (bs1, false)).1 (gotS 0 (numS 32) (bs1, false)).2).2) := rfl
     rw [e]
     clear e hr2 hT0
     generalize gotS 0 (numS 32) (bs1, false) = gg at t1 t1' ⊢
     obtain ⟨N, st1⟩ := gg
     dsimp only at t1 t1' ⊢
     refine gW ?_
     refine g_lp (ι := Nat × Int × Bs × Value × List En × Value) (fun x => [(2, dp b2), (4, dp s0), (6, .int .i64 x.2.1), (7, dp b7), (8, .int .u64 (n2 : Int)), (10, .int .u64 (x.1 : Int))])
      (fun x w' => x.1 ≤ n2 ∧ x.2.2.1.length ≤ bs1.length ∧ SubV v0 all x.2.2.2.1 x.2.2.1 ∧ 0 ≤ x.2.1 ∧ x.2.2.2.2.1.length ≤ x.1 ∧ (x.2.1 = 0 → sevS entS N st1 = (x.2.2.2.2.1 ++ (sevS entS (n2 - x.1) (x.2.2.1, false)).1, (sevS entS (n2 - x.1) (x.2.2.1, false)).2)) ∧ (x.2.1 ≠ 0 → (sevS entS N st1).2.2 = true) ∧ St w (fun _ => False) w' (SrcX s0 v0 all x.2.2.2.1 ++ [cel b2 (oc obZ nl nl nl) 79, cel b7 (oc { obZ with kind := 2, ents := x.2.2.2.2.1 } nl x.2.2.2.2.2 nl) 79, row x.2.2.2.2.2 175 34 x.2.2.2.2.1.length (fl enC x.2.2.2.2.1)])) (fun x => n2 - x.1) (0, e2, bs2, v2, [], nl)
      ⟨rfl, rfl, rfl, rfl, rfl, rfl, trivial⟩ ⟨Nat.zero_le _, q2, hv2, c2, Nat.zero_le _, fun h => ?_, fun h => sev_mono ent_mono _ _ (t1.no h), hS.nilrow 175 34⟩ ?_
     ·show sevS entS N st1 = ([] ++ (sevS entS (n2 - 0) (bs2, false)).1, (sevS entS (n2 - 0) (bs2, false)).2)
      rw [t1.ok h, t1' h]
      rfl
     clear hS hv2 t1 t1'
     rintro ⟨i, wr, cur, v3, acc, va⟩ w1 ⟨hi, hcl, hv3, hw0, hal, hok, hno, hS⟩
     dsimp only at hi hcl hv3 hw0 hal hok hno hS ⊢
     obtain ⟨a3, c3, rfl⟩ := hS.rlen 4 rfl
     have fin : (i = n2 ∨ wr ≠ 0) → Trk wr cur (sevS entS N st1).2 ∧ (wr = 0 → ({ obZ with kind := 2, ents := (sevS entS N st1).1 } : Obj) = { obZ with kind := 2, ents := acc }) := fun hc => by
      have hz : wr = 0 → sevS entS N st1 = (acc, cur, false) := fun h => by
       rcases hc with hc | hc
       ·rw [hok h, hc, Nat.sub_self]
        show (acc ++ [], cur, false) = _
        rw [List.append_nil]
       ·exact absurd h hc
      exact ⟨⟨hw0, fun h => by rw [hz h], hno⟩, fun h => by rw [hz h]⟩
     refine gW ?_
     (generalize hlt : cmv _ _ _ = q; cases q <;> simp only [cmv, arv, Bool.not_eq_true', Bool.not_eq_false', decide_eq_true_eq, decide_eq_false_iff_not] at hlt <;> first | (exfalso; omega) | skip)
     ·have ei : i = n2 := by omega
      obtain ⟨f1, f2⟩ := fin (.inl ei)
      refine gW ?_
      refine g_jx ({ obZ with kind := 2, ents := acc }, nl, .slice a3 acc.length c3, nl, wr, cur) ⟨rfl, rfl, rfl, trivial⟩ ⟨f1, f2, ?_⟩
      exact ((hS.nilrow 5 1).nilrow 46 32).sel [2, 3, 5, 4, 6] rfl rfl
     have hlt : i < n2 := by omega
     refine gW ?_
     by_cases hw : wr = 0
     rotate_left
     ·rw [show cmv BinOp.eql wr 0 = false by simp only [cmv]; exact decide_eq_false hw]
      obtain ⟨f1, f2⟩ := fin (.inr hw)
      refine gW ?_
      refine g_jx ({ obZ with kind := 2, ents := acc }, nl, .slice a3 acc.length c3, nl, wr, cur) ⟨rfl, rfl, rfl, trivial⟩ ⟨f1, f2, ?_⟩
      exact ((hS.nilrow 5 1).nilrow 46 32).sel [2, 3, 5, 4, 6] rfl rfl
     rw [show cmv BinOp.eql wr 0 = true by simp only [cmv]; exact decide_eq_true hw]
     have hok := hok hw
     have hF := hS.frame
     refine gW ?_
     refine g_cl rfl rfl (c_ent hv3 (by omega) hF.1 fun x e3 v4 cur' w1 hr3 hv4 h' => ?_)
     replace hS := hF.2 _ _ h'
     clear h' hF
     refine gW ?_
     refine g_ef rfl (ef_al hS fun b11 w1 hS => ?_)
     have lz : (zx [(1, .string ⟨#[]⟩), (1, .int .i64 0), (32, .int .u8 0)]).length = 34 := by decide
     refine gW ?_
     refine g_ef0 rfl (ef_st hS 5 rfl rfl rfl (enC_len _) (by rw [lz]; decide) (List.all_eq_true.2 (enC_one _)) fun w1 hS => ?_)
     replace hS := hS.ceq (l' := enC x) 5 rfl (spl_full _ _ (by show (enC x).length = _; rw [enC_len, lz]))
     refine gW ?_
     refine g_l1 (off := 2) rfl rfl (hS.b 3 rfl) (v := .slice a3 acc.length c3) rfl ?_
     refine g_lm rfl rfl (hS.b 5 rfl) (Nat.le_of_eq (by rw [enC_len])) ?_
     rw [List.drop_zero, List.take_of_length_le (Nat.le_of_eq (enC_len _))]
     refine g_ef rfl (ef_bl (rs := enC x) hS (evcs_1 rfl (enC_len _)) fun g w2 hS => ?_)
     refine g_ef rfl (ef_ap (n := acc.length) (m := 1) (ys := enC x) hS 4 rfl rfl rfl (.inl ⟨175, .inr ⟨g, 0, 1, _, rfl, Nat.le_refl _, Nat.le_of_eq (by rw [enC_len]), by rw [List.drop_zero, List.take_of_length_le (Nat.le_of_eq (enC_len _))], (hS.b 6 rfl).r⟩⟩) (List.all_eq_true.2 (enC_one x)) (by omega) (by omega) fun va' w2 hS => ?_)
     have est : fl enC acc ++ enC x = fl enC (acc ++ [x]) := by rw [fl_app]; simp [fl]
     have etl : acc.length + 1 = (acc ++ [x]).length := by simp
     rw [est, etl] at hS
     obtain ⟨a5, c5, rfl⟩ := hS.rlen 4 rfl
     refine gW ?_
     refine g_ef0 rfl (ef_st hS 3 rfl rfl rfl rfl (by rw [oc_len]; decide) rfl fun w1 hS => ?_)
     replace hS := hS.ceq (l' := oc { obZ with kind := 2, ents := acc ++ [x] } nl (.slice a5 (acc ++ [x]).length c5) nl) 3 rfl rfl
     refine gW ?_
     rw [show IntKind.u64.wrap (arv .add (i : Int) 1) = ((i + 1 : Nat) : Int) by rw [show arv .add (i : Int) 1 = ((i + 1 : Nat) : Int) by simp only [arv]; omega]; exact u64n (by omega)]
     have en : n2 - i = (n2 - (i + 1)) + 1 := by omega
     have es : sevS entS (n2 - i) (cur, false) = ((entS (cur, false)).1 :: (sevS entS (n2 - (i + 1)) (entS (cur, false)).2).1, (sevS entS (n2 - (i + 1)) (entS (cur, false)).2).2) := by rw [en]; rfl
     have q3 := hr3.le
     refine g_l (i + 1, e3, cur', v4, acc ++ [x], .slice a5 (acc ++ [x]).length c5) ⟨rfl, rfl, rfl, rfl, rfl, rfl, trivial⟩ ⟨hlt, by simp only; omega, hv4, hr3.e0, by rw [← etl]; simp only; omega, fun h => ?_, fun h => ?_, hS.sel [0, 1, 2, 3, 4] rfl rfl⟩ (by simp only; omega)
     ·show sevS entS N st1 = (acc ++ [x] ++ (sevS entS (n2 - (i + 1)) (cur', false)).1, (sevS entS (n2 - (i + 1)) (cur', false)).2)
      rw [hok, es, hr3.ok h, List.append_assoc]
      rfl
     ·rw [hok, es]
      exact sev_mono ent_mono _ _ (hr3.no h)
   ·have ek : k = 1 := by omega
    subst ek
    have e : prSk 1 (bs1, false) = prS1 (bs1, false) := rfl
    rw [e]
    refine gW ?_
    have hF := hS.frame
    refine g_cl rfl rfl (c_byt (most := 1024) (by decide) hv1 (by omega) hF.1 fun l4 u4 e4 v2 bs2 w1 hr4 hv2 h' => ?_)
    replace hS := hF.2 _ _ h'
    clear h' hF
    obtain ⟨t1, t1'⟩ := hT0.step hr4 (gotS_mono _ _)
    obtain ⟨a4, c4, rfl⟩ := hS.rlen 2 rfl
    have ez : 0 + e4 = e4 := by omega
    rw [ez] at t1 t1'
    refine gW ?_
    refine g_ef0 rfl (ef_st hS 4 rfl rfl rfl rfl (Nat.le_of_ble_eq_true rfl) rfl fun w1 hS => ?_)
    replace hS := hS.ceq (l' := oc { obZ with kind := 1, data := l4 } (.slice a4 l4.length c4) nl nl) 4 rfl rfl
    refine gW ?_
    refine g_jx ({ obZ with kind := 1, data := l4 }, .slice a4 l4.length c4, nl, nl, e4, bs2) ⟨rfl, rfl, rfl, trivial⟩ ⟨t1, fun h => ?_, ?_⟩
    ·show ({ obZ with kind := 1, data := (gotS [] (bytS 1024) (bs1, false)).1 } : Obj) = _
     rw [t1' h]
    ·exact ((hS.nilrow 175 34).nilrow 46 32).sel [3, 4, 2, 5, 6] rfl rfl
  ·clear hS
   rintro ⟨o, vd, ve, vp, e, cur⟩ T w1 hT ⟨htr, hof, hS⟩
   dsimp only at htr hof hS
   refine g_wkc hT ?_
   have lq := oc_len o vd ve vp
   have hone1 : (oc o vd ve vp).all (·.oneCell') = true := by
    obtain ⟨x1, y1, e1⟩ := hS.rlen 2 rfl; obtain ⟨x2, y2, e2⟩ := hS.rlen 3 rfl; obtain ⟨x3, y3, e3⟩ := hS.rlen 4 rfl; subst e1 e2 e3; exact oc_one rfl rfl rfl
   refine gW ?_
   refine g_lm rfl rfl (hS.b 1 rfl) (Nat.le_of_eq (by rw [lq])) ?_
   rw [List.drop_zero, List.take_of_length_le (Nat.le_of_eq lq)]
   refine gW ?_
   refine g_ef0 rfl (ef_st hS 0 rfl rfl rfl lq (Nat.le_of_ble_eq_true rfl) hone1 fun w1 hS => ?_)
   replace hS := hS.ceq (l' := oc o vd ve vp) 0 rfl (spl_full _ _ lq)
   refine gW ?_
   refine g_ret (q_c2 (n := 70) rfl (by kernel_rfl) (hS.b 0 rfl) (Nat.le_of_eq (by rw [lq])) rfl ?_)
   rw [List.drop_zero, List.take_of_length_le (Nat.le_of_eq lq)]
   refine h o vd ve vp e cur w1 htr.e0 (fun h => ?_) htr.no (hS.sel [2, 3, 4] rfl rfl)
   rw [← hof h, ← htr.ok h]
end
section
variable {w w0 : World} {S0 : Nat → Prop} {L B : List Res} {K : Value → World → Prop} {s : Bs} {E0 E1 : Nat}
set_option maxRecDepth 100000 in
set_option maxHeartbeats 4000000 in
theorem r_ParseO {all : Bs} {v : Value} {n : Nat} (hl : all.length = n) (hn : n < 1000000000) (hr : Rd v E0 1 n (bys all) w) (h : ∀ vd ve vp w', St w (fun _ => False) w' (rowO (obP all) vd ve vp) → K (.tuple ⟨[.agg ⟨oc (obP all) vd ve vp⟩, .int .i64 (if okP all then 0 else 70)]⟩) w') : CK Tryz.prog 30 [v] w K := by
 have hS := St.nil w (fun _ => False)
 have hrr : ∀ {L : List Res} (w' : World), St w (fun _ => False) w' L → Rd v E0 1 n (bys all) w' := fun w' hS => hr.same fun b hb => hS.fr.kept b (hr.lt b hb) (fun h => h)
 have bad : ∀ {w' : World} {L : List Res}, ¬ okP all → St w (fun _ => False) w' L → K (.tuple ⟨[.agg ⟨oc obZ nl nl nl⟩, .int .i64 70]⟩) w' := fun hno hS => by
  have := h nl nl nl _ ((((hS.sub (A := []) (List.nil_sublist _)).nilrow 5 1).nilrow 175 34).nilrow 46 32 |> fun hS => by
   unfold obP; rw [if_neg hno]; exact hS)
  unfold obP at this
  rw [if_neg hno, if_neg hno] at this
  exact this
 refine call_k Tryz.func30 k30 Tryz.ntmps30 (Nat.le_of_ble_eq_true rfl) ?_
 refine gW ?_
 refine g_ef rfl (ef_al hS fun b2 w1 hS => ?_)
 replace hS : St w (fun _ => False) w1 [cel b2 (oc obZ nl nl nl) 79] := hS
 refine gW ?_
 refine g_cl rfl rfl (r_read hl hn (hrr _ hS) fun o vd ve vp e rest w2 he0 hok hno h' => ?_)
 replace hS := hS.call0.2 _ _ h'
 clear h'
 have lq := oc_len o vd ve vp
 have hone1 : (oc o vd ve vp).all (·.oneCell') = true := by
  obtain ⟨x1, y1, e1⟩ := hS.rlen 1 rfl; obtain ⟨x2, y2, e2⟩ := hS.rlen 2 rfl; obtain ⟨x3, y3, e3⟩ := hS.rlen 3 rfl; subst e1 e2 e3; exact oc_one rfl rfl rfl
 refine gW ?_
 refine g_ef rfl (ef_al hS fun b4 w1 hS => ?_)
 refine gW ?_
 refine g_ef0 rfl (ef_st hS 4 rfl rfl rfl lq (Nat.le_of_ble_eq_true rfl) hone1 fun w1 hS => ?_)
 replace hS := hS.ceq (l' := oc o vd ve vp) 4 rfl (spl_full _ _ lq)
 refine gW ?_
 by_cases hz : e = 0
 rotate_left
 ·rw [show cmv BinOp.neq e 0 = true by simp only [cmv]; rw [decide_eq_false hz]; rfl]
  refine gW ?_
  refine g_ef0 rfl (ef_st hS 0 rfl rfl rfl rfl (Nat.le_of_ble_eq_true rfl) rfl fun w1 hS => ?_)
  replace hS := hS.ceq (l' := oc obZ nl nl nl) 0 rfl (spl_full _ _ rfl)
  refine gW ?_
  refine g_ret (q_c2 (n := 70) rfl (by kernel_rfl) (hS.b 0 rfl) (Nat.le_of_ble_eq_true rfl) rfl ?_)
  refine bad (fun h => ?_) hS
  have h1 := h.1
  have h2 := hno hz
  rw [h1] at h2
  cases h2
 rw [show cmv BinOp.neq e 0 = false by simp only [cmv]; rw [hz]; rfl]
 have hP := hok hz
 have hOB : OB o := by have := prS_OB all; rwa [hP] at this
 have hOR : ∀ {w' : World} {L : List Res}, St w (fun _ => False) w' (cel b2 (oc obZ nl nl nl) 79 :: (rowO o vd ve vp ++ L)) → OR o vd ve vp w' := fun hS => ⟨⟨_, Ow.rd (hS.ok 1 _ rfl)⟩, ⟨_, Ow.rd (hS.ok 2 _ rfl)⟩, ⟨_, Ow.rd (hS.ok 3 _ rfl)⟩⟩
 have hkP : okP all ↔ rest = [] ∧ okO o := by
  unfold okP
  rw [hP]
  constructor
  ·rintro ⟨h1, h2⟩; cases h1; exact ⟨rfl, h2⟩
  ·rintro ⟨rfl, h2⟩; exact ⟨rfl, h2⟩
 have hob : okP all → obP all = o := fun h => by unfold obP; rw [if_pos h, hP]
 refine gW ?_
 refine g_lm rfl rfl (hS.b 4 rfl) (Nat.le_of_eq (by rw [lq])) ?_
 rw [List.drop_zero, List.take_of_length_le (Nat.le_of_eq lq)]
 refine g_cl rfl rfl (r_EncodeO (hOR (L := [_]) hS) hOB (fun hno w2 h' => ?_) (fun hyes v' w2 h' => ?_))
 ·replace hS := hS.call0.2 _ _ h'
  rw [List.append_nil] at hS
  clear h'
  refine gW ?_
  refine g_ef0 rfl (ef_st hS 0 rfl rfl rfl rfl (Nat.le_of_ble_eq_true rfl) rfl fun w1 hS => ?_)
  replace hS := hS.ceq (l' := oc obZ nl nl nl) 0 rfl (spl_full _ _ rfl)
  refine gW ?_
  refine g_ret (q_c2 (n := 70) rfl (by kernel_rfl) (hS.b 0 rfl) (Nat.le_of_ble_eq_true rfl) rfl ?_)
  exact bad (fun h => hno (hkP.1 h).2) hS
 ·replace hS := hS.call0.2 _ _ h'
  clear h'
  have hk : o.kind = 1 ∨ o.kind = 2 ∨ o.kind = 3 ∨ o.kind = 4 := by rcases hyes with h | h | h | h <;> have := h.1 <;> omega
  have hall := prS_ok hP hk
  refine gW ?_
  refine g_qt rfl (qt_bsR rfl (Ow.rd (hS.ok 5 _ rfl))) ?_
  refine gW ?_
  refine g_qt rfl (qt_bsR rfl (hrr _ hS)) ?_
  refine gW ?_
  by_cases hr0 : encO o = all
  ·rw [show (!decide ((⟨(encO o).toArray⟩ : ByteArray).data.toList = (⟨all.toArray⟩ : ByteArray).data.toList)) = false by rw [decide_eq_true hr0]; rfl]
   have hrest : rest = [] := by
    have := congrArg List.length hall
    rw [List.length_append, hr0] at this
    exact List.eq_nil_of_length_eq_zero (by omega)
   have hPk := hkP.2 ⟨hrest, hyes⟩
   refine gW ?_
   refine g_lm rfl rfl (hS.b 4 rfl) (Nat.le_of_eq (by rw [lq])) ?_
   rw [List.drop_zero, List.take_of_length_le (Nat.le_of_eq lq)]
   refine g_ef0 rfl (ef_st hS 0 rfl rfl rfl lq (Nat.le_of_ble_eq_true rfl) hone1 fun w1 hS => ?_)
   replace hS := hS.ceq (l' := oc o vd ve vp) 0 rfl (spl_full _ _ lq)
   refine gW ?_
   refine g_ret (q_c2 (n := 70) rfl (by kernel_rfl) (hS.b 0 rfl) (Nat.le_of_eq (by rw [lq])) rfl ?_)
   rw [List.drop_zero, List.take_of_length_le (Nat.le_of_eq lq)]
   have := h vd ve vp w1 (by rw [hob hPk]; exact hS.sel [1, 2, 3] rfl rfl)
   rw [hob hPk, if_pos hPk] at this
   exact this
  ·rw [show (!decide ((⟨(encO o).toArray⟩ : ByteArray).data.toList = (⟨all.toArray⟩ : ByteArray).data.toList)) = true by rw [decide_eq_false hr0]; rfl]
   refine gW ?_
   refine g_ef0 rfl (ef_st hS 0 rfl rfl rfl rfl (Nat.le_of_ble_eq_true rfl) rfl fun w1 hS => ?_)
   replace hS := hS.ceq (l' := oc obZ nl nl nl) 0 rfl (spl_full _ _ rfl)
   refine gW ?_
   refine g_ret (q_c2 (n := 70) rfl (by kernel_rfl) (hS.b 0 rfl) (Nat.le_of_ble_eq_true rfl) rfl ?_)
   exact bad (fun h => hr0 (by rw [hall, (hkP.1 h).1, List.append_nil])) hS
end
def m47 : MC := .sq (.rg [.c 2 (.pointer none)]) (.sq (.rg [.t 3 0, .o 4 (.mkm), .o 5 (.bd [(1, .pointer none), (1, .map none)] [(0, 1, .tmp 3), (1, 1, .tmp 4)]), .o 6 (.bx 143 (.tmp 5)), .t 2 6]) (.rt))
theorem k47 : Tryz.f47.body.any (fun c => chkC Tryz.prog c m47 && allD (dlt 7) m47) = true := by kernel_rfl
def m25 : MC := .sq (.rg [.c 4 (.slice none 0 0)]) (.sq (.rg [.t 11 0, .o 12 (.cl 47 [.tmp 11]), .t 5 12]) (.sq (.rg [.t 13 1, .o 14 (.cl 17 [.tmp 13]), .t 6 14]) (.sq (.rg [.c 7 (.slice none 0 0)]) (.sq (.sq (.rg [.t 15 6, .o 16 (.ln false (.tmp 15)), .c 17 (.int .i64 0)]) (.bk 0 (.lp (.sq (.rg [.o 18 (.cm .lss (.tmp 17) (.tmp 16))]) (.sq (.cd (.tmp 18) (.sk) (.xt 0)) (.sq (.bk 1 (.sq (.rg [.o 19 (.ias (.tmp 15) (.tmp 17) 32), .o 20 (.ld (.tmp 19) (some 32)), .o 9 (.al [(32, .int .u8 0)] 46), .e (.st (.tmp 9) (.tmp 20) 32)]) (.rg [.t 21 7, .t 22 5, .o 23 (.ld (.tmp 9) (some 32)), .o 24 (.cl 48 [.tmp 22, .tmp 23]), .o 25 (.ap 46 32 32 [(32, .int .u8 0)] (.tmp 21) (.tmp 24)), .t 7 25]))) (.rg [.o 26 (.ar .add .i64 (.tmp 17) (.const (.int .i64 1)) true), .t 17 26]))))))) (.sq (.rg [.t 27 5, .t 28 7, .o 29 (.cl 50 [.tmp 27, .tmp 28]), .o 30 (.cl 49 [.tmp 29]), .o 31 (.cl 17 [.tmp 30]), .t 10 31]) (.sq (.rg [.t 32 6, .t 33 10, .o 34 (.cl 51 [.tmp 32, .tmp 33]), .t 4 34]) (.rt)))))))
theorem k25 : Tryz.f25.body.any (fun c => chkC Tryz.prog c m25 && allD (dlt 35) m25) = true := by kernel_rfl
def m80 : MC := .sq (.rg [.o 3 (.bx 46 (.tmp 1)), .c 4 (.bool false)]) (.sq (.dr [.t 5 0, .o 6 (.nc (.tmp 5)), .o 7 (.fa (.tmp 6) 0), .o 8 (.ld (.tmp 7) none), .o 9 (.ld (.tmp 3) (some 32)), .o 10 (.cl 140 [.tmp 8, .tmp 9]), .o 11 (.cm .eql (.tmp 10) (.const (.int .i64 3))), .t 4 11] [0, 1, 3, 7, 0, 31, 63, 127] (.q 0 (.q 1 (.q 2 (.q 3 (.q 4 (.e 5 [] (.q 6 (.q 7 (.fin)))))))))) (.rt))
theorem k80 : Tryz.f80.body.any (fun c => chkC Tryz.prog c m80 && allD (dlt 12) m80) = true := by kernel_rfl
def m48 : MC := .sq (.rg [.o 2 (.bx 96 (.tmp 0)), .o 3 (.bx 46 (.tmp 1)), .c 4 (.slice none 0 0)]) (.sq (.dr [.o 8 (.ld (.tmp 2) none), .o 9 (.nc (.tmp 8)), .o 10 (.fa (.tmp 9) 0), .o 11 (.ld (.tmp 10) none), .o 12 (.ld (.tmp 3) (some 32)), .o 13 (.cl 77 [.tmp 11, .tmp 12]), .t 7 13, .o 14 (.ex (.tmp 7) 0), .o 15 (.ex (.tmp 7) 1), .o 5 (.al [(1, .int .i64 0), (2, .slice none 0 0), (32, .int .u8 0), (1, .slice none 0 0), (1, .int .i64 0), (32, .int .u8 0), (1, .string ⟨#[]⟩)] 79), .e (.st (.tmp 5) (.tmp 14) 70), .t 6 15] [0, 1, 3, 7, 0, 31, 63, 127, 127, 0, 767, 2047] (.q 0 (.q 1 (.q 2 (.q 3 (.q 4 (.alt [.e 5 [] (.q 6 (.q 7 (.q 8 (.e 9 [] (.e 10 [] (.q 11 (.fin))))))), .e 9 [0, 3, 4] (.e 5 [] (.q 6 (.q 7 (.q 8 (.e 10 [] (.q 11 (.fin)))))))]))))))) (.sq (.sq (.rg [.t 16 6, .o 17 (.nt (.tmp 16)), .t 18 17, .q 19 18 false (.fa (.tmp 5) 0), .q 20 18 false (.ld (.tmp 19) none), .q 21 18 false (.cm .neq (.tmp 20) (.const (.int .i64 3))), .o 22 (.pk (.tmp 18) (.const (.bool true)) (.tmp 21))]) (.cd (.tmp 22) (.sq (.rg [.c 4 (.slice none 0 0)]) (.rt)) (.sk))) (.sq (.rg [.o 23 (.fa (.tmp 5) 35), .o 24 (.ld (.tmp 23) none), .o 25 (.mf 79 [] [.tmp 2]), .o 26 (.cl 78 [.tmp 24, .tmp 25]), .t 4 26]) (.rt))))
theorem k48 : Tryz.f48.body.any (fun c => chkC Tryz.prog c m48 && allD (dlt 27) m48) = true := by kernel_rfl
def m79 : MC := .sq (.rg [.o 2 (.bx 46 (.tmp 0)), .c 3 (.bool false)]) (.sq (.rg [.o 4 (.ld (.tmp 1) none), .o 5 (.ld (.tmp 2) (some 32)), .o 6 (.cl 80 [.tmp 4, .tmp 5]), .o 7 (.nt (.tmp 6)), .t 3 7]) (.rt))
theorem k79 : Tryz.f79.body.any (fun c => chkC Tryz.prog c m79 && allD (dlt 8) m79) = true := by kernel_rfl
def m84 : MC := .sq (.rg [.o 2 (.bx 96 (.tmp 0)), .o 3 (.bx 46 (.tmp 1)), .c 4 (.int .i64 0)]) (.sq (.sq (.rg [.o 14 (.ld (.tmp 2) none), .o 15 (.ld (.tmp 3) (some 32)), .o 16 (.cl 80 [.tmp 14, .tmp 15]), .o 17 (.nt (.tmp 16))]) (.cd (.tmp 17) (.sq (.rg [.c 4 (.int .i64 0)]) (.rt)) (.sk))) (.sq (.rg [.o 18 (.mkm), .o 5 (.al [(1, .map none)] 141), .e (.st (.tmp 5) (.tmp 18) 1)]) (.sq (.rg [.o 19 (.ld (.tmp 3) (some 32)), .o 20 (.bl 46 32 [.tmp 19]), .t 6 20]) (.sq (.bk 0 (.lp (.sq (.sq (.rg [.t 21 6, .o 22 (.ln false (.tmp 21)), .o 23 (.cm .gtr (.tmp 22) (.const (.int .i64 0)))]) (.cd (.tmp 23) (.sk) (.xt 0))) (.bk 1 (.sq (.rg [.t 24 6, .t 25 6, .o 26 (.ln false (.tmp 25)), .o 27 (.ar .sub .i64 (.tmp 26) (.const (.int .i64 1)) true), .o 28 (.ias (.tmp 24) (.tmp 27) 32), .o 29 (.ld (.tmp 28) (some 32)), .o 7 (.al [(32, .int .u8 0)] 46), .e (.st (.tmp 7) (.tmp 29) 32)]) (.sq (.sq (.dr [.o 31 (.ld (.tmp 2) none), .o 32 (.nc (.tmp 31)), .o 33 (.fa (.tmp 32) 1), .o 34 (.ld (.tmp 33) none), .o 35 (.ld (.tmp 7) (some 32)), .o 36 (.mlk 46 false [(1, .int .i64 0)] true (.tmp 34) (.tmp 35)), .t 30 36, .o 37 (.ex (.tmp 30) 0), .o 38 (.ex (.tmp 30) 1), .t 8 37, .t 9 38] [0, 1, 3, 7, 0, 31, 63, 127, 127, 255, 1023] (.q 0 (.q 1 (.q 2 (.q 3 (.q 4 (.e 5 [] (.q 6 (.q 7 (.q 8 (.q 9 (.q 10 (.fin))))))))))))) (.sq (.rg [.t 39 9]) (.cd (.tmp 39) (.sq (.rg [.t 40 6, .t 41 6, .o 42 (.ln false (.tmp 41)), .o 43 (.ar .sub .i64 (.tmp 42) (.const (.int .i64 1)) true), .o 44 (.sl (.tmp 40) none (some (.tmp 43)) none 32), .t 6 44]) (.xt 1)) (.sk)))) (.sq (.dr [.o 45 (.ld (.tmp 5) none), .o 46 (.ld (.tmp 7) (some 32)), .o 47 (.mlk 46 false [(1, .int .i64 0)] false (.tmp 45) (.tmp 46)), .o 48 (.ar .add .i64 (.tmp 47) (.const (.int .i64 1)) true), .o 49 (.me 46 false [(1, .int .i64 0)] (.tmp 45) (.tmp 46)), .o 50 (.ex (.tmp 49) 1), .e (.es (.tmp 45) (.tmp 50) (.tmp 48))] [0, 0, 3, 7, 3, 19, 63] (.q 0 (.q 1 (.alt [.e 2 [] (.q 3 (.e 4 [] (.q 5 (.e 6 [] (.fin))))), .e 4 [] (.q 5 (.e 2 [] (.q 3 (.e 6 [] (.fin)))))])))) (.sq (.rg [.o 51 (.ld (.tmp 2) none), .o 52 (.ld (.tmp 7) (some 32)), .o 53 (.cl 48 [.tmp 51, .tmp 52]), .o 54 (.mf 142 [] [.tmp 2, .tmp 5]), .o 55 (.cl 78 [.tmp 53, .tmp 54]), .t 10 55]) (.sq (.sq (.rg [.t 56 10, .o 57 (.ln false (.tmp 56)), .o 58 (.cm .gtr (.tmp 57) (.const (.int .i64 0))), .t 59 58, .q 60 59 true (.ld (.tmp 5) none), .q 61 59 true (.ld (.tmp 7) (some 32)), .q 62 59 true (.mlk 46 false [(1, .int .i64 0)] false (.tmp 60) (.tmp 61)), .q 63 59 true (.cm .eql (.tmp 62) (.const (.int .i64 1))), .o 64 (.pk (.tmp 59) (.tmp 63) (.const (.bool false)))]) (.cd (.tmp 64) (.sq (.rg [.t 65 6, .t 66 10, .o 67 (.ap 46 32 32 [(32, .int .u8 0)] (.tmp 65) (.tmp 66)), .t 6 67]) (.xt 1)) (.sk))) (.sq (.rg [.c 11 (.int .i64 0)]) (.sq (.sq (.rg [.o 68 (.ld (.tmp 2) none), .o 69 (.ld (.tmp 7) (some 32)), .o 70 (.cl 48 [.tmp 68, .tmp 69]), .o 71 (.ln false (.tmp 70)), .c 72 (.int .i64 0)]) (.bk 2 (.lp (.sq (.rg [.o 73 (.cm .lss (.tmp 72) (.tmp 71))]) (.sq (.cd (.tmp 73) (.sk) (.xt 2)) (.sq (.bk 3 (.sq (.rg [.o 74 (.ias (.tmp 70) (.tmp 72) 32), .o 75 (.ld (.tmp 74) (some 32)), .o 13 (.al [(32, .int .u8 0)] 46), .e (.st (.tmp 13) (.tmp 75) 32)]) (.dr [.t 76 11, .o 77 (.ld (.tmp 2) none), .o 78 (.nc (.tmp 77)), .o 79 (.fa (.tmp 78) 1), .o 80 (.ld (.tmp 79) none), .o 81 (.ld (.tmp 13) (some 32)), .o 82 (.mlk 46 false [(1, .int .i64 0)] false (.tmp 80) (.tmp 81)), .o 83 (.mm true (.tmp 76) (.tmp 82)), .t 11 83] [0, 0, 2, 6, 14, 0, 62, 127, 255] (.q 0 (.q 1 (.q 2 (.q 3 (.q 4 (.q 5 (.e 6 [] (.q 7 (.e 8 [] (.fin))))))))))))) (.rg [.o 84 (.ar .add .i64 (.tmp 72) (.const (.int .i64 1)) true), .t 72 84]))))))) (.dr [.o 85 (.ld (.tmp 2) none), .o 86 (.nc (.tmp 85)), .o 87 (.fa (.tmp 86) 1), .o 88 (.ld (.tmp 87) none), .o 89 (.ld (.tmp 7) (some 32)), .t 90 11, .o 91 (.ar .add .i64 (.tmp 90) (.const (.int .i64 1)) true), .e (.mup 46 (.tmp 88) (.tmp 89) (.tmp 91))] [0, 1, 3, 7, 0, 0, 32, 127] (.q 0 (.q 1 (.q 2 (.q 3 (.q 4 (.q 5 (.q 6 (.e 7 [] (.fin))))))))))))))))))))) (.sq (.dr [.o 92 (.ld (.tmp 2) none), .o 93 (.nc (.tmp 92)), .o 94 (.fa (.tmp 93) 1), .o 95 (.ld (.tmp 94) none), .o 96 (.ld (.tmp 3) (some 32)), .o 97 (.mlk 46 false [(1, .int .i64 0)] false (.tmp 95) (.tmp 96)), .t 4 97] [0, 1, 3, 7, 0, 31, 63] (.q 0 (.q 1 (.q 2 (.q 3 (.q 4 (.e 5 [] (.q 6 (.fin))))))))) (.rt))))))
theorem k84 : Tryz.f84.body.any (fun c => chkC Tryz.prog c m84 && allD (dlt 98) m84) = true := by kernel_rfl
def m142 : MC := .sq (.rg [.o 3 (.bx 46 (.tmp 0)), .c 4 (.bool false)]) (.sq (.dr [.o 8 (.ld (.tmp 1) none), .o 9 (.nc (.tmp 8)), .o 10 (.fa (.tmp 9) 1), .o 11 (.ld (.tmp 10) none), .o 12 (.ld (.tmp 3) (some 32)), .o 13 (.mlk 46 false [(1, .int .i64 0)] true (.tmp 11) (.tmp 12)), .t 7 13, .o 14 (.ex (.tmp 7) 0), .o 15 (.ex (.tmp 7) 1), .t 5 14, .t 6 15] [0, 1, 3, 7, 0, 31, 63, 127, 127, 255, 1023] (.q 0 (.q 1 (.q 2 (.q 3 (.q 4 (.e 5 [] (.q 6 (.q 7 (.q 8 (.q 9 (.q 10 (.fin))))))))))))) (.sq (.rg [.t 16 6, .t 17 16, .q 18 17 false (.ld (.tmp 2) none), .q 19 17 false (.ld (.tmp 3) (some 32)), .q 20 17 false (.mlk 46 false [(1, .int .i64 0)] false (.tmp 18) (.tmp 19)), .q 21 17 false (.cm .gtr (.tmp 20) (.const (.int .i64 0))), .o 22 (.pk (.tmp 17) (.const (.bool true)) (.tmp 21)), .t 4 22]) (.rt)))
theorem k142 : Tryz.f142.body.any (fun c => chkC Tryz.prog c m142 && allD (dlt 23) m142) = true := by kernel_rfl
def m50 : MC := .sq (.rg [.o 2 (.bx 96 (.tmp 0)), .o 3 (.bx 23 (.tmp 1)), .c 4 (.nilFunc)]) (.sq (.rg [.o 9 (.bd [(1, .slice none 0 0)] []), .o 10 (.bx 154 (.tmp 9)), .t 5 10]) (.sq (.rg [.t 11 5, .o 12 (.mi 149 (.tmp 11)), .o 6 (.al [(1, .nilIface)] 156), .e (.st (.tmp 6) (.tmp 12) 1)]) (.sq (.rg [.o 13 (.mkm), .o 7 (.al [(1, .map none)] 141), .e (.st (.tmp 7) (.tmp 13) 1)]) (.sq (.rg [.o 14 (.mf 82 [] [.tmp 7, .tmp 2, .tmp 6]), .o 8 (.al [(1, .nilFunc)] 161), .e (.st (.tmp 8) (.tmp 14) 1)]) (.sq (.rg [.o 15 (.mf 85 [] [.tmp 8, .tmp 3, .tmp 6, .tmp 2]), .t 4 15]) (.rt))))))
theorem k50 : Tryz.f50.body.any (fun c => chkC Tryz.prog c m50 && allD (dlt 16) m50) = true := by kernel_rfl
def m82 : MC := .sq (.rg [.t 7 0, .o 8 (.ln false (.tmp 7)), .c 9 (.int .i64 0)]) (.bk 0 (.lp (.sq (.rg [.o 10 (.cm .lss (.tmp 9) (.tmp 8))]) (.sq (.cd (.tmp 10) (.sk) (.xt 0)) (.sq (.bk 1 (.sq (.rg [.o 11 (.ias (.tmp 7) (.tmp 9) 32), .o 12 (.ld (.tmp 11) (some 32)), .o 6 (.al [(32, .int .u8 0)] 46), .e (.st (.tmp 6) (.tmp 12) 32)]) (.sq (.dr [.o 13 (.ld (.tmp 1) none), .o 14 (.ld (.tmp 6) (some 32)), .o 15 (.mlk 46 false [(1, .int .i64 0)] false (.tmp 13) (.tmp 14)), .o 16 (.ar .add .i64 (.tmp 15) (.const (.int .i64 1)) true), .o 17 (.me 46 false [(1, .int .i64 0)] (.tmp 13) (.tmp 14)), .o 18 (.ex (.tmp 17) 1), .e (.es (.tmp 13) (.tmp 18) (.tmp 16))] [0, 0, 3, 7, 3, 19, 63] (.q 0 (.q 1 (.alt [.e 2 [] (.q 3 (.e 4 [] (.q 5 (.e 6 [] (.fin))))), .e 4 [] (.q 5 (.e 2 [] (.q 3 (.e 6 [] (.fin)))))])))) (.sq (.rg [.o 19 (.ld (.tmp 1) none), .o 20 (.ld (.tmp 6) (some 32)), .o 21 (.mlk 46 false [(1, .int .i64 0)] false (.tmp 19) (.tmp 20)), .o 22 (.cm .eql (.tmp 21) (.const (.int .i64 1))), .t 23 22, .q 24 23 true (.ld (.tmp 2) none), .q 25 23 true (.ld (.tmp 6) (some 32)), .q 26 23 true (.cl 80 [.tmp 24, .tmp 25]), .o 27 (.pk (.tmp 23) (.tmp 26) (.const (.bool false)))]) (.cd (.tmp 27) (.dr [.o 28 (.ld (.tmp 3) none), .o 29 (.ld (.tmp 6) (some 32)), .o 30 (.ld (.tmp 2) none), .o 31 (.ld (.tmp 6) (some 32)), .o 32 (.cl 84 [.tmp 30, .tmp 31]), .o 33 (.bd [(32, .int .u8 0), (1, .int .i64 0)] [(0, 32, .tmp 29), (32, 1, .tmp 32)]), .o 34 (.mi 160 (.tmp 33)), .o 35 (.cl 83 [.tmp 28, .tmp 34])] [0, 0, 0, 0, 12, 30, 62, 127] (.q 0 (.q 1 (.q 2 (.q 3 (.e 4 [0, 1] (.q 5 (.q 6 (.e 7 [] (.fin)))))))))) (.sk)))))) (.rg [.o 36 (.ar .add .i64 (.tmp 9) (.const (.int .i64 1)) true), .t 9 36]))))))
theorem k82 : Tryz.f82.body.any (fun c => chkC Tryz.prog c m82 && allD (dlt 37) m82) = true := by kernel_rfl
def m85 : MC := .sq (.rg [.o 8 (.ld (.tmp 1) none), .o 9 (.ld (.tmp 2) none), .o 10 (.cv (.tmp 8) [.tmp 9])]) (.bk 0 (.lp (.sq (.sq (.rg [.o 11 (.ld (.tmp 3) none), .o 12 (.iv (.tmp 11) "Len" []), .o 13 (.cm .gtr (.tmp 12) (.const (.int .i64 0)))]) (.cd (.tmp 13) (.sk) (.xt 0))) (.bk 1 (.sq (.rg [.o 15 (.ld (.tmp 3) none), .o 16 (.cl 86 [.tmp 15]), .o 17 (.ta 160 true [(32, .int .u8 0), (1, .int .i64 0)] (.tmp 16)), .t 14 17, .o 18 (.ex (.tmp 14) 0), .o 19 (.ex (.tmp 14) 1), .o 6 (.al [(32, .int .u8 0), (1, .int .i64 0)] 160), .e (.st (.tmp 6) (.tmp 18) 33), .t 7 19]) (.sq (.sq (.rg [.t 20 7, .o 21 (.nt (.tmp 20)), .t 22 21, .q 23 22 false (.mv (.tmp 0)), .q 24 22 false (.fa (.tmp 6) 0), .q 25 22 false (.ld (.tmp 24) (some 32)), .q 26 22 false (.cv (.tmp 23) [.tmp 25]), .q 27 22 false (.nt (.tmp 26)), .o 28 (.pk (.tmp 22) (.const (.bool true)) (.tmp 27))]) (.cd (.tmp 28) (.rt) (.sk))) (.dr [.o 29 (.ld (.tmp 1) none), .o 30 (.ld (.tmp 4) none), .o 31 (.fa (.tmp 6) 0), .o 32 (.ld (.tmp 31) (some 32)), .o 33 (.cl 48 [.tmp 30, .tmp 32]), .o 34 (.cv (.tmp 29) [.tmp 33])] [0, 0, 0, 4, 14, 31] (.q 0 (.q 1 (.q 2 (.q 3 (.e 4 [0] (.e 5 [] (.fin))))))))))))))
theorem k85 : Tryz.f85.body.any (fun c => chkC Tryz.prog c m85 && allD (dlt 35) m85) = true := by kernel_rfl
def m217 : MC := .sq (.rg [.c 2 (.int .i64 0)]) (.sq (.rg [.t 3 0, .o 4 (.nc (.tmp 3)), .o 5 (.fa (.tmp 4) 0), .o 6 (.ld (.tmp 5) none), .o 7 (.ln false (.tmp 6)), .t 2 7]) (.rt))
theorem k217 : Tryz.f217.body.any (fun c => chkC Tryz.prog c m217 && allD (dlt 8) m217) = true := by kernel_rfl
def m218 : MC := .sq (.rg [.c 6 (.bool false)]) (.sq (.dr [.t 7 0, .o 8 (.nc (.tmp 7)), .o 9 (.fa (.tmp 8) 0), .o 10 (.ld (.tmp 9) none), .t 11 2, .o 12 (.ias (.tmp 10) (.tmp 11) 33), .o 13 (.fa (.tmp 12) 32), .o 14 (.ld (.tmp 13) none), .t 15 0, .o 16 (.nc (.tmp 15)), .o 17 (.fa (.tmp 16) 0), .o 18 (.ld (.tmp 17) none), .t 19 1, .o 20 (.ias (.tmp 18) (.tmp 19) 33), .o 21 (.fa (.tmp 20) 32), .o 22 (.ld (.tmp 21) none), .o 23 (.cl 223 [.tmp 14, .tmp 22]), .t 24 0, .o 25 (.nc (.tmp 24)), .o 26 (.fa (.tmp 25) 0), .o 27 (.ld (.tmp 26) none), .t 28 1, .o 29 (.ias (.tmp 27) (.tmp 28) 33), .o 30 (.fa (.tmp 29) 0), .o 31 (.ld (.tmp 30) (some 32)), .t 32 0, .o 33 (.nc (.tmp 32)), .o 34 (.fa (.tmp 33) 0), .o 35 (.ld (.tmp 34) none), .t 36 2, .o 37 (.ias (.tmp 35) (.tmp 36) 33), .o 38 (.fa (.tmp 37) 0), .o 39 (.ld (.tmp 38) (some 32)), .o 40 (.cl 38 [.tmp 31, .tmp 39]), .o 41 (.bl 3 1 [.tmp 23, .tmp 40]), .o 42 (.cl 222 [.tmp 41]), .o 43 (.cm .lss (.tmp 42) (.const (.int .i64 0))), .t 6 43] [0, 1, 3, 7, 0, 31, 63, 127, 0, 256, 768, 1792, 0, 7936, 16128, 32512, 65535, 0, 131072, 393216, 917504, 0, 4063232, 8257536, 16646144, 0, 33554432, 100663296, 234881024, 0, 1040187392, 2113929216, 4261412864, 8589934591, 17179869183, 34359738367, 68719476735, 137438953471] (.q 0 (.q 1 (.q 2 (.q 3 (.q 4 (.q 5 (.q 6 (.q 7 (.q 8 (.q 9 (.q 10 (.q 11 (.q 12 (.q 13 (.q 14 (.q 15 (.q 17 (.q 18 (.q 19 (.q 20 (.q 21 (.q 22 (.q 23 (.q 24 (.q 25 (.q 26 (.q 27 (.q 28 (.q 29 (.q 30 (.q 31 (.q 32 (.e 16 [20, 24, 28, 32] (.e 33 [] (.e 34 [] (.e 35 [] (.q 36 (.q 37 (.fin)))))))))))))))))))))))))))))))))))))))) (.rt))
theorem k218 : Tryz.f218.body.any (fun c => chkC Tryz.prog c m218 && allD (dlt 44) m218) = true := by kernel_rfl
def m221 : MC := .dr [.t 6 0, .o 7 (.nc (.tmp 6)), .o 8 (.fa (.tmp 7) 0), .o 9 (.ld (.tmp 8) none), .t 10 1, .t 11 0, .o 12 (.nc (.tmp 11)), .o 13 (.fa (.tmp 12) 0), .o 14 (.ld (.tmp 13) none), .t 15 2, .t 16 0, .o 17 (.nc (.tmp 16)), .o 18 (.fa (.tmp 17) 0), .o 19 (.ld (.tmp 18) none), .t 20 2, .o 21 (.ias (.tmp 19) (.tmp 20) 33), .o 22 (.ld (.tmp 21) (some 33)), .t 23 0, .o 24 (.nc (.tmp 23)), .o 25 (.fa (.tmp 24) 0), .o 26 (.ld (.tmp 25) none), .t 27 1, .o 28 (.ias (.tmp 26) (.tmp 27) 33), .o 29 (.ld (.tmp 28) (some 33)), .o 30 (.ias (.tmp 9) (.tmp 10) 33), .e (.st (.tmp 30) (.tmp 22) 33), .o 31 (.ias (.tmp 14) (.tmp 15) 33), .e (.st (.tmp 31) (.tmp 29) 33)] [0, 1, 3, 7, 0, 0, 32, 96, 224, 0, 0, 1024, 3072, 7168, 0, 31744, 64512, 0, 131072, 393216, 917504, 0, 4063232, 8257536, 16776703, 33553919, 67108863, 134217727] (.q 0 (.q 1 (.q 2 (.q 3 (.q 4 (.q 5 (.q 6 (.q 7 (.q 8 (.q 9 (.q 10 (.q 11 (.q 12 (.q 13 (.q 14 (.q 15 (.q 16 (.q 17 (.q 18 (.q 19 (.q 20 (.q 21 (.q 22 (.q 23 (.q 24 (.e 25 [] (.q 26 (.e 27 [] (.fin)))))))))))))))))))))))))))))
theorem k221 : Tryz.f221.body.any (fun c => chkC Tryz.prog c m221 && allD (dlt 32) m221) = true := by kernel_rfl
def m219 : MC := .sq (.rg [.c 2 (.nilIface)]) (.sq (.rg [.t 5 0, .o 6 (.nc (.tmp 5)), .o 7 (.fa (.tmp 6) 0), .o 8 (.fa (.tmp 7) 0), .o 9 (.ld (.tmp 8) none), .o 10 (.ln false (.tmp 9)), .o 11 (.ar .sub .i64 (.tmp 10) (.const (.int .i64 1)) true), .t 3 11]) (.sq (.rg [.t 12 0, .o 13 (.nc (.tmp 12)), .o 14 (.fa (.tmp 13) 0), .o 15 (.fa (.tmp 14) 0), .o 16 (.ld (.tmp 15) none), .t 17 3, .o 18 (.ias (.tmp 16) (.tmp 17) 33), .o 19 (.ld (.tmp 18) (some 33)), .o 4 (.al [(32, .int .u8 0), (1, .int .i64 0)] 160), .e (.st (.tmp 4) (.tmp 19) 33)]) (.sq (.rg [.t 20 0, .t 21 0, .o 22 (.nc (.tmp 21)), .o 23 (.fa (.tmp 22) 0), .o 24 (.fa (.tmp 23) 0), .o 25 (.ld (.tmp 24) none), .t 26 3, .o 27 (.sl (.tmp 25) none (some (.tmp 26)) none 33), .o 28 (.nc (.tmp 20)), .o 29 (.fa (.tmp 28) 0), .o 30 (.fa (.tmp 29) 0), .e (.st (.tmp 30) (.tmp 27) 1)]) (.sq (.rg [.o 31 (.ld (.tmp 4) (some 33)), .o 32 (.mi 160 (.tmp 31)), .t 2 32]) (.rt)))))
theorem k219 : Tryz.f219.body.any (fun c => chkC Tryz.prog c m219 && allD (dlt 33) m219) = true := by kernel_rfl
def m220 : MC := .sq (.rg [.t 7 1, .o 8 (.ta 160 true [(32, .int .u8 0), (1, .int .i64 0)] (.tmp 7)), .t 6 8, .o 9 (.ex (.tmp 6) 0), .o 10 (.ex (.tmp 6) 1), .o 4 (.al [(32, .int .u8 0), (1, .int .i64 0)] 160), .e (.st (.tmp 4) (.tmp 9) 33), .t 5 10]) (.sq (.rg [.t 11 5]) (.cd (.tmp 11) (.dr [.t 12 0, .t 13 0, .o 14 (.nc (.tmp 13)), .o 15 (.fa (.tmp 14) 0), .o 16 (.fa (.tmp 15) 0), .o 17 (.ld (.tmp 16) none), .o 18 (.ld (.tmp 4) (some 33)), .o 19 (.bl 160 33 [.tmp 18]), .o 20 (.ap 160 33 40 [(32, .int .u8 0), (1, .int .i64 0)] (.tmp 17) (.tmp 19)), .o 21 (.nc (.tmp 12)), .o 22 (.fa (.tmp 21) 0), .o 23 (.fa (.tmp 22) 0), .e (.st (.tmp 23) (.tmp 20) 1)] [0, 0, 2, 6, 14, 30, 0, 64, 254, 511, 1023, 2047, 4095] (.q 0 (.q 1 (.q 2 (.q 3 (.q 4 (.q 5 (.q 6 (.e 7 [5] (.e 8 [] (.q 9 (.q 10 (.q 11 (.e 12 [] (.fin))))))))))))))) (.sk)))
theorem k220 : Tryz.f220.body.any (fun c => chkC Tryz.prog c m220 && allD (dlt 24) m220) = true := by kernel_rfl
def m83 : MC := .sq (.rg [.t 4 0, .t 5 1, .o 6 (.iv (.tmp 4) "Push" [.tmp 5])]) (.rg [.t 7 0, .t 8 0, .o 9 (.iv (.tmp 8) "Len" []), .o 10 (.ar .sub .i64 (.tmp 9) (.const (.int .i64 1)) true), .o 11 (.cl 141 [.tmp 7, .tmp 10])])
theorem k83 : Tryz.f83.body.any (fun c => chkC Tryz.prog c m83 && allD (dlt 12) m83) = true := by kernel_rfl
def m86 : MC := .sq (.rg [.c 2 (.nilIface)]) (.sq (.rg [.t 4 0, .o 5 (.iv (.tmp 4) "Len" []), .o 6 (.ar .sub .i64 (.tmp 5) (.const (.int .i64 1)) true), .t 3 6]) (.sq (.rg [.t 7 0, .t 8 3, .o 9 (.iv (.tmp 7) "Swap" [.const (.int .i64 0), .tmp 8])]) (.sq (.rg [.t 10 0, .t 11 3, .o 12 (.cl 143 [.tmp 10, .const (.int .i64 0), .tmp 11])]) (.sq (.rg [.t 13 0, .o 14 (.iv (.tmp 13) "Pop" []), .t 2 14]) (.rt)))))
theorem k86 : Tryz.f86.body.any (fun c => chkC Tryz.prog c m86 && allD (dlt 15) m86) = true := by kernel_rfl
def m141 : MC := .bk 0 (.lp (.bk 1 (.sq (.rg [.t 5 1, .o 6 (.ar .sub .i64 (.tmp 5) (.const (.int .i64 1)) true), .o 7 (.dv .quo .i64 (.tmp 6) (.const (.int .i64 2))), .t 4 7]) (.sq (.sq (.rg [.t 8 4, .t 9 1, .o 10 (.cm .eql (.tmp 8) (.tmp 9)), .t 11 10, .q 12 11 false (.mv (.tmp 0)), .q 13 11 false (.mv (.tmp 1)), .q 14 11 false (.mv (.tmp 4)), .q 15 11 false (.iv (.tmp 12) "Less" [.tmp 13, .tmp 14]), .q 16 11 false (.nt (.tmp 15)), .o 17 (.pk (.tmp 11) (.const (.bool true)) (.tmp 16))]) (.cd (.tmp 17) (.xt 0) (.sk))) (.sq (.rg [.t 18 0, .t 19 4, .t 20 1, .o 21 (.iv (.tmp 18) "Swap" [.tmp 19, .tmp 20])]) (.rg [.t 22 4, .t 1 22]))))))
theorem k141 : Tryz.f141.body.any (fun c => chkC Tryz.prog c m141 && allD (dlt 23) m141) = true := by kernel_rfl
def m143 : MC := .sq (.rg [.c 6 (.bool false)]) (.sq (.rg [.t 11 1, .t 7 11]) (.sq (.bk 0 (.lp (.bk 1 (.sq (.rg [.t 12 7, .o 13 (.ar .mul .i64 (.const (.int .i64 2)) (.tmp 12) true), .o 14 (.ar .add .i64 (.tmp 13) (.const (.int .i64 1)) true), .t 8 14]) (.sq (.sq (.rg [.t 15 8, .t 16 2, .o 17 (.cm .geq (.tmp 15) (.tmp 16)), .t 18 17, .q 19 18 false (.mv (.tmp 8)), .q 20 18 false (.cm .lss (.tmp 19) (.const (.int .i64 0))), .o 21 (.pk (.tmp 18) (.const (.bool true)) (.tmp 20))]) (.cd (.tmp 21) (.xt 0) (.sk))) (.sq (.rg [.t 22 8, .t 9 22]) (.sq (.sq (.rg [.t 23 8, .o 24 (.ar .add .i64 (.tmp 23) (.const (.int .i64 1)) true), .t 10 24]) (.sq (.rg [.t 25 10, .t 26 2, .o 27 (.cm .lss (.tmp 25) (.tmp 26)), .t 28 27, .q 29 28 true (.mv (.tmp 0)), .q 30 28 true (.mv (.tmp 10)), .q 31 28 true (.mv (.tmp 8)), .q 32 28 true (.iv (.tmp 29) "Less" [.tmp 30, .tmp 31]), .o 33 (.pk (.tmp 28) (.tmp 32) (.const (.bool false)))]) (.cd (.tmp 33) (.rg [.t 34 10, .t 9 34]) (.sk)))) (.sq (.sq (.rg [.t 35 0, .t 36 9, .t 37 7, .o 38 (.iv (.tmp 35) "Less" [.tmp 36, .tmp 37]), .o 39 (.nt (.tmp 38))]) (.cd (.tmp 39) (.xt 0) (.sk))) (.sq (.rg [.t 40 0, .t 41 7, .t 42 9, .o 43 (.iv (.tmp 40) "Swap" [.tmp 41, .tmp 42])]) (.rg [.t 44 9, .t 7 44])))))))))) (.sq (.rg [.t 45 7, .t 46 1, .o 47 (.cm .gtr (.tmp 45) (.tmp 46)), .t 6 47]) (.rt))))
theorem k143 : Tryz.f143.body.any (fun c => chkC Tryz.prog c m143 && allD (dlt 48) m143) = true := by kernel_rfl
def m51 : MC := .sq (.rg [.c 4 (.slice none 0 0)]) (.sq (.rg [.c 5 (.slice none 0 0)]) (.sq (.sq (.rg [.t 8 0, .o 9 (.ln false (.tmp 8)), .c 10 (.int .i64 0)]) (.bk 0 (.lp (.sq (.rg [.o 11 (.cm .lss (.tmp 10) (.tmp 9))]) (.sq (.cd (.tmp 11) (.sk) (.xt 0)) (.sq (.bk 1 (.sq (.rg [.o 12 (.ias (.tmp 8) (.tmp 10) 32), .o 13 (.ld (.tmp 12) (some 32)), .o 7 (.al [(32, .int .u8 0)] 46), .e (.st (.tmp 7) (.tmp 13) 32)]) (.sq (.rg [.t 14 1, .o 15 (.ld (.tmp 7) (some 32)), .o 16 (.cl 87 [.tmp 14, .tmp 15]), .o 17 (.nt (.tmp 16))]) (.cd (.tmp 17) (.rg [.t 18 5, .o 19 (.ld (.tmp 7) (some 32)), .o 20 (.bl 46 32 [.tmp 19]), .o 21 (.ap 46 32 32 [(32, .int .u8 0)] (.tmp 18) (.tmp 20)), .t 5 21]) (.sk))))) (.rg [.o 22 (.ar .add .i64 (.tmp 10) (.const (.int .i64 1)) true), .t 10 22]))))))) (.sq (.rg [.t 23 5, .t 4 23]) (.rt))))
theorem k51 : Tryz.f51.body.any (fun c => chkC Tryz.prog c m51 && allD (dlt 24) m51) = true := by kernel_rfl
def m87 : MC := .sq (.rg [.o 3 (.bx 46 (.tmp 1)), .c 4 (.bool false)]) (.sq (.rg [.t 8 0, .o 9 (.ld (.tmp 3) (some 32)), .o 10 (.cl 144 [.tmp 8, .tmp 9, .func 38]), .t 7 10, .o 11 (.ex (.tmp 7) 0), .o 12 (.ex (.tmp 7) 1), .t 5 11, .t 6 12]) (.sq (.rg [.t 13 6, .t 4 13]) (.rt)))
theorem k87 : Tryz.f87.body.any (fun c => chkC Tryz.prog c m87 && allD (dlt 14) m87) = true := by kernel_rfl
def m144 : MC := .sq (.rg [.o 4 (.bx 46 (.tmp 1)), .c 6 (.int .i64 0), .c 7 (.bool false)]) (.sq (.rg [.t 12 0, .o 13 (.ln false (.tmp 12)), .t 8 13]) (.sq (.rg [.t 14 8, .c 9 (.int .i64 0), .t 10 14]) (.sq (.bk 0 (.lp (.sq (.sq (.rg [.t 15 9, .t 16 10, .o 17 (.cm .lss (.tmp 15) (.tmp 16))]) (.cd (.tmp 17) (.sk) (.xt 0))) (.bk 1 (.sq (.rg [.t 18 9, .t 19 10, .o 20 (.ar .add .i64 (.tmp 18) (.tmp 19) true), .o 21 (.ci .u64 (.tmp 20)), .o 22 (.sh .shr .u64 (.tmp 21) (.const (.int .u64 1))), .o 23 (.ci .i64 (.tmp 22)), .t 11 23]) (.sq (.dr [.t 24 2, .t 25 0, .t 26 11, .o 27 (.ias (.tmp 25) (.tmp 26) 32), .o 28 (.ld (.tmp 27) (some 32)), .o 29 (.ld (.tmp 4) (some 32)), .o 30 (.cv (.tmp 24) [.tmp 28, .tmp 29]), .o 31 (.cm .lss (.tmp 30) (.const (.int .i64 0)))] [0, 0, 0, 6, 14, 0, 63, 127] (.q 0 (.q 1 (.q 2 (.q 3 (.q 4 (.q 5 (.e 6 [] (.q 7 (.fin)))))))))) (.cd (.tmp 31) (.rg [.t 32 11, .o 33 (.ar .add .i64 (.tmp 32) (.const (.int .i64 1)) true), .t 9 33]) (.rg [.t 34 11, .t 10 34])))))))) (.sq (.dr [.t 35 9, .t 36 9, .t 37 8, .o 38 (.cm .lss (.tmp 36) (.tmp 37)), .t 39 38, .q 40 39 true (.mv (.tmp 2)), .q 41 39 true (.mv (.tmp 0)), .q 42 39 true (.mv (.tmp 9)), .q 43 39 true (.ias (.tmp 41) (.tmp 42) 32), .q 44 39 true (.ld (.tmp 43) (some 32)), .q 45 39 true (.ld (.tmp 4) (some 32)), .q 46 39 true (.cv (.tmp 40) [.tmp 44, .tmp 45]), .q 47 39 true (.cm .eql (.tmp 46) (.const (.int .i64 0))), .o 48 (.pk (.tmp 39) (.tmp 47) (.const (.bool false))), .t 6 35, .t 7 48] [0, 0, 0, 6, 14, 30, 30, 30, 222, 478, 30, 2046, 4094, 8190, 4095, 32767] (.q 0 (.q 1 (.q 2 (.q 3 (.q 4 (.q 5 (.q 6 (.q 7 (.q 8 (.q 9 (.q 10 (.e 11 [] (.q 12 (.q 13 (.q 14 (.q 15 (.fin)))))))))))))))))) (.rt)))))
theorem k144 : Tryz.f144.body.any (fun c => chkC Tryz.prog c m144 && allD (dlt 49) m144) = true := by kernel_rfl
def m78 : MC := .sq (.rg [.c 4 (.slice none 0 0)]) (.sq (.rg [.t 8 0, .t 9 1, .o 10 (.cl 139 [.tmp 8, .tmp 9]), .t 5 10]) (.sq (.sq (.rg [.t 11 5, .o 12 (.cm .eql (.tmp 11) (.const (.int .i64 (-1))))]) (.cd (.tmp 12) (.sq (.rg [.t 13 0, .t 4 13]) (.rt)) (.sk))) (.sq (.sq (.rg [.t 14 5, .o 15 (.ar .add .i64 (.tmp 14) (.const (.int .i64 1)) true), .t 6 15]) (.bk 0 (.lp (.sq (.sq (.rg [.t 16 6, .t 17 0, .o 18 (.ln false (.tmp 17)), .o 19 (.cm .lss (.tmp 16) (.tmp 18))]) (.cd (.tmp 19) (.sk) (.xt 0))) (.sq (.bk 1 (.sq (.rg [.t 22 0, .t 23 6, .o 24 (.ias (.tmp 22) (.tmp 23) 32), .o 25 (.ld (.tmp 24) (some 32)), .o 7 (.al [(32, .int .u8 0)] 46), .e (.st (.tmp 7) (.tmp 25) 32)]) (.sq (.rg [.t 26 1, .o 27 (.ld (.tmp 7) (some 32)), .o 28 (.cv (.tmp 26) [.tmp 27]), .o 29 (.nt (.tmp 28))]) (.cd (.tmp 29) (.sq (.rg [.t 30 0, .t 31 5, .o 32 (.ld (.tmp 7) (some 32)), .o 33 (.ias (.tmp 30) (.tmp 31) 32), .e (.st (.tmp 33) (.tmp 32) 32)]) (.rg [.t 34 5, .o 35 (.ar .add .i64 (.tmp 34) (.const (.int .i64 1)) true), .t 5 35])) (.sk))))) (.rg [.t 20 6, .o 21 (.ar .add .i64 (.tmp 20) (.const (.int .i64 1)) true), .t 6 21])))))) (.sq (.rg [.t 36 0, .t 37 5, .o 38 (.sl (.tmp 36) (some (.tmp 37)) none none 32), .e (.clr 32 [(32, .int .u8 0)] (.tmp 38))]) (.sq (.rg [.t 39 0, .t 40 5, .o 41 (.sl (.tmp 39) none (some (.tmp 40)) none 32), .t 4 41]) (.rt))))))
theorem k78 : Tryz.f78.body.any (fun c => chkC Tryz.prog c m78 && allD (dlt 42) m78) = true := by kernel_rfl
def m139 : MC := .sq (.rg [.c 4 (.int .i64 0)]) (.sq (.sq (.rg [.t 6 0, .o 7 (.ln false (.tmp 6)), .c 8 (.int .i64 0)]) (.bk 0 (.lp (.sq (.rg [.o 9 (.cm .lss (.tmp 8) (.tmp 7))]) (.sq (.cd (.tmp 9) (.sk) (.xt 0)) (.sq (.bk 1 (.sq (.rg [.t 10 8, .t 5 10]) (.sq (.rg [.t 11 1, .t 12 0, .t 13 5, .o 14 (.ias (.tmp 12) (.tmp 13) 32), .o 15 (.ld (.tmp 14) (some 32)), .o 16 (.cv (.tmp 11) [.tmp 15])]) (.cd (.tmp 16) (.sq (.rg [.t 17 5, .t 4 17]) (.rt)) (.sk))))) (.rg [.o 18 (.ar .add .i64 (.tmp 8) (.const (.int .i64 1)) true), .t 8 18]))))))) (.sq (.rg [.c 4 (.int .i64 (-1))]) (.rt)))
theorem k139 : Tryz.f139.body.any (fun c => chkC Tryz.prog c m139 && allD (dlt 19) m139) = true := by kernel_rfl
def m49 : MC := .sq (.rg [.c 2 (.slice none 0 0)]) (.sq (.rg [.t 3 0, .o 4 (.cl 81 [.const (.slice none 0 0), .tmp 3]), .t 2 4]) (.rt))
theorem k49 : Tryz.f49.body.any (fun c => chkC Tryz.prog c m49 && allD (dlt 5) m49) = true := by kernel_rfl
def m81u0 : MC := .rg [.o 5 (.al [(32, .int .u8 0)] 46), .e (.st (.tmp 5) (.tmp 7) 32)]
def m81v0 : MC := .bk 1 (.rg [.o 8 (.ld (.tmp 2) none), .o 9 (.ld (.tmp 5) (some 32)), .o 10 (.bl 46 32 [.tmp 9]), .o 11 (.ap 46 32 32 [(32, .int .u8 0)] (.tmp 8) (.tmp 10)), .e (.st (.tmp 2) (.tmp 11) 1)])
def m81 : MC := .sq (.rg [.o 2 (.bx 23 (.tmp 0)), .c 4 (.slice none 0 0)]) (.sq (.sq (.rg [.t 6 1]) (.bk 0 (.rf (.tmp 6) [7] m81u0 m81v0))) (.sq (.rg [.o 12 (.ld (.tmp 2) none), .t 4 12]) (.rt)))
theorem k81 : Tryz.f81.body.any (fun c => chkC Tryz.prog c m81 && allD (dlt 13) m81) = true := by kernel_rfl
def m222 : MC := .sq (.rg [.c 2 (.int .i64 0)]) (.sq (.rg [.c 3 (.int .i64 0)]) (.sq (.sq (.rg [.t 6 0, .o 7 (.ln false (.tmp 6)), .c 8 (.int .i64 0)]) (.bk 0 (.lp (.sq (.rg [.o 9 (.cm .lss (.tmp 8) (.tmp 7))]) (.sq (.cd (.tmp 9) (.sk) (.xt 0)) (.sq (.bk 1 (.sq (.rg [.o 10 (.ias (.tmp 6) (.tmp 8) 1), .o 11 (.ld (.tmp 10) none), .t 5 11]) (.sq (.rg [.t 12 5, .t 13 3, .o 14 (.cm .neq (.tmp 12) (.tmp 13))]) (.cd (.tmp 14) (.sq (.rg [.t 15 5, .t 2 15]) (.rt)) (.sk))))) (.rg [.o 16 (.ar .add .i64 (.tmp 8) (.const (.int .i64 1)) true), .t 8 16]))))))) (.sq (.rg [.t 17 3, .t 2 17]) (.rt))))
theorem k222 : Tryz.f222.body.any (fun c => chkC Tryz.prog c m222 && allD (dlt 18) m222) = true := by kernel_rfl
def m223 : MC := .sq (.rg [.c 4 (.int .i64 0)]) (.sq (.rg [.t 7 0, .o 8 (.cl 224 [.tmp 7]), .t 5 8]) (.sq (.rg [.t 9 1, .o 10 (.cl 224 [.tmp 9]), .t 6 10]) (.sq (.sq (.rg [.t 11 5]) (.cd (.tmp 11) (.sq (.sq (.rg [.t 12 6]) (.cd (.tmp 12) (.sq (.rg [.c 4 (.int .i64 0)]) (.rt)) (.sk))) (.sq (.rg [.c 4 (.int .i64 (-1))]) (.rt))) (.sk))) (.sq (.sq (.rg [.t 13 6]) (.cd (.tmp 13) (.sq (.rg [.c 4 (.int .i64 1)]) (.rt)) (.sk))) (.sq (.sq (.rg [.t 14 0, .t 15 1, .o 16 (.cm .lss (.tmp 14) (.tmp 15))]) (.cd (.tmp 16) (.sq (.rg [.c 4 (.int .i64 (-1))]) (.rt)) (.sk))) (.sq (.sq (.rg [.t 17 0, .t 18 1, .o 19 (.cm .gtr (.tmp 17) (.tmp 18))]) (.cd (.tmp 19) (.sq (.rg [.c 4 (.int .i64 1)]) (.rt)) (.sk))) (.sq (.rg [.c 4 (.int .i64 0)]) (.rt))))))))
theorem k223 : Tryz.f223.body.any (fun c => chkC Tryz.prog c m223 && allD (dlt 20) m223) = true := by kernel_rfl
def m224 : MC := .sq (.rg [.c 2 (.bool false)]) (.sq (.rg [.t 3 0, .t 4 0, .o 5 (.cm .neq (.tmp 3) (.tmp 4)), .t 2 5]) (.rt))
theorem k224 : Tryz.f224.body.any (fun c => chkC Tryz.prog c m224 && allD (dlt 6) m224) = true := by kernel_rfl
def m26 : MC := .sq (.rg [.c 4 (.slice none 0 0)]) (.sq (.rg [.t 11 1, .o 12 (.cl 22 [.tmp 11]), .t 5 12]) (.sq (.rg [.c 6 (.slice none 0 0)]) (.sq (.sq (.rg [.c 7 (.int .i64 0)]) (.bk 0 (.lp (.sq (.sq (.rg [.t 13 7, .t 14 5, .o 15 (.ln false (.tmp 14)), .o 16 (.cm .lss (.tmp 13) (.tmp 15))]) (.cd (.tmp 16) (.sk) (.xt 0))) (.sq (.bk 1 (.sq (.rg [.c 8 (.bool false)]) (.sq (.sq (.rg [.c 9 (.int .i64 0)]) (.bk 2 (.lp (.sq (.sq (.rg [.t 19 9, .t 20 5, .o 21 (.ln false (.tmp 20)), .o 22 (.cm .lss (.tmp 19) (.tmp 21))]) (.cd (.tmp 22) (.sk) (.xt 2))) (.sq (.bk 3 (.sq (.dr [.t 25 0, .t 26 5, .t 27 7, .o 28 (.ias (.tmp 26) (.tmp 27) 32), .o 29 (.ld (.tmp 28) (some 32)), .t 30 5, .t 31 9, .o 32 (.ias (.tmp 30) (.tmp 31) 32), .o 33 (.ld (.tmp 32) (some 32)), .o 34 (.cl 52 [.tmp 25, .tmp 29, .tmp 33]), .t 10 34] [0, 0, 0, 6, 14, 0, 0, 96, 224, 511, 1023] (.q 0 (.q 1 (.q 2 (.q 3 (.q 4 (.q 5 (.q 6 (.q 7 (.q 8 (.e 9 [] (.q 10 (.fin))))))))))))) (.rg [.t 35 8, .t 36 35, .q 37 36 false (.mv (.tmp 10)), .o 38 (.pk (.tmp 36) (.const (.bool true)) (.tmp 37)), .t 8 38]))) (.rg [.t 23 9, .o 24 (.ar .add .i64 (.tmp 23) (.const (.int .i64 1)) true), .t 9 24])))))) (.sq (.rg [.t 39 8, .o 40 (.nt (.tmp 39))]) (.cd (.tmp 40) (.rg [.t 41 6, .t 42 5, .t 43 7, .o 44 (.ias (.tmp 42) (.tmp 43) 32), .o 45 (.ld (.tmp 44) (some 32)), .o 46 (.bl 46 32 [.tmp 45]), .o 47 (.ap 46 32 32 [(32, .int .u8 0)] (.tmp 41) (.tmp 46)), .t 6 47]) (.sk)))))) (.rg [.t 17 7, .o 18 (.ar .add .i64 (.tmp 17) (.const (.int .i64 1)) true), .t 7 18])))))) (.sq (.rg [.t 48 6, .t 4 48]) (.rt)))))
theorem k26 : Tryz.f26.body.any (fun c => chkC Tryz.prog c m26 && allD (dlt 49) m26) = true := by kernel_rfl
def m52 : MC := .sq (.rg [.o 4 (.bx 46 (.tmp 1)), .o 5 (.bx 46 (.tmp 2)), .c 6 (.bool false)]) (.sq (.dr [.t 7 0, .o 8 (.ld (.tmp 5) (some 32)), .o 9 (.cl 89 [.tmp 7, .tmp 8]), .o 10 (.ld (.tmp 4) (some 32)), .o 11 (.cl 88 [.tmp 9, .tmp 10]), .t 6 11] [0, 0, 3, 0, 15, 31] (.q 0 (.q 1 (.q 3 (.e 2 [3] (.e 4 [] (.q 5 (.fin)))))))) (.rt))
theorem k52 : Tryz.f52.body.any (fun c => chkC Tryz.prog c m52 && allD (dlt 12) m52) = true := by kernel_rfl
def m89 : MC := .sq (.rg [.o 3 (.bx 46 (.tmp 1)), .c 4 (.slice none 0 0)]) (.sq (.rg [.t 10 0, .o 11 (.ld (.tmp 3) (some 32)), .o 12 (.cl 145 [.tmp 10, .tmp 11]), .t 5 12]) (.sq (.sq (.rg [.c 6 (.int .i64 0)]) (.bk 0 (.lp (.sq (.sq (.rg [.t 13 6, .t 14 5, .o 15 (.ln false (.tmp 14)), .o 16 (.cm .lss (.tmp 13) (.tmp 15))]) (.cd (.tmp 16) (.sk) (.xt 0))) (.sq (.bk 1 (.sq (.rg [.t 19 0, .t 20 5, .t 21 6, .o 22 (.ias (.tmp 20) (.tmp 21) 32), .o 23 (.ld (.tmp 22) (some 32)), .o 24 (.cl 145 [.tmp 19, .tmp 23]), .t 7 24]) (.sq (.rg [.c 8 (.int .i64 0)]) (.bk 2 (.lp (.sq (.sq (.rg [.t 25 8, .t 26 7, .o 27 (.ln false (.tmp 26)), .o 28 (.cm .lss (.tmp 25) (.tmp 27))]) (.cd (.tmp 28) (.sk) (.xt 2))) (.sq (.bk 3 (.sq (.rg [.t 31 5, .t 32 7, .t 33 8, .o 34 (.ias (.tmp 32) (.tmp 33) 32), .o 35 (.ld (.tmp 34) (some 32)), .o 36 (.cl 88 [.tmp 31, .tmp 35]), .t 9 36]) (.sq (.rg [.t 37 9, .o 38 (.nt (.tmp 37))]) (.cd (.tmp 38) (.rg [.t 39 5, .t 40 7, .t 41 8, .o 42 (.ias (.tmp 40) (.tmp 41) 32), .o 43 (.ld (.tmp 42) (some 32)), .o 44 (.bl 46 32 [.tmp 43]), .o 45 (.ap 46 32 32 [(32, .int .u8 0)] (.tmp 39) (.tmp 44)), .t 5 45]) (.sk))))) (.rg [.t 29 8, .o 30 (.ar .add .i64 (.tmp 29) (.const (.int .i64 1)) true), .t 8 30])))))))) (.rg [.t 17 6, .o 18 (.ar .add .i64 (.tmp 17) (.const (.int .i64 1)) true), .t 6 18])))))) (.sq (.rg [.t 46 5, .t 4 46]) (.rt))))
theorem k89 : Tryz.f89.body.any (fun c => chkC Tryz.prog c m89 && allD (dlt 47) m89) = true := by kernel_rfl
def m145 : MC := .sq (.rg [.o 3 (.bx 46 (.tmp 1)), .c 4 (.slice none 0 0)]) (.sq (.rg [.t 11 0, .o 12 (.ld (.tmp 3) (some 32)), .o 13 (.cl 171 [.tmp 11, .tmp 12]), .t 5 13]) (.sq (.sq (.rg [.t 14 5, .o 15 (.nt (.tmp 14))]) (.cd (.tmp 15) (.sq (.rg [.c 4 (.slice none 0 0)]) (.rt)) (.sk))) (.sq (.rg [.t 17 0, .o 18 (.ld (.tmp 3) (some 32)), .o 19 (.cl 172 [.tmp 17, .tmp 18]), .t 16 19, .o 20 (.ex (.tmp 16) 0), .o 21 (.ex (.tmp 16) 1), .o 6 (.al [(1, .int .i64 0), (2, .slice none 0 0), (32, .int .u8 0), (1, .slice none 0 0), (1, .int .i64 0), (32, .int .u8 0), (1, .string ⟨#[]⟩)] 79), .e (.st (.tmp 6) (.tmp 20) 70), .t 7 21]) (.sq (.rg [.c 8 (.slice none 0 0)]) (.sq (.sq (.rg [.c 9 (.int .i64 0)]) (.bk 0 (.lp (.sq (.sq (.rg [.t 22 9, .o 23 (.fa (.tmp 6) 35), .o 24 (.ld (.tmp 23) none), .o 25 (.ln false (.tmp 24)), .o 26 (.cm .lss (.tmp 22) (.tmp 25))]) (.cd (.tmp 26) (.sk) (.xt 0))) (.sq (.bk 1 (.sq (.rg [.t 29 0, .o 30 (.fa (.tmp 6) 35), .o 31 (.ld (.tmp 30) none), .t 32 9, .o 33 (.ias (.tmp 31) (.tmp 32) 32), .o 34 (.ld (.tmp 33) (some 32)), .o 35 (.cl 171 [.tmp 29, .tmp 34]), .t 10 35]) (.sq (.rg [.t 36 10]) (.cd (.tmp 36) (.rg [.t 37 8, .o 38 (.fa (.tmp 6) 35), .o 39 (.ld (.tmp 38) none), .t 40 9, .o 41 (.ias (.tmp 39) (.tmp 40) 32), .o 42 (.ld (.tmp 41) (some 32)), .o 43 (.bl 46 32 [.tmp 42]), .o 44 (.ap 46 32 32 [(32, .int .u8 0)] (.tmp 37) (.tmp 43)), .t 8 44]) (.sk))))) (.rg [.t 27 9, .o 28 (.ar .add .i64 (.tmp 27) (.const (.int .i64 1)) true), .t 9 28])))))) (.sq (.rg [.t 45 8, .t 4 45]) (.rt)))))))
theorem k145 : Tryz.f145.body.any (fun c => chkC Tryz.prog c m145 && allD (dlt 46) m145) = true := by kernel_rfl
def m171 : MC := .sq (.rg [.o 3 (.bx 46 (.tmp 1)), .c 4 (.bool false)]) (.sq (.rg [.t 5 0, .o 6 (.pn .neq (.tmp 5)), .t 7 6, .q 8 7 true (.mv (.tmp 0)), .q 9 7 true (.ld (.tmp 3) (some 32)), .q 10 7 true (.cl 183 [.tmp 8, .tmp 9]), .q 11 7 true (.cm .eql (.tmp 10) (.const (.int .i64 3))), .o 12 (.pk (.tmp 7) (.tmp 11) (.const (.bool false))), .t 4 12]) (.rt))
theorem k171 : Tryz.f171.body.any (fun c => chkC Tryz.prog c m171 && allD (dlt 13) m171) = true := by kernel_rfl
def m88 : MC := .sq (.rg [.o 3 (.bx 46 (.tmp 1)), .c 4 (.bool false)]) (.sq (.sq (.rg [.c 5 (.int .i64 0)]) (.bk 0 (.lp (.sq (.sq (.rg [.t 6 5, .t 7 0, .o 8 (.ln false (.tmp 7)), .o 9 (.cm .lss (.tmp 6) (.tmp 8))]) (.cd (.tmp 9) (.sk) (.xt 0))) (.sq (.bk 1 (.sq (.dr [.t 12 0, .t 13 5, .o 14 (.ias (.tmp 12) (.tmp 13) 32), .o 15 (.ld (.tmp 14) (some 32)), .o 16 (.ld (.tmp 3) (some 32)), .o 17 (.aq .eql 32 (.tmp 15) (.tmp 16))] [0, 0, 3, 7, 0, 31] (.q 0 (.q 1 (.q 2 (.q 3 (.q 4 (.q 5 (.fin)))))))) (.cd (.tmp 17) (.sq (.rg [.c 4 (.bool true)]) (.rt)) (.sk)))) (.rg [.t 10 5, .o 11 (.ar .add .i64 (.tmp 10) (.const (.int .i64 1)) true), .t 5 11])))))) (.sq (.rg [.c 4 (.bool false)]) (.rt)))
theorem k88 : Tryz.f88.body.any (fun c => chkC Tryz.prog c m88 && allD (dlt 18) m88) = true := by kernel_rfl
def m3 : MC := .sq (.rg [.c 6 (.bool false)]) (.sq (.sq (.rg [.t 15 0, .o 16 (.cl 4 [.tmp 15]), .t 17 16, .q 18 17 false (.mv (.tmp 1)), .q 19 17 false (.ln false (.tmp 18)), .q 20 17 false (.cm .gtr (.tmp 19) (.const (.int .i64 20))), .o 21 (.pk (.tmp 17) (.const (.bool true)) (.tmp 20)), .t 22 21, .q 23 22 false (.mv (.tmp 2)), .q 24 22 false (.ln true (.tmp 23)), .q 25 22 false (.cm .gtr (.tmp 24) (.const (.int .i64 200))), .o 26 (.pk (.tmp 22) (.const (.bool true)) (.tmp 25))]) (.cd (.tmp 26) (.sq (.rg [.c 6 (.bool true)]) (.rt)) (.sk))) (.sq (.rg [.t 28 0, .o 29 (.cl 5 [.tmp 28]), .t 27 29, .o 30 (.ex (.tmp 27) 0), .o 31 (.ex (.tmp 27) 1), .o 32 (.ex (.tmp 27) 2), .t 7 30, .t 8 31, .t 9 32]) (.sq (.sq (.rg [.t 33 9, .o 34 (.nt (.tmp 33))]) (.cd (.tmp 34) (.sq (.rg [.c 6 (.bool false)]) (.rt)) (.sk))) (.sq (.rg [.o 35 (.bl 46 32 []), .t 36 1, .o 37 (.ap 46 32 32 [(32, .int .u8 0)] (.tmp 35) (.tmp 36)), .t 10 37]) (.sq (.rg [.t 39 2, .t 40 10, .o 41 (.cl 6 [.tmp 39, .tmp 40]), .t 38 41, .o 42 (.ex (.tmp 38) 0), .o 43 (.ex (.tmp 38) 1), .t 11 42, .t 12 43]) (.sq (.rg [.t 45 2, .t 46 1, .o 47 (.cl 7 [.tmp 45, .tmp 46]), .t 44 47, .o 48 (.ex (.tmp 44) 0), .o 49 (.ex (.tmp 44) 1), .t 13 48, .t 14 49]) (.sq (.rg [.t 50 7, .t 51 10, .o 52 (.cl 9 [.tmp 50, .tmp 51]), .t 53 8, .t 54 1, .o 55 (.cl 10 [.tmp 53, .tmp 54]), .o 56 (.cl 8 [.tmp 52, .tmp 55]), .t 57 56, .q 58 57 true (.mv (.tmp 11)), .q 59 57 true (.mv (.tmp 13)), .q 60 57 true (.cl 11 [.tmp 58, .tmp 59]), .o 61 (.pk (.tmp 57) (.tmp 60) (.const (.bool false))), .t 62 61, .q 63 62 true (.mv (.tmp 12)), .q 64 62 true (.mv (.tmp 14)), .q 65 62 true (.cm .eql (.tmp 63) (.tmp 64)), .o 66 (.pk (.tmp 62) (.tmp 65) (.const (.bool false))), .t 67 66, .q 68 67 true (.mv (.tmp 10)), .q 69 67 true (.mv (.tmp 1)), .q 70 67 true (.cl 8 [.tmp 68, .tmp 69]), .o 71 (.pk (.tmp 67) (.tmp 70) (.const (.bool false))), .t 6 71]) (.rt))))))))
theorem k3 : Tryz.f3.body.any (fun c => chkC Tryz.prog c m3 && allD (dlt 72) m3) = true := by kernel_rfl
def m5 : MC := .sq (.rg [.c 2 (.pointer none), .c 3 (.pointer none), .c 4 (.bool false)]) (.sq (.rg [.o 16 (.cl 12 [.const (.int .i64 1073741824)]), .t 15 16, .o 17 (.ex (.tmp 15) 0), .o 18 (.ex (.tmp 15) 1), .t 5 17, .t 6 18]) (.sq (.rg [.o 20 (.cl 13 [.const (.int .i64 1073741824)]), .t 19 20, .o 21 (.ex (.tmp 19) 0), .o 22 (.ex (.tmp 19) 1), .t 7 21, .t 8 22]) (.sq (.sq (.rg [.t 23 6, .t 24 8, .o 25 (.cm .neq (.tmp 23) (.tmp 24)), .t 26 25, .q 27 26 false (.mv (.tmp 8)), .q 28 26 false (.cm .neq (.tmp 27) (.const (.int .i64 0))), .o 29 (.pk (.tmp 26) (.const (.bool true)) (.tmp 28))]) (.cd (.tmp 29) (.sq (.rg [.c 2 (.pointer none), .c 3 (.pointer none), .c 4 (.bool false)]) (.rt)) (.sk))) (.sq (.sq (.rg [.t 30 0, .o 31 (.ln false (.tmp 30)), .c 32 (.int .i64 0)]) (.bk 0 (.lp (.sq (.rg [.o 33 (.cm .lss (.tmp 32) (.tmp 31))]) (.sq (.cd (.tmp 33) (.sk) (.xt 0)) (.sq (.bk 1 (.sq (.rg [.o 34 (.ias (.tmp 30) (.tmp 32) 1), .o 35 (.ld (.tmp 34) none), .t 10 35]) (.sq (.rg [.t 37 5, .t 38 10, .o 39 (.cl 14 [.tmp 37, .tmp 38]), .t 36 39, .o 40 (.ex (.tmp 36) 0), .o 41 (.ex (.tmp 36) 1), .o 11 (.al [(32, .int .u8 0)] 46), .e (.st (.tmp 11) (.tmp 40) 32), .t 12 41]) (.sq (.rg [.t 43 7, .t 44 10, .o 45 (.cl 15 [.tmp 43, .tmp 44]), .t 42 45, .o 46 (.ex (.tmp 42) 0), .o 47 (.ex (.tmp 42) 1), .o 13 (.al [(32, .int .u8 0)] 46), .e (.st (.tmp 13) (.tmp 46) 32), .t 14 47]) (.sq (.rg [.t 48 12, .t 49 14, .o 50 (.cm .neq (.tmp 48) (.tmp 49))]) (.cd (.tmp 50) (.sq (.rg [.c 2 (.pointer none), .c 3 (.pointer none), .c 4 (.bool false)]) (.rt)) (.sk))))))) (.rg [.o 51 (.ar .add .i64 (.tmp 32) (.const (.int .i64 1)) true), .t 32 51]))))))) (.sq (.rg [.t 52 5, .t 53 7, .t 2 52, .t 3 53, .c 4 (.bool true)]) (.rt))))))
theorem k5 : Tryz.f5.body.any (fun c => chkC Tryz.prog c m5 && allD (dlt 54) m5) = true := by kernel_rfl
def m4 : MC := .sq (.rg [.c 2 (.bool false)]) (.sq (.sq (.rg [.t 5 0, .o 6 (.ln false (.tmp 5)), .c 7 (.int .i64 0)]) (.bk 0 (.lp (.sq (.rg [.o 8 (.cm .lss (.tmp 7) (.tmp 6))]) (.sq (.cd (.tmp 8) (.sk) (.xt 0)) (.sq (.bk 1 (.sq (.rg [.o 9 (.ias (.tmp 5) (.tmp 7) 1), .o 10 (.ld (.tmp 9) none), .t 4 10]) (.sq (.rg [.t 11 4, .o 12 (.ln false (.tmp 11)), .o 13 (.cm .gtr (.tmp 12) (.const (.int .i64 4100)))]) (.cd (.tmp 13) (.sq (.rg [.c 2 (.bool true)]) (.rt)) (.sk))))) (.rg [.o 14 (.ar .add .i64 (.tmp 7) (.const (.int .i64 1)) true), .t 7 14]))))))) (.sq (.rg [.t 15 0, .o 16 (.ln false (.tmp 15)), .o 17 (.cm .gtr (.tmp 16) (.const (.int .i64 30))), .t 2 17]) (.rt)))
theorem k4 : Tryz.f4.body.any (fun c => chkC Tryz.prog c m4 && allD (dlt 18) m4) = true := by kernel_rfl
abbrev Hn := Id × Int
def hc (p : Hn) : List Value := ic p.1 ++ [.int .i64 p.2]
theorem hc_len (p : Hn) : (hc p).length = 33 := by rw [hc, List.length_append, ic_len]; rfl
theorem hc_one (p : Hn) : ∀ v ∈ hc p, v.oneCell' = true := fun v hv => by
 unfold hc at hv
 rcases List.mem_append.1 hv with hv | hv
 ·exact ic_one p.1 v hv
 ·rw [List.mem_singleton.1 hv]; rfl
theorem hc_id (p : Hn) : (hc p).take 32 = ic p.1 := by unfold hc; rw [List.take_left' (ic_len p.1)]
theorem hc_dp (p : Hn) : (hc p)[32]? = some (.int .i64 p.2) := by unfold hc; rw [List.getElem?_append_right (by rw [ic_len]; exact Nat.le_refl _), ic_len]; rfl
def QR (bq : Nat) (v : Value) (d : List Hn) : List Res := [cel bq [v] 154, row v 160 33 d.length (fl hc d)]
def ifq (bq : Nat) : Value := .iface 149 (dp bq)
instance : Inhabited Hn := ⟨(⟨zid, zid_len⟩, 0)⟩
def swp (d : List Hn) (i j : Nat) : List Hn := (d.set i (d.getD j default)).set j (d.getD i default)
theorem swp_len (d : List Hn) (i j : Nat) : (swp d i j).length = d.length := by simp [swp]
theorem swp_perm {d : List Hn} {i j : Nat} (hi : i < d.length) (hj : j < d.length) : (swp d i j).Perm d := by
 unfold swp
 rw [List.getD_eq_getElem?_getD, List.getD_eq_getElem?_getD, List.getElem?_eq_getElem hi, List.getElem?_eq_getElem hj]
 simp only [Option.getD_some]
 exact List.set_set_perm hi hj
section
variable {w w0 : World} {S0 : Nat → Prop} {L B : List Res} {K : Value → World → Prop} {s : Bs} {E0 E1 : Nat}
theorem b_nanN {k : Int} (h : K (.bool false) w) : CK Tryz.prog 224 [.int .i64 k] w K := by
 refine call_k Tryz.func224 k224 Tryz.ntmps224 (Nat.le_of_ble_eq_true rfl) ?_
 refine gW ?_
 rw [cmv_neq _]
 exact g_ret (q_1 rfl h)
theorem b_cmpN {a b : Int} (h : ∀ c : Int, K (.int .i64 c) w) : CK Tryz.prog 223 [.int .i64 a, .int .i64 b] w K := by
 refine call_k Tryz.func223 k223 Tryz.ntmps223 (Nat.le_of_ble_eq_true rfl) ?_
 refine gW ?_
 refine g_cl rfl rfl (b_nanN ?_)
 refine gW ?_
 refine g_cl rfl rfl (b_nanN ?_)
 refine gW ?_
 generalize cmv BinOp.lss a b = q1
 cases q1
 ·refine gW ?_
  generalize cmv BinOp.gtr a b = q2
  cases q2
  ·refine gW ?_
   exact g_ret (q_1 rfl (h _))
  ·refine gW ?_
   exact g_ret (q_1 rfl (h _))
 ·refine gW ?_
  exact g_ret (q_1 rfl (h _))
theorem b_or {a b : Int} {g : Nat} (hg : Blk w g [.int .i64 a, .int .i64 b] 3) (h : ∀ c : Int, K (.int .i64 c) w) : CK Tryz.prog 222 [.slice (some ⟨g, 0, none⟩) 2 2] w K := by
 refine call_k Tryz.func222 k222 Tryz.ntmps222 (Nat.le_of_ble_eq_true rfl) ?_
 refine gW ?_
 refine g_lp (ι := Nat) (fun k => [(3, .int .i64 0), (6, .slice (some ⟨g, 0, none⟩) 2 2), (7, .int .i64 2), (8, .int .i64 k)]) (fun k w' => k ≤ 2 ∧ w' = w) (fun k => 2 - k) 0 ⟨rfl, rfl, rfl, rfl, trivial⟩ ⟨Nat.zero_le _, rfl⟩ ?_
 rintro k w1 ⟨hk, rfl⟩
 refine gW ?_
 (refine g_cd rfl (fun hlt => ?_) (fun hlt => ?_) <;> simp only [cmv, arv, Bool.not_eq_true', Bool.not_eq_false', decide_eq_true_eq, decide_eq_false_iff_not] at hlt)
 ·refine gW ?_
  refine g_rq rfl rfl ⟨by omega, by omega⟩ ?_
  obtain ⟨x, hx⟩ : ∃ x : Int, [Value.int .i64 a, Value.int .i64 b][0 + ((k : Int)).toNat * 1]? = some (.int .i64 x) := by
   match k, hlt with
   | 0, _ => exact ⟨a, rfl⟩
   | 1, _ => exact ⟨b, rfl⟩
  refine g_l1 rfl rfl hg hx ?_
  refine gW ?_
  generalize cmv BinOp.neq x 0 = q
  cases q
  ·refine gW ?_
   refine g_rq rfl rfl (in64 (by simp only [arv]; omega)) ?_
   refine gW ?_
   exact g_l (k + 1) ⟨rfl, rfl, rfl, rfl, trivial⟩ ⟨by omega, rfl⟩ (by omega)
  ·refine gW ?_
   exact g_ret (q_1 rfl (h _))
 ·refine gW ?_
  exact g_ret (q_1 rfl (h _))
end
section
variable {α : Type} {enc : α → List Value} {sz : Nat}
theorem fl_setG (he : ∀ x, (enc x).length = sz) (d : List α) (rest : List Value) (i : Nat) (x : α) (h : i < d.length) : spl (fl enc d ++ rest) (i * sz) (enc x) = fl enc (d.set i x) ++ rest := by
 have e1 : fl enc d ++ rest = fl enc (d.take i) ++ (enc (d[i]) ++ (fl enc (d.drop (i + 1)) ++ rest)) := by
  conv => lhs; rw [← List.take_append_drop i d, List.drop_eq_getElem_cons h, fl_app, fl_cons]
  simp
 have e2 : fl enc (d.set i x) ++ rest = fl enc (d.take i) ++ (enc x ++ (fl enc (d.drop (i + 1)) ++ rest)) := by
  rw [List.set_eq_take_append_cons_drop, if_pos h, fl_app, fl_cons]
  simp
 rw [e1, e2]
 have l1 : (fl enc (d.take i)).length = i * sz := by rw [fl_len he, List.length_take, Nat.min_eq_left (by omega)]
 have := spl_app (fl enc (d.take i)) (enc d[i]) (fl enc (d.drop (i + 1)) ++ rest) (enc x) (by rw [he, he]; exact Nat.le_refl _)
 rw [l1] at this
 rw [this, List.drop_of_length_le (by rw [he, he]; exact Nat.le_refl _), List.append_nil]
theorem fl_atG (he : ∀ x, (enc x).length = sz) (d : List α) (rest : List Value) (i : Nat) (h : i < d.length) : ((fl enc d ++ rest).drop (i * sz)).take sz = enc d[i] := by
 have l1 := fl_len he d
 have h2 : (i + 1) * sz ≤ d.length * sz := Nat.mul_le_mul_right _ h
 rw [Nat.succ_mul] at h2
 rw [List.drop_append_of_le_length (by rw [l1]; omega), List.take_append_of_le_length (by rw [List.length_drop, l1]; omega)]
 exact fl_at he d i _ (List.getElem?_eq_getElem h)
theorem rd_cel (he : ∀ x, (enc x).length = sz) {l : List Value} {off n : Nat} {d : List α} (h : (l.drop off).take (n * sz) = fl enc d) (hd : d.length = n) {i : Nat} (hi : i < d.length) {j : Nat} (hj : j < sz) : l[off + i * sz + j]? = (enc d[i])[j]? := by
 have := rd_at he h hd hi
 rw [← this, List.getElem?_take_of_lt hj, List.getElem?_drop]
end
section
variable {w w0 : World} {S0 : Nat → Prop} {L B : List Res} {K : Value → World → Prop} {s : Bs} {E0 E1 : Nat} {bq : Nat} {v : Value} {d : List Hn}
theorem iv_Len : (callMethod (ifq bq) "Len" ⟨[]⟩).run Tryz.prog w = .ok (.enter 217 ⟨[dp bq]⟩) w := by kernel_rfl
theorem iv_Less {a b : Value} : (callMethod (ifq bq) "Less" ⟨[a, b]⟩).run Tryz.prog w = .ok (.enter 218 ⟨[dp bq, a, b]⟩) w := by kernel_rfl
theorem iv_Swap {a b : Value} : (callMethod (ifq bq) "Swap" ⟨[a, b]⟩).run Tryz.prog w = .ok (.enter 221 ⟨[dp bq, a, b]⟩) w := by kernel_rfl
theorem iv_Pop : (callMethod (ifq bq) "Pop" ⟨[]⟩).run Tryz.prog w = .ok (.enter 219 ⟨[dp bq]⟩) w := by kernel_rfl
theorem iv_Push {a : Value} : (callMethod (ifq bq) "Push" ⟨[a]⟩).run Tryz.prog w = .ok (.enter 220 ⟨[dp bq, a]⟩) w := by kernel_rfl
theorem qr_rd (hS : St w0 S0 w (QR bq v d ++ B)) : Rd v 160 33 d.length (fl hc d) w := Ow.rd (hS.ok 1 _ rfl)
theorem b_Len (hS : St w0 S0 w (QR bq v d)) (h : K (.int .i64 d.length) w) : CK Tryz.prog 217 [dp bq] w K := by
 obtain ⟨a, c, rfl⟩ := hS.rlen 1 rfl
 refine call_k Tryz.func217 k217 Tryz.ntmps217 (Nat.le_of_ble_eq_true rfl) ?_
 refine gW ?_
 refine g_l1 rfl rfl (hS.b  0 rfl) rfl ?_
 refine gW ?_
 exact g_ret (q_1 rfl h)
set_option maxHeartbeats 2000000 in
theorem b_Less {i j : Nat} (hi : i < d.length) (hj : j < d.length) (hS : St w0 S0 w (QR bq v d)) (h : ∀ q w', St w0 S0 w' (QR bq v d) → K (.bool q) w') : CK Tryz.prog 218 [dp bq, .int .i64 i, .int .i64 j] w K := by
 obtain ⟨a, c, rfl⟩ := hS.rlen 1 rfl
 refine call_k Tryz.func218 k218 Tryz.ntmps218 (Nat.le_of_ble_eq_true rfl) ?_
 refine gW ?_
 refine g_dr mixed ?_
 replace hS := hS.drew
 obtain ⟨b, off, cap, l, e1, hcap, hl, hx, hb⟩ := Rd.block (qr_rd (B := []) hS) (by omega)
 cases e1
 have dep : ∀ k (hk : k < d.length), l[off + k * 33 + 32]? = some (.int .i64 d[k].2) := fun k hk => by rw [rd_cel hc_len hx rfl hk (by decide), hc_dp]
 have hbd : ∀ k, k < d.length → off + k * 33 + 0 + 32 ≤ l.length := fun k hk => by
  have : (k + 1) * 33 ≤ c * 33 := Nat.mul_le_mul_right 33 (by omega)
  omega
 have idd : ∀ k (hk : k < d.length), (l.drop (off + k * 33 + 0)).take 32 = ic d[k].1 := fun k hk => by
  have := rd_at hc_len hx rfl hk
  rw [Nat.add_zero, ← hc_id, ← this, List.take_take]
  rfl
 refine gD ?_
 refine d_l1 rfl rfl rfl (hS.b 0 rfl) (v := .slice (some ⟨b, off, none⟩) d.length c) rfl ?_
 refine gD ?_
 refine d_rq rfl rfl rfl ⟨by omega, by omega⟩ ?_
 refine gD ?_
 refine d_l1r rfl rfl rfl hb (by rw [Int.toNat_natCast]; exact dep j hj) ?_
 refine gD ?_
 refine d_l1 rfl rfl rfl (hS.b 0 rfl) (v := .slice (some ⟨b, off, none⟩) d.length c) rfl ?_
 refine gD ?_
 refine d_rq rfl rfl rfl ⟨by omega, by omega⟩ ?_
 refine gD ?_
 refine d_l1r rfl rfl rfl hb (by rw [Int.toNat_natCast]; exact dep i hi) ?_
 refine gD ?_
 refine d_l1 rfl rfl rfl (hS.b 0 rfl) (v := .slice (some ⟨b, off, none⟩) d.length c) rfl ?_
 refine gD ?_
 refine d_rq rfl rfl rfl ⟨by omega, by omega⟩ ?_
 refine gD ?_
 refine d_qt rfl rfl rfl (qt_ldmr rfl hb (by rw [Int.toNat_natCast]; exact hbd i hi)) ?_
 rw [Int.toNat_natCast, idd i hi]
 refine gD ?_
 refine d_l1 rfl rfl rfl (hS.b 0 rfl) (v := .slice (some ⟨b, off, none⟩) d.length c) rfl ?_
 refine gD ?_
 refine d_rq rfl rfl rfl ⟨by omega, by omega⟩ ?_
 refine gD ?_
 refine d_qt rfl rfl rfl (qt_ldmr rfl hb (by rw [Int.toNat_natCast]; exact hbd j hj)) ?_
 rw [Int.toNat_natCast, idd j hj]
 refine d_cl rfl rfl rfl (b_cmpN fun cc => ?_)
 have idq : ∀ k (hk : k < d.length) {T : TT} {x : Operand}, ev T x = some (.pointer (some ⟨b, off + k * 33 + 0, none⟩)) → Qt Tryz.prog (.ld x (some 32)) T w.drew (.agg ⟨ic d[k].1⟩) := fun k hk {T x} hx => by
  have := qt_ldmr (P := Tryz.prog) (n := 32) hx hb (hbd k hk)
  rwa [idd k hk] at this
 refine ⟨rc_1 rfl rfl rfl rfl (hS.b 0 rfl) rfl (rc_qt rfl rfl rfl rfl (idq i hi rfl) (rc_1 rfl rfl rfl rfl (hS.b 0 rfl) rfl (rc_qt rfl rfl rfl rfl (idq j hj rfl) rc_0))), ?_⟩
 refine d_cl rfl rfl rfl (b_Compare d[i].1.2 d[j].1.2 fun w2 h' => ⟨rc_0, ?_⟩)
 replace hS := hS.call0.2 _ _ h'
 rw [List.append_nil] at hS
 clear h'
 refine d_e rfl rfl ?_
 refine ef_bl (rs := [.int .i64 cc, .int .i64 (Lib.compareBytes d[i].1.1 d[j].1.1)]) hS rfl fun g w2 hS => ⟨rc_0, ?_⟩
 refine d_cl rfl rfl rfl (b_or (hS.b 2 rfl) fun c2 => ⟨rc_0, ?_⟩)
 refine gD ?_
 refine d_fin ?_
 refine gW ?_
 exact g_ret (q_1 rfl (h _ _ (hS.sel [0, 1] rfl rfl)))
set_option maxHeartbeats 2000000 in
theorem b_Swap {i j : Nat} (hi : i < d.length) (hj : j < d.length) (hS : St w0 S0 w (QR bq v d)) (h : ∀ w', St w0 S0 w' (QR bq v (swp d i j)) → K (.tuple ⟨[]⟩) w') : CK Tryz.prog 221 [dp bq, .int .i64 i, .int .i64 j] w K := by
 obtain ⟨a, c, rfl⟩ := hS.rlen 1 rfl
 refine call_k Tryz.func221 k221 Tryz.ntmps221 (Nat.le_of_ble_eq_true rfl) ?_
 refine gW ?_
 refine g_dr mixed ?_
 replace hS := hS.drew
 have hT := hS
 clear hS
 obtain ⟨b, cap', rest, e, hnc, hlc, hS⟩ := hT.open_row 1 rfl (hT.rowb 1 rfl (by omega))
 clear hT
 cases e
 replace hS : St w0 S0 w.drew [cel bq [.slice (some ⟨b, 0, none⟩) d.length c] 154, cel b (fl hc d ++ rest) 160] := hS
 have hfl := fl_len hc_len d
 have hbd : ∀ k, k < d.length → 0 + k * 33 + 33 ≤ (fl hc d ++ rest).length := fun k hk => by
  have : (k + 1) * 33 ≤ d.length * 33 := Nat.mul_le_mul_right 33 hk
  rw [List.length_append, hfl]
  omega
 refine gD ?_
 refine d_l1 rfl rfl rfl (hS.b 0 rfl) (v := .slice (some ⟨b, 0, none⟩) d.length c) rfl ?_
 refine gD ?_
 refine d_l1 rfl rfl rfl (hS.b 0 rfl) (v := .slice (some ⟨b, 0, none⟩) d.length c) rfl ?_
 refine gD ?_
 refine d_l1 rfl rfl rfl (hS.b 0 rfl) (v := .slice (some ⟨b, 0, none⟩) d.length c) rfl ?_
 refine gD ?_
 refine d_rq rfl rfl rfl ⟨by omega, by omega⟩ ?_
 refine d_lm rfl rfl rfl (hS.b 1 rfl) (by rw [Int.toNat_natCast]; exact hbd j hj) ?_
 rw [Int.toNat_natCast, Nat.zero_add, fl_atG hc_len d rest j hj]
 refine gD ?_
 refine d_l1 rfl rfl rfl (hS.b 0 rfl) (v := .slice (some ⟨b, 0, none⟩) d.length c) rfl ?_
 refine gD ?_
 refine d_rq rfl rfl rfl ⟨by omega, by omega⟩ ?_
 refine d_lm rfl rfl rfl (hS.b 1 rfl) (by rw [Int.toNat_natCast]; exact hbd i hi) ?_
 rw [Int.toNat_natCast, Nat.zero_add, fl_atG hc_len d rest i hi]
 refine d_rq rfl rfl rfl ⟨by omega, by omega⟩ ?_
 rw [Int.toNat_natCast, Nat.zero_add]
 refine d_e0 rfl rfl ?_
 refine ef_st hS 1 rfl rfl rfl (hc_len _) (by have := hbd i hi; omega) (List.all_eq_true.2 (hc_one _)) fun w2 hS => ⟨rc_0, ?_⟩
 replace hS := hS.ceq (l' := fl hc (d.set i d[j]) ++ rest) 1 rfl (fl_setG hc_len d rest i _ hi)
 have hfl2 := fl_len hc_len (d.set i d[j])
 refine d_rq rfl rfl rfl ⟨by omega, by omega⟩ ?_
 rw [Int.toNat_natCast, Nat.zero_add]
 refine d_e0 rfl rfl ?_
 refine ef_st hS 1 rfl rfl rfl (hc_len _) (by have := hbd j hj; rw [List.length_append, hfl] at this; rw [List.length_append, hfl2, List.length_set]; omega) (List.all_eq_true.2 (hc_one _)) fun w2 hS => ⟨rc_0, ?_⟩
 replace hS := hS.ceq (l' := fl hc ((d.set i d[j]).set j d[i]) ++ rest) 1 rfl (fl_setG hc_len _ rest j _ (by rw [List.length_set]; exact hj))
 have es : swp d i j = (d.set i d[j]).set j d[i] := by
  unfold swp
  rw [List.getD_eq_getElem?_getD, List.getD_eq_getElem?_getD, List.getElem?_eq_getElem hi, List.getElem?_eq_getElem hj]
  rfl
 refine d_fin ?_
 refine q_n (h _ ?_)
 have hl3 : (fl hc ((d.set i d[j]).set j d[i])).length = d.length * 33 := by rw [fl_len hc_len, List.length_set, List.length_set]
 have hS := hS.close_row (n := d.length) (cap := c) (sz := 33) (xs := fl hc ((d.set i d[j]).set j d[i])) 1 rfl hnc hl3 (List.prefix_append _ _) (by rw [List.length_append, hl3]; rw [List.length_append, hfl] at hlc; exact hlc)
 rw [es]
 unfold QR
 rw [List.length_set, List.length_set]
 exact hS
theorem b_PopQ {x : Hn} (hn : d.length < 2000000) (hS : St w0 S0 w (QR bq v (d ++ [x]))) (h : ∀ v' w', St w0 S0 w' (QR bq v' d) → K (.iface 160 (.agg ⟨hc x⟩)) w') : CK Tryz.prog 219 [dp bq] w K := by
 have hl : (d ++ [x]).length = d.length + 1 := by simp
 obtain ⟨a, c, rfl⟩ := hS.rlen 1 rfl
 have hT := hS
 clear hS
 obtain ⟨b, cap', rest, e, hnc, hlc, hS⟩ := hT.open_row 1 rfl (hT.rowb 1 rfl (by omega))
 clear hT
 cases e
 replace hS : St w0 S0 w [cel bq [.slice (some ⟨b, 0, none⟩) (d ++ [x]).length c] 154, cel b (fl hc (d ++ [x]) ++ rest) 160] := hS
 rw [hl] at hS
 have hfl := fl_len hc_len (d ++ [x])
 refine call_k Tryz.func219 k219 Tryz.ntmps219 (Nat.le_of_ble_eq_true rfl) ?_
 refine gW ?_
 refine g_l1 rfl rfl (hS.b  0 rfl) rfl ?_
 refine gW ?_
 refine g_rq rfl rfl (in64 (by simp only [arv]; omega)) ?_
 rw [show arv .sub ((d.length + 1 : Nat) : Int) 1 = (d.length : Int) by simp only [arv]; omega]
 refine gW ?_
 refine g_l1 rfl rfl (hS.b  0 rfl) rfl ?_
 refine gW ?_
 refine g_rq rfl rfl ⟨by omega, by omega⟩ ?_
 refine g_lm rfl rfl (hS.b 1 rfl) (by rw [List.length_append, hfl, hl, Int.toNat_natCast]; omega) ?_
 rw [Int.toNat_natCast, Nat.zero_add, fl_atG hc_len (d ++ [x]) rest d.length (by omega)]
 rw [show (d ++ [x])[d.length]'(by omega) = x by simp]
 refine g_ef rfl (ef_al hS fun b4 w1 hS => ?_)
 have lz : (zx [(32, Value.int .u8 0), (1, .int .i64 0)]).length = 33 := by decide
 refine gW ?_
 refine g_ef0 rfl (ef_st hS 2 rfl rfl rfl (hc_len _) (by rw [lz]; decide) (List.all_eq_true.2 (hc_one _)) fun w1 hS => ?_)
 replace hS := hS.ceq (l' := hc x) 2 rfl (spl_full _ _ (by show (hc x).length = _; rw [hc_len, lz]))
 refine gW ?_
 refine g_l1 rfl rfl (hS.b  0 rfl) rfl ?_
 refine gW ?_
 refine g_qt rfl (qt_slh (h := d.length) rfl (fun h => by cases h) rfl (by omega) (by omega)) ?_
 refine gW ?_
 refine g_ef0 rfl (ef_st hS 0 rfl rfl rfl rfl (Nat.le_refl _) rfl fun w1 hS => ?_)
 refine gW ?_
 refine g_lm rfl rfl (hS.b 2 rfl) (Nat.le_of_eq (by rw [hc_len])) ?_
 rw [List.drop_zero, List.take_of_length_le (Nat.le_of_eq (hc_len _))]
 refine gW ?_
 refine g_ret (q_1 rfl (h (.slice (some ⟨b, 0, none⟩) d.length c) _ ?_))
 replace hS : St w0 S0 w1 [cel bq [.slice (some ⟨b, 0, none⟩) d.length c] 154, cel b (fl hc (d ++ [x]) ++ rest) 160] := hS.sel [0, 1] rfl rfl
 exact hS.close_row (n := d.length) (cap := c) (sz := 33) (xs := fl hc d) 1 rfl (by omega) (fl_len hc_len d) (by rw [fl_app, List.append_assoc]; exact List.prefix_append _ _) hlc
theorem b_PushQ {x : Hn} (hn : d.length < 2000000) (hS : St w0 S0 w (QR bq v d)) (h : ∀ v' w', St w0 S0 w' (QR bq v' (d ++ [x])) → K (.tuple ⟨[]⟩) w') : CK Tryz.prog 220 [dp bq, .iface 160 (.agg ⟨hc x⟩)] w K := by
 have hl : (d ++ [x]).length = d.length + 1 := by simp
 obtain ⟨a, c, rfl⟩ := hS.rlen 1 rfl
 refine call_k Tryz.func220 k220 Tryz.ntmps220 (Nat.le_of_ble_eq_true rfl) ?_
 refine gW ?_
 refine g_qt rfl (qt_ta rfl) ?_
 refine gW ?_
 refine g_ef rfl (ef_al hS fun b4 w1 hS => ?_)
 have lz : (zx [(32, Value.int .u8 0), (1, .int .i64 0)]).length = 33 := by decide
 refine gW ?_
 refine g_ef0 rfl (ef_st hS 2 rfl rfl rfl (hc_len _) (by rw [lz]; decide) (List.all_eq_true.2 (hc_one _)) fun w1 hS => ?_)
 replace hS := hS.ceq (l' := hc x) 2 rfl (spl_full _ _ (by show (hc x).length = _; rw [hc_len, lz]))
 replace hS : St w0 S0 w1 [cel bq [.slice a d.length c] 154, row (.slice a d.length c) 160 33 d.length (fl hc d), cel b4 (hc x) 160] := hS
 refine gW ?_
 refine g_dr mixed ?_
 replace hS := hS.drew
 refine gD ?_
 refine d_l1 rfl rfl rfl (hS.b 0 rfl) (v := .slice a d.length c) rfl ?_
 refine d_lm rfl rfl rfl (hS.b 2 rfl) (Nat.le_of_eq (by rw [hc_len])) ?_
 rw [List.drop_zero, List.take_of_length_le (Nat.le_of_eq (hc_len _))]
 refine d_e rfl rfl ?_
 refine ef_bl (rs := hc x) hS (evcs_1 rfl (hc_len _)) fun g w2 hS => ⟨rc_1 rfl rfl rfl rfl (hS.b 0 rfl) rfl rc_0, ?_⟩
 refine d_e rfl rfl ?_
 refine ef_ap (n := d.length) (m := 1) (ys := hc x) hS 1 rfl rfl rfl (.inl ⟨160, .inr ⟨g, 0, 1, _, rfl, Nat.le_refl _, Nat.le_of_eq (by rw [hc_len]), by rw [List.drop_zero, List.take_of_length_le (Nat.le_of_eq (hc_len _))], (hS.b 3 rfl).r⟩⟩) (List.all_eq_true.2 (hc_one x)) (by omega) (by omega) fun v2 w2 hS => ⟨rc_0, ?_⟩
 have es : fl hc d ++ hc x = fl hc (d ++ [x]) := by rw [fl_app]; simp [fl]
 rw [es, ← hl] at hS
 obtain ⟨a2, c2, rfl⟩ := hS.rlen 1 rfl
 refine gD ?_
 refine d_e0 rfl rfl ?_
 refine ef_st hS 0 rfl rfl rfl rfl (Nat.le_refl _) rfl fun w2 hS => ⟨rc_0, ?_⟩
 refine d_fin ?_
 exact q_n (h _ _ (hS.sel [0, 1] rfl rfl))
end
end Go.Proofs.YtocofjmknnckhaaGreatDoor
