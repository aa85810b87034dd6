/- Oa3 EnK EnY Ra0 Ru0 Rb1 Oa4 Oa5 Na5 -/
import Derived.Test.YtfffdhafbbbpcaaGreatDoorPt4
import Derived.DeepKeys3
import Derived.Maps.RangeRun
import Derived.Test.YtfffdhafbbbpcaaGreatDoorChecked
import Derived.KernelRfl
set_option linter.unusedSimpArgs false
set_option linter.unusedVariables false
namespace Go.Proofs.YtfffdhafbbbpcaaGreatDoor
open Go.En
def zip : Bs := List.replicate 32 0
def recB (r : Rec) : Bool := dotB r.site r.cnt && (decide (((r.ctx.getD r.site.toNat 0 : Nat) : Int) + 1 = r.cnt) && (decide (nmE r.ref = 0) && (r.has || decide (r.tip = zip))))
def recE (r : Rec) : Int := if recB r = true then 0 else 120
def dotR (a b c d : Int) : Int := if a < c ∨ (a = c ∧ b < d) then -1 else if a = c ∧ b = d then 0 else 1
theorem dotC_R (a b c d : Int) : dotC a b c d = dotR a b c d := by
 unfold dotC dotR cmpI
 repeat' split
 all_goals first | omega | rfl | skip
theorem dc_fits (a b : Int) : Fits (List.replicate 2 (.i .i64)) (dc a b) := ⟨⟨_, rfl⟩, ⟨_, rfl⟩, trivial⟩
theorem dc_eq (a b c d : Int) : deqv (dc a b) (dc c d) = decide (a = c ∧ b = d) := deqv_eq (by
 rw [decide_eq_true_eq]
 unfold dc
 constructor
 ·rintro ⟨rfl, rfl⟩; rfl
 ·intro h
  simp only [List.cons.injEq, Value.int.injEq, true_and, and_true] at h
  exact h)
section
variable {w w0 : World} {S0 : Nat → Prop} {L B : List Res} {K : Value → World → Prop} {s : Bs} {E0 E1 : Nat}
theorem b_Or {g : Nat} {a b : Int} {E : Nat} (hb : Blr w g [.int .i64 a, .int .i64 b] E) (h : K (.int .i64 (if a ≠ 0 then a else b)) w) : CK Tryz.prog 94 [.slice (some ⟨g, 0, none⟩) 2 2] w K := by
 refine call_k Tryz.func94 k94 Tryz.ntmps94 (Nat.le_of_ble_eq_true rfl) ?_
 refine gW ?_
 refine g_lp (ι := Nat) (fun k => [(3, .int .i64 0), (6, .slice (some ⟨g, 0, none⟩) 2 2), (7, .int .i64 (2 : Nat)), (8, .int .i64 k)]) (fun k w' => k ≤ 2 ∧ (0 < k → a = 0) ∧ (1 < k → b = 0) ∧ w' = w) (fun k => 2 - k) 0 ⟨rfl, rfl, rfl, rfl, trivial⟩ ⟨by omega, by omega, by omega, rfl⟩ ?_
 rintro k w1 ⟨hk, h1, h2, rfl⟩
 refine gW ?_
 (refine g_cd rfl (fun hlt => ?_) (fun hlt => ?_) <;> simp only [cmv, arv, Bool.not_eq_true', Bool.not_eq_false', decide_eq_true_eq, decide_eq_false_iff_not] at hlt)
 ·match k, hk, h1, h2, hlt with
  | 0, _, _, _, _ =>
   refine gW ?_
   refine g_rq rfl rfl ⟨by decide, by decide⟩ ?_
   refine g_l1r (v := .int .i64 a) rfl rfl hb rfl ?_
   refine gW ?_
   (generalize q1 : cmv _ _ _ = q; cases q <;> simp only [cmv, arv, Bool.not_eq_true', Bool.not_eq_false', decide_eq_true_eq, decide_eq_false_iff_not] at q1 <;> first | (exfalso; omega) | skip)
   ·rw [if_neg (by omega)] at h
    refine gW ?_
    refine g_rq rfl rfl (in64 (by simp only [arv]; omega)) ?_
    refine gW ?_
    exact g_l 1 ⟨rfl, rfl, rfl, rfl, trivial⟩ ⟨by omega, fun _ => by omega, by omega, rfl⟩ (by omega)
   ·rw [if_pos (by omega)] at h
    refine gW ?_
    exact g_ret (q_1 rfl h)
  | 1, _, h1, _, _ =>
   rw [if_neg (by have := h1 (by omega); omega)] at h
   refine gW ?_
   refine g_rq rfl rfl ⟨by decide, by decide⟩ ?_
   refine g_l1r (v := .int .i64 b) rfl rfl hb rfl ?_
   refine gW ?_
   (generalize q1 : cmv _ _ _ = q; cases q <;> simp only [cmv, arv, Bool.not_eq_true', Bool.not_eq_false', decide_eq_true_eq, decide_eq_false_iff_not] at q1 <;> first | (exfalso; omega) | skip)
   ·refine gW ?_
    refine g_rq rfl rfl (in64 (by simp only [arv]; omega)) ?_
    refine gW ?_
    exact g_l 2 ⟨rfl, rfl, rfl, rfl, trivial⟩ ⟨by omega, fun _ => h1 (by omega), fun _ => by omega, rfl⟩ (by omega)
   ·refine gW ?_
    exact g_ret (q_1 rfl h)
 ·have e1 := h1 (by omega)
  have e2 := h2 (by omega)
  rw [if_neg (by omega), e2] at h
  refine gW ?_
  exact g_ret (q_1 rfl h)
theorem b_dotCmp {a b c d : Int} (h : ∀ w', St w (fun _ => False) w' [] → K (.int .i64 (dotC a b c d)) w') : CK Tryz.prog 56 [.agg ⟨dc a b⟩, .agg ⟨dc c d⟩] w K := by
 have hS := St.nil w (fun _ => False)
 refine call_k Tryz.func56 k56 Tryz.ntmps56 (Nat.le_of_ble_eq_true rfl) ?_
 refine gW ?_
 refine g_ef rfl (ef_bx hS rfl fun b1 w1 hS => ?_)
 refine g_ef rfl (ef_bx hS rfl fun b2 w1 hS => ?_)
 replace hS : St w (fun _ => False) w1 [cel b1 (dc a b) 36, cel b2 (dc c d) 36] := hS
 refine gW ?_
 refine g_dr mixed ?_
 replace hS := hS.drew
 refine gD ?_
 refine d_l1 rfl rfl rfl (hS.b 0 rfl) (v := .int .i64 a) rfl ?_
 refine gD ?_
 refine d_l1 rfl rfl rfl (hS.b 1 rfl) (v := .int .i64 c) rfl ?_
 refine gD ?_
 refine d_l1 rfl rfl rfl (hS.b 0 rfl) (v := .int .i64 b) rfl ?_
 refine gD ?_
 refine d_l1 rfl rfl rfl (hS.b 1 rfl) (v := .int .i64 d) rfl ?_
 refine d_cl rfl rfl rfl (b_cmpI ⟨rc_1 rfl rfl rfl rfl (hS.b 0 rfl) rfl (rc_1 rfl rfl rfl rfl (hS.b 1 rfl) rfl rc_0), ?_⟩)
 refine d_cl rfl rfl rfl (b_cmpI ⟨rc_0, ?_⟩)
 refine d_e rfl rfl ?_
 refine ef_bl (rs := [.int .i64 (cmpI a c), .int .i64 (cmpI b d)]) hS rfl fun g w2 hS => ⟨rc_0, ?_⟩
 refine d_cl rfl rfl rfl (b_Or (hS.b 2 rfl).r ⟨rc_0, ?_⟩)
 refine gD ?_
 refine d_fin ?_
 refine gW ?_
 exact g_ret (q_1 rfl (h _ (hS.sel [] rfl rfl)))
theorem r_dotCmp {a b c d : Int} (h : ∀ w', St w (fun _ => False) w' [] → K (.int .i64 (dotR a b c d)) w') : CK Tryz.prog 63 [.agg ⟨dc a b⟩, .agg ⟨dc c d⟩] w K := by
 have hS := St.nil w (fun _ => False)
 refine call_k Tryz.func63 k63 Tryz.ntmps63 (Nat.le_of_ble_eq_true rfl) ?_
 refine gW ?_
 refine g_ef rfl (ef_bx hS rfl fun b1 w1 hS => ?_)
 refine g_ef rfl (ef_bx hS rfl fun b2 w1 hS => ?_)
 replace hS : St w (fun _ => False) w1 [cel b1 (dc a b) 36, cel b2 (dc c d) 36] := hS
 unfold dotR at h
 refine gW ?_
 refine g_l1 rfl rfl (hS.b 0 rfl) (v := .int .i64 a) rfl ?_
 refine gW ?_
 refine g_l1 rfl rfl (hS.b 1 rfl) (v := .int .i64 c) rfl ?_
 refine gW ?_
 (generalize q1 : cmv _ _ _ = q; cases q <;> simp only [cmv, arv, Bool.not_eq_true', Bool.not_eq_false', decide_eq_true_eq, decide_eq_false_iff_not] at q1 <;> first | (exfalso; omega) | skip)
 rotate_left
 ·rw [if_pos (by omega)] at h
  refine gW ?_
  exact g_ret (q_1 rfl (h _ (hS.sel [] rfl rfl)))
 refine gW ?_
 refine g_l1 rfl rfl (hS.b 0 rfl) (v := .int .i64 a) rfl ?_
 refine gW ?_
 refine g_l1 rfl rfl (hS.b 1 rfl) (v := .int .i64 c) rfl ?_
 refine gW ?_
 have tail : ¬ (a < c ∨ (a = c ∧ b < d)) → ∀ {X : Prop}, ((deqv (dc a b) (dc c d) = decide (a = c ∧ b = d)) → X) → X := fun _ {X} hx => hx (dc_eq a b c d)
 (generalize q2 : cmv _ _ _ = q; cases q <;> simp only [cmv, arv, Bool.not_eq_true', Bool.not_eq_false', decide_eq_true_eq, decide_eq_false_iff_not] at q2 <;> first | (exfalso; omega) | skip)
 ·rw [if_neg (by omega), if_neg (by omega)] at h
  refine gW ?_
  refine g_lm rfl rfl (hS.b 0 rfl) (Nat.le_refl _) ?_
  refine gW ?_
  refine g_lm rfl rfl (hS.b 1 rfl) (Nat.le_refl _) ?_
  refine g_qt rfl (qt_eqd (a := dc a b) (b := dc c d) rfl rfl (dc_fits _ _) (dc_fits _ _)) ?_
  rw [show eqdv .eql (deqv (dc a b) (dc c d)) = false by show deqv _ _ = _; rw [dc_eq]; exact decide_eq_false (by omega)]
  refine gW ?_
  exact g_ret (q_1 rfl (h _ (hS.sel [] rfl rfl)))
 ·refine gW ?_
  refine g_l1 rfl rfl (hS.b 0 rfl) (v := .int .i64 b) rfl ?_
  refine gW ?_
  refine g_l1 rfl rfl (hS.b 1 rfl) (v := .int .i64 d) rfl ?_
  refine gW ?_
  (generalize q3 : cmv _ _ _ = q; cases q <;> simp only [cmv, arv, Bool.not_eq_true', Bool.not_eq_false', decide_eq_true_eq, decide_eq_false_iff_not] at q3 <;> first | (exfalso; omega) | skip)
  ·rw [if_neg (by omega)] at h
   refine gW ?_
   refine g_lm rfl rfl (hS.b 0 rfl) (Nat.le_refl _) ?_
   refine gW ?_
   refine g_lm rfl rfl (hS.b 1 rfl) (Nat.le_refl _) ?_
   refine g_qt rfl (qt_eqd (a := dc a b) (b := dc c d) rfl rfl (dc_fits _ _) (dc_fits _ _)) ?_
   by_cases e : a = c ∧ b = d
   ·rw [if_pos e] at h
    rw [show eqdv .eql (deqv (dc a b) (dc c d)) = true by show deqv _ _ = _; rw [dc_eq]; exact decide_eq_true e]
    refine gW ?_
    exact g_ret (q_1 rfl (h _ (hS.sel [] rfl rfl)))
   ·rw [if_neg e] at h
    rw [show eqdv .eql (deqv (dc a b) (dc c d)) = false by show deqv _ _ = _; rw [dc_eq]; exact decide_eq_false e]
    refine gW ?_
    exact g_ret (q_1 rfl (h _ (hS.sel [] rfl rfl)))
  ·rw [if_pos (by omega)] at h
   refine gW ?_
   exact g_ret (q_1 rfl (h _ (hS.sel [] rfl rfl)))
end
end Go.Proofs.YtfffdhafbbbpcaaGreatDoor
namespace Go.En
section
variable {P : Program} {r : Option Nat} {T : TT} {w w0 : World} {S0 : Nat → Prop} {L : List Res} {K : Value → World → Prop}
theorem ef_mrg {m : Operand} {bm c : Nat} {es : Array MapEntry} (hS : St w0 S0 w L) (hb : w.heap[bm]? = some (.map es c)) (hm : ev T m = some (.map (some bm)))
  (h : ∀ b w', St w0 S0 w' (L ++ [obj b (.mapIter (some bm) c #[] c)]) → K (.pointer (some ⟨b, 0, none⟩)) w') : Ef P r (.mrg m) T w K := by
 refine ef_run ?_
 rintro ⟨dst, op, ty, pos, after, guard⟩ ρ hc ha
 cases op <;> simp only [chkO, Bool.false_eq_true, Bool.and_eq_true] at hc
 obtain ⟨e1, hu⟩ := hc
 have e1 := oeq_eq e1; subst e1
 split at hu
 ·rename_i k e hu'
  refine ⟨_, w.alloc (.mapIter (some bm) c #[] c), ?_, h _ _ (hS.newObj _)⟩
  simp only [execOp, Instr.range, ha.2 _ (by simp [MK.ops]) _ hm, Sem.run_bind, run_underlying hu' w, Result.andThen_ok, run_getO hb rfl, Sem.run_pure, run_newObj]
  rfl
 ·cases hu
theorem ef_mnx {x : Operand} {bi bm since c0 clock : Nat} {seen : Array Nat} {es : Array MapEntry} (hS : St w0 S0 w L) (i : Nat) (hi : L[i]? = some (obj bi (.mapIter (some bm) since seen c0))) (hx : ev T x = some (.pointer (some ⟨bi, 0, none⟩)))
  (hb : w.heap[bm]? = some (.map es clock)) (hold : ∀ x ∈ es.toList, x.born < since) (hsc : since ≤ c0)
  (h1 : (leftOf es seen).size = 0 → K (.tuple ⟨[.bool false]⟩) w)
  (h2 : ∀ e ∈ (leftOf es seen).toList, ∀ w', St w0 S0 w' (L.set i (obj bi (.mapIter (some bm) since (seen.push e.born) clock))) → K (.tuple ⟨[.bool true, e.key, e.val]⟩) w') : Ef P r (.mnx x) T w K := by
 have hr : w.heap[bi]? = some (.mapIter (some bm) since seen c0) := hS.ok i _ hi
 refine ef_run ?_
 rintro ⟨dst, op, ty, pos, after, guard⟩ ρ hc ha
 cases op <;> try (simp [chkO] at hc; done)
 rename_i y q
 cases q
 ·simp only [chkO] at hc
  have e1 := oeq_eq hc; subst e1
  rcases run_next_at (P := P) w ty bi bm since c0 seen es clock hr hb hold hsc with ⟨h0, hn⟩ | ⟨e, he, w1, hw1, hn⟩
  ·refine ⟨_, w, ?_, h1 h0⟩
   simp only [execOp, ha.2 _ (by simp [MK.ops]) _ hx, Sem.run_bind]
   rw [hn]
   rfl
  ·have key : ∃ w', (Instr.next (.pointer (some ⟨bi, 0, none⟩)) false ty).run P w = .ok (.tuple #[.bool true, e.key, e.val]) w' ∧ St w0 S0 w' (L.set i (obj bi (.mapIter (some bm) since (seen.push e.born) clock))) := by
    refine ⟨_, hn, ?_⟩
    rcases hw1 with rfl | rfl
    ·exact hS.putO i hi _
    ·exact hS.drew.putO i hi _
   obtain ⟨w', hn', hS'⟩ := key
   refine ⟨_, w', ?_, h2 e he w' hS'⟩
   simp only [execOp, ha.2 _ (by simp [MK.ops]) _ hx, Sem.run_bind]
   rw [hn']
   rfl
 ·simp [chkO] at hc
theorem qt_men {x : Operand} {bi bm since clock : Nat} {seen : Array Nat} {es : Array MapEntry} {e : MapEntry} (hx : ev T x = some (.pointer (some ⟨bi, 0, none⟩)))
  (hr : w.heap[bi]? = some (.mapIter (some bm) since (seen.push e.born) clock)) (hb : w.heap[bm]? = some (.map es clock)) (he : e ∈ es.toList) (hn : (es.toList.map (·.born)).Nodup) : Qt P (.men x) T w (.tuple ⟨[e.key, e.val]⟩) := by
 rintro ⟨dst, op, ty, pos, after, guard⟩ ρ hc ha
 cases op <;> try (simp [chkO] at hc; done)
 simp only [chkO] at hc
 have e1 := oeq_eq hc; subst e1
 simp only [execOp, ha.2 _ (by simp [MK.ops]) _ hx, Sem.run_bind]
 rw [run_entry_at w bi bm since seen es clock e hr hb he hn]
 rfl
end
section
variable {P : Program} {r : Option Nat} {T : TT} {w w0 : World} {S0 : Nat → Prop} {L : List Res} {K : Value → World → Prop}
theorem ef_iv {x : Operand} {m : String} {t f : Nat} {v rv : Value} {args : List Operand} {vs : List Value} (hx : ev T x = some (.iface t v)) (ha : evs T args = some vs)
  (hm : (callMethod (.iface t v) m ⟨vs⟩).run P w = .ok (.enter f ⟨rv :: vs⟩) w) (h : CK P f (rv :: vs) w K) : Ef P r (.iv x m args) T w K := by
 rintro ⟨dst, op, ty, pos, after, guard⟩ a next Q hc hag hn
 refine ⟨about_true, ?_⟩
 rw [Oper.semAt_eq _ _ _ (chk_nd hc)]
 cases op <;> simp only [chkO, Bool.false_eq_true] at hc
 rename_i c
 split at hc
 ·rename_i y n hg
  simp only [Bool.and_eq_true, beq_iff_eq] at hc
  obtain ⟨⟨e1, rfl⟩, he⟩ := hc
  have e1 := oeq_eq e1
  have he := oeqs_eq he
  subst e1
  have hval : a.eval x = .iface t v := hag.2 _ (by simp [MK.ops]) _ hx
  have hargs : c.args.map a.eval = ⟨vs⟩ := by
   rw [map_arr, ← he, evs_map (fun x hx => hag.2 x (by simp [MK.ops]; exact .inr hx)) ha]
  have hrun : (execOp a.eval ⟨dst, .call c, ty, pos, after, guard⟩).run P w = .ok (.enter f ⟨rv :: vs⟩) w := by
   simp only [execOp, resolve, hg, Sem.run_bind, Sem.run_pure, hval, hargs, invoke, Result.andThen_ok]
   have e2 : (#[Value.iface t v] ++ (⟨vs⟩ : Array Value))[0]? = some (.iface t v) := by simp
   have e3 : (#[Value.iface t v] ++ (⟨vs⟩ : Array Value)).extract 1 (#[Value.iface t v] ++ (⟨vs⟩ : Array Value)).size = ⟨vs⟩ := by
    apply Array.ext'
    simp
   rw [e2]
   simp only [e3]
   exact hm
  rw [hrun]
  refine ⟨fun h => by simp [FW, Fence.wide] at h, ?_⟩
  refine (callsIn_wide (n := 0 - 1)).2 (Calls.mono h ?_)
  rintro e w' ⟨v, rfl, hk⟩
  exact hn v w' hk
 ·simp at hc
end
end Go.En
namespace Go.Proofs.YtfffdhafbbbpcaaGreatDoor
open Go.En
def m3 : MC := .sq (.rg [.o 2 (.bx 24 (.tmp 0)), .c 4 (.bool false)]) (.sq (.sq (.rg [.t 11 1, .o 12 (.cl 5 [.tmp 11])]) (.cd (.tmp 12) (.sq (.rg [.c 4 (.bool true)]) (.rt)) (.sk))) (.sq (.rg [.o 13 (.bl 40 52 []), .t 14 1, .o 15 (.ap 40 52 136 [(2, .int .i64 0), (16, .int .u32 0), (1, .string ⟨#[]⟩), (1, .bool false), (32, .int .u8 0)] (.tmp 13) (.tmp 14)), .t 5 15]) (.sq (.rg [.o 17 (.ld (.tmp 2) (some 16)), .t 18 5, .o 19 (.cl 6 [.tmp 17, .tmp 18]), .t 16 19, .o 20 (.ex (.tmp 16) 0), .o 21 (.ex (.tmp 16) 1), .t 6 20, .t 7 21]) (.sq (.rg [.o 23 (.ld (.tmp 2) (some 16)), .t 24 1, .o 25 (.cl 7 [.tmp 23, .tmp 24]), .t 22 25, .o 26 (.ex (.tmp 22) 0), .o 27 (.ex (.tmp 22) 1), .t 8 26, .t 9 27]) (.sq (.sq (.rg [.t 28 7, .t 29 9, .o 30 (.cm .neq (.tmp 28) (.tmp 29)), .t 31 30, .q 32 31 false (.mv (.tmp 6)), .q 33 31 false (.pn .eql (.tmp 32)), .q 34 31 false (.mv (.tmp 9)), .q 35 31 false (.cm .neq (.tmp 34) (.const (.int .i64 0))), .q 36 31 false (.be .neq (.tmp 33) (.tmp 35)), .o 37 (.pk (.tmp 31) (.const (.bool true)) (.tmp 36)), .t 38 37, .q 39 38 false (.mv (.tmp 5)), .q 40 38 false (.mv (.tmp 1)), .q 41 38 false (.cl 8 [.tmp 39, .tmp 40]), .q 42 38 false (.nt (.tmp 41)), .o 43 (.pk (.tmp 38) (.const (.bool true)) (.tmp 42))]) (.cd (.tmp 43) (.sq (.rg [.c 4 (.bool false)]) (.rt)) (.sk))) (.sq (.sq (.rg [.t 44 5, .o 45 (.ln false (.tmp 44)), .c 46 (.int .i64 0)]) (.bk 0 (.lp (.sq (.rg [.o 47 (.cm .lss (.tmp 46) (.tmp 45))]) (.sq (.cd (.tmp 47) (.sk) (.xt 0)) (.sq (.bk 1 (.sq (.rg [.t 48 46, .t 10 48]) (.rg [.t 49 5, .t 50 10, .o 51 (.ias (.tmp 49) (.tmp 50) 52), .o 52 (.fa (.tmp 51) 18), .e (.st (.tmp 52) (.const (.string ⟨#[120]⟩)) 1)]))) (.rg [.o 53 (.ar .add .i64 (.tmp 46) (.const (.int .i64 1)) true), .t 46 53]))))))) (.sq (.rg [.t 54 9, .o 55 (.cm .neq (.tmp 54) (.const (.int .i64 0))), .t 56 55, .q 57 56 false (.mv (.tmp 6)), .q 58 56 false (.mv (.tmp 8)), .q 59 56 false (.cl 9 [.tmp 57, .tmp 58, .const (.pointer none), .const (.pointer none), .const (.string ⟨#[97]⟩)]), .o 60 (.pk (.tmp 56) (.const (.bool true)) (.tmp 59)), .t 4 60]) (.rt))))))))
theorem k3 : Tryz.f3.body.any (fun c => chkC Tryz.prog c m3 && allD (dlt 61) m3) = true := by kernel_rfl
def m5 : MC := .sq (.rg [.c 2 (.bool false)]) (.sq (.sq (.rg [.t 4 0, .o 5 (.ln false (.tmp 4)), .c 6 (.int .i64 0)]) (.bk 0 (.lp (.sq (.rg [.o 7 (.cm .lss (.tmp 6) (.tmp 5))]) (.sq (.cd (.tmp 7) (.sk) (.xt 0)) (.sq (.bk 1 (.sq (.rg [.t 8 6, .t 3 8]) (.sq (.rg [.t 9 0, .t 10 3, .o 11 (.ias (.tmp 9) (.tmp 10) 52), .o 12 (.fa (.tmp 11) 18), .o 13 (.ld (.tmp 12) none), .o 14 (.ln true (.tmp 13)), .o 15 (.cm .gtr (.tmp 14) (.const (.int .i64 300)))]) (.cd (.tmp 15) (.sq (.rg [.c 2 (.bool true)]) (.rt)) (.sk))))) (.rg [.o 16 (.ar .add .i64 (.tmp 6) (.const (.int .i64 1)) true), .t 6 16]))))))) (.sq (.rg [.t 17 0, .o 18 (.ln false (.tmp 17)), .o 19 (.cm .gtr (.tmp 18) (.const (.int .i64 40))), .t 2 19]) (.rt)))
theorem k5 : Tryz.f5.body.any (fun c => chkC Tryz.prog c m5 && allD (dlt 20) m5) = true := by kernel_rfl
def m9 : MC := .sq (.rg [.c 10 (.bool false)]) (.sq (.rg [.t 16 0, .o 17 (.cl 12 [.tmp 16]), .t 18 0, .t 19 2, .t 20 4, .o 21 (.cl 17 [.tmp 18, .tmp 19, .tmp 20]), .t 11 17, .t 12 21]) (.sq (.dr [.t 22 11, .t 23 1, .o 24 (.cl 32 [.tmp 23]), .o 25 (.cl 8 [.tmp 22, .tmp 24]), .t 26 25, .q 27 26 true (.mv (.tmp 12)), .q 28 26 true (.mv (.tmp 1)), .q 29 26 true (.mv (.tmp 3)), .q 30 26 true (.mv (.tmp 4)), .q 31 26 true (.cl 33 [.tmp 28, .tmp 29, .tmp 30]), .q 32 26 true (.cl 14 [.tmp 27, .tmp 31]), .o 33 (.pk (.tmp 26) (.tmp 32) (.const (.bool false))), .t 34 33, .q 35 34 true (.mv (.tmp 0)), .q 36 34 true (.cl 13 [.tmp 35]), .q 37 34 true (.mv (.tmp 1)), .q 38 34 true (.nc (.tmp 37)), .q 39 34 true (.fa (.tmp 38) 0), .q 40 34 true (.ld (.tmp 39) (some 16)), .q 41 34 true (.eqd .eql (List.replicate 16 (.i .u32)) (.tmp 36) (.tmp 40)), .o 42 (.pk (.tmp 34) (.tmp 41) (.const (.bool false))), .t 43 42, .q 44 43 true (.mv (.tmp 0)), .q 45 43 true (.cl 15 [.tmp 44]), .q 46 43 true (.mv (.tmp 1)), .q 47 43 true (.cl 34 [.tmp 46]), .q 48 43 true (.cl 14 [.tmp 45, .tmp 47]), .o 49 (.pk (.tmp 43) (.tmp 48) (.const (.bool false))), .t 50 49, .q 51 50 true (.mv (.tmp 0)), .q 52 50 true (.mv (.tmp 2)), .q 53 50 true (.cl 19 [.tmp 51, .tmp 52]), .q 54 50 true (.mv (.tmp 1)), .q 55 50 true (.mv (.tmp 3)), .q 56 50 true (.cl 36 [.tmp 54, .tmp 55]), .q 57 50 true (.cl 35 [.tmp 53, .tmp 56]), .o 58 (.pk (.tmp 50) (.tmp 57) (.const (.bool false))), .t 59 58, .q 60 59 true (.mv (.tmp 0)), .q 61 59 true (.mv (.tmp 4)), .q 62 59 true (.cl 16 [.tmp 60, .tmp 61]), .q 63 59 true (.mv (.tmp 1)), .q 64 59 true (.mv (.tmp 4)), .q 65 59 true (.cl 37 [.tmp 63, .tmp 64]), .q 66 59 true (.cl 8 [.tmp 62, .tmp 65]), .o 67 (.pk (.tmp 59) (.tmp 66) (.const (.bool false))), .t 68 67, .q 69 68 true (.mv (.tmp 0)), .q 70 68 true (.cl 21 [.tmp 69]), .q 71 68 true (.mv (.tmp 1)), .q 72 68 true (.cl 38 [.tmp 71]), .q 73 68 true (.cl 20 [.tmp 70, .tmp 72]), .o 74 (.pk (.tmp 68) (.tmp 73) (.const (.bool false))), .t 13 74] [0, 0, 2, 7, 15, 31, 31, 31, 31, 479, 1023, 2047, 4095, 8191, 16383, 8191, 40959, 106495, 237567, 524287, 1048575, 2097151, 4194303, 8388607, 4194303, 33554431, 67108863, 134217727, 268435455, 536870911, 536870911, 2147483647, 536870911, 536870911, 17179869183, 34359738367, 68719476735, 137438953471, 274877906943, 274877906943, 1099511627775, 274877906943, 274877906943, 8796093022207, 17592186044415, 35184372088831, 70368744177663, 140737488355327, 281474976710655, 140737488355327, 1125899906842623, 2251799813685247, 4503599627370495, 9007199254740991] (.q 0 (.q 1 (.e 2 [] (.e 3 [] (.q 4 (.q 5 (.q 6 (.q 7 (.q 8 (.e 9 [] (.e 10 [] (.q 11 (.q 12 (.q 13 (.q 15 (.q 16 (.q 17 (.q 18 (.e 14 [18] (.q 19 (.q 20 (.q 21 (.q 22 (.q 24 (.e 23 [] (.e 25 [] (.e 26 [] (.q 27 (.q 28 (.q 29 (.q 30 (.q 32 (.q 33 (.e 31 [] (.e 34 [] (.e 35 [] (.q 36 (.q 37 (.q 38 (.q 39 (.q 41 (.q 42 (.e 40 [] (.e 43 [] (.e 44 [] (.q 45 (.q 46 (.q 47 (.q 49 (.e 48 [] (.e 50 [] (.e 51 [] (.q 52 (.q 53 (.fin)))))))))))))))))))))))))))))))))))))))))))))))))))))))) (.sq (.sq (.rg [.t 75 11, .o 76 (.ln false (.tmp 75)), .c 77 (.int .i64 0)]) (.bk 0 (.lp (.sq (.rg [.o 78 (.cm .lss (.tmp 77) (.tmp 76))]) (.sq (.cd (.tmp 78) (.sk) (.xt 0)) (.sq (.bk 1 (.sq (.rg [.t 79 77, .t 14 79]) (.rg [.t 80 11, .t 81 14, .o 82 (.ias (.tmp 80) (.tmp 81) 52), .o 83 (.fa (.tmp 82) 18), .e (.st (.tmp 83) (.const (.string ⟨#[120]⟩)) 1)]))) (.rg [.o 84 (.ar .add .i64 (.tmp 77) (.const (.int .i64 1)) true), .t 77 84]))))))) (.sq (.sq (.rg [.t 85 12, .o 86 (.ln false (.tmp 85)), .c 87 (.int .i64 0)]) (.bk 2 (.lp (.sq (.rg [.o 88 (.cm .lss (.tmp 87) (.tmp 86))]) (.sq (.cd (.tmp 88) (.sk) (.xt 2)) (.sq (.bk 3 (.sq (.rg [.t 89 87, .t 15 89]) (.dr [.t 90 12, .t 91 15, .o 92 (.ias (.tmp 90) (.tmp 91) 32), .o 93 (.iaa (.tmp 92) (.const (.int .i64 0)) 32 1), .o 94 (.ld (.tmp 93) none), .o 95 (.ar .add .u8 (.tmp 94) (.const (.int .u8 1)) false), .o 96 (.ias (.tmp 90) (.tmp 91) 32), .o 97 (.iaa (.tmp 96) (.const (.int .i64 0)) 32 1), .e (.st (.tmp 97) (.tmp 95) 1)] [0, 0, 3, 7, 15, 31, 3, 127, 255] (.q 0 (.q 1 (.q 2 (.q 3 (.q 4 (.q 5 (.q 6 (.q 7 (.e 8 [] (.fin))))))))))))) (.rg [.o 98 (.ar .add .i64 (.tmp 87) (.const (.int .i64 1)) true), .t 87 98]))))))) (.sq (.rg [.t 99 13, .t 10 99]) (.rt))))))
theorem k9 : Tryz.f9.body.any (fun c => chkC Tryz.prog c m9 && allD (dlt 100) m9) = true := by kernel_rfl
def m6u0 : MC := .rg [.t 9 19]
def m6v0 : MC := .bk 1 (.sq (.rg [.t 21 9, .o 22 (.cl 24 [.tmp 21]), .t 20 22, .o 23 (.ex (.tmp 20) 0), .o 24 (.ex (.tmp 20) 1), .t 10 23, .t 11 24]) (.sq (.sq (.rg [.t 25 11, .e (.st (.tmp 8) (.tmp 25) 1)]) (.sq (.dr [.t 26 11, .o 27 (.cm .neq (.tmp 26) (.const (.int .i64 0))), .t 28 27, .q 29 28 false (.mv (.tmp 9)), .q 30 28 false (.ias (.tmp 29) (.const (.int .i64 0)) 52), .q 31 28 false (.fa (.tmp 30) 18), .q 32 28 false (.ld (.tmp 31) none), .q 33 28 false (.ld (.tmp 7) none), .q 34 28 false (.sc .leq (.tmp 32) (.tmp 33)), .o 35 (.pk (.tmp 28) (.const (.bool true)) (.tmp 34))] [0, 1, 3, 7, 15, 31, 63, 7, 255, 511] (.q 0 (.q 1 (.q 2 (.q 3 (.q 4 (.q 5 (.q 6 (.q 7 (.q 8 (.q 9 (.fin)))))))))))) (.cd (.tmp 35) (.sq (.rg [.e (.st (.tmp 8) (.const (.int .i64 210)) 1)]) (.xt 0)) (.sk)))) (.sq (.rg [.t 36 9, .o 37 (.ias (.tmp 36) (.const (.int .i64 0)) 52), .o 38 (.fa (.tmp 37) 18), .o 39 (.ld (.tmp 38) none), .e (.st (.tmp 7) (.tmp 39) 1)]) (.dr [.o 40 (.ld (.tmp 6) none), .o 41 (.nc (.tmp 40)), .o 42 (.fa (.tmp 41) 16), .o 43 (.ld (.tmp 42) none), .o 44 (.ld (.tmp 7) none), .t 45 10, .e (.mup 9 (.tmp 43) (.tmp 44) (.tmp 45))] [0, 1, 3, 7, 0, 0, 63] (.q 0 (.q 1 (.q 2 (.q 3 (.q 4 (.q 5 (.e 6 [] (.fin))))))))))))
def m6 : MC := .sq (.rg [.o 2 (.bx 24 (.tmp 0)), .c 4 (.pointer none), .c 5 (.int .i64 0)]) (.sc (.sq (.rg [.o 13 (.ld (.tmp 2) (some 16)), .o 14 (.mkm), .o 15 (.bd [(16, .int .u32 0), (1, .map none)] [(0, 16, .tmp 13), (16, 1, .tmp 14)]), .o 16 (.bx 45 (.tmp 15)), .o 6 (.al [(1, .pointer none)] 27), .e (.st (.tmp 6) (.tmp 16) 1)]) (.sq (.rg [.o 7 (.al [(1, .string ⟨#[]⟩)] 9), .o 8 (.al [(1, .int .i64 0)] 28), .e (.st (.tmp 7) (.const (.string ⟨#[]⟩)) 1), .e (.st (.tmp 8) (.const (.int .i64 0)) 1)]) (.sq (.lb 0) (.sq (.sq (.rg [.t 17 1, .o 18 (.cl 23 [.tmp 17])]) (.bk 0 (.rf (.tmp 18) [19] m6u0 m6v0))) (.sq (.rg [.o 46 (.mf 25 [] [.tmp 2]), .t 12 46]) (.sq (.sq (.rg [.o 47 (.ld (.tmp 8) none), .o 48 (.cm .neq (.tmp 47) (.const (.int .i64 0))), .t 49 48, .q 50 49 false (.mv (.tmp 1)), .q 51 49 false (.mv (.tmp 12)), .q 52 49 false (.cl 28 [.tmp 50, .tmp 51]), .o 53 (.pk (.tmp 49) (.const (.bool true)) (.tmp 52))]) (.cd (.tmp 53) (.sq (.rg [.c 4 (.pointer none), .c 5 (.int .i64 210)]) (.rt)) (.sk))) (.sq (.rg [.o 54 (.ld (.tmp 6) none), .t 4 54, .c 5 (.int .i64 0)]) (.rt)))))))))
theorem k6 : Tryz.f6.body.any (fun c => chkC Tryz.prog c m6 && allD (dlt 55) m6) = true := by kernel_rfl
def m25 : MC := .sq (.rg [.o 2 (.bx 40 (.tmp 0)), .c 3 (.bool false)]) (.sq (.rg [.o 4 (.ld (.tmp 1) (some 16)), .o 5 (.fa (.tmp 2) 0), .o 6 (.ld (.tmp 5) (some 2)), .o 7 (.cl 26 [.tmp 4, .tmp 6]), .o 8 (.nt (.tmp 7)), .t 9 8, .q 10 9 false (.fa (.tmp 2) 2), .q 11 9 false (.ld (.tmp 10) (some 16)), .q 12 9 false (.ld (.tmp 1) (some 16)), .q 13 9 false (.cl 27 [.tmp 11, .tmp 12]), .q 14 9 false (.nt (.tmp 13)), .o 15 (.pk (.tmp 9) (.const (.bool true)) (.tmp 14)), .t 3 15]) (.rt))
theorem k25 : Tryz.f25.body.any (fun c => chkC Tryz.prog c m25 && allD (dlt 16) m25) = true := by kernel_rfl
def m23 : MC := .sq (.rg [.o 1 (.bx 25 (.tmp 0)), .c 2 (.nilFunc)]) (.sq (.rg [.o 3 (.mf 53 [] [.tmp 1]), .t 2 3]) (.rt))
theorem k23 : Tryz.f23.body.any (fun c => chkC Tryz.prog c m23 && allD (dlt 4) m23) = true := by kernel_rfl
def m53 : MC := .bk 0 (.lp (.sq (.sq (.rg [.o 4 (.ld (.tmp 1) none), .o 5 (.ln false (.tmp 4)), .o 6 (.cm .gtr (.tmp 5) (.const (.int .i64 0)))]) (.cd (.tmp 6) (.sk) (.xt 0))) (.bk 1 (.sq (.rg [.o 7 (.ld (.tmp 1) none), .o 8 (.mf 55 [] [.tmp 1]), .o 9 (.cl 54 [.tmp 7, .tmp 8]), .t 3 9]) (.sq (.sq (.rg [.t 10 3, .o 11 (.cm .lss (.tmp 10) (.const (.int .i64 0)))]) (.cd (.tmp 11) (.rg [.o 12 (.ld (.tmp 1) none), .o 13 (.ln false (.tmp 12)), .t 3 13]) (.sk))) (.sq (.sq (.rg [.t 14 0, .o 15 (.ld (.tmp 1) none), .t 16 3, .o 17 (.sl (.tmp 15) none (some (.tmp 16)) none 52), .o 18 (.cv (.tmp 14) [.tmp 17]), .o 19 (.nt (.tmp 18))]) (.cd (.tmp 19) (.rt) (.sk))) (.rg [.o 20 (.ld (.tmp 1) none), .t 21 3, .o 22 (.sl (.tmp 20) (some (.tmp 21)) none none 52), .e (.st (.tmp 1) (.tmp 22) 1)])))))))
theorem k53 : Tryz.f53.body.any (fun c => chkC Tryz.prog c m53 && allD (dlt 23) m53) = true := by kernel_rfl
def m55 : MC := .sq (.rg [.o 2 (.bx 40 (.tmp 0)), .c 3 (.bool false)]) (.sq (.dr [.o 4 (.fa (.tmp 2) 18), .o 5 (.ld (.tmp 4) none), .o 6 (.ld (.tmp 1) none), .o 7 (.ias (.tmp 6) (.const (.int .i64 0)) 52), .o 8 (.fa (.tmp 7) 18), .o 9 (.ld (.tmp 8) none), .o 10 (.se .neq (.tmp 5) (.tmp 9)), .t 3 10] [0, 1, 0, 4, 12, 28, 63, 127] (.q 0 (.q 1 (.q 2 (.q 3 (.q 4 (.q 5 (.q 6 (.q 7 (.fin)))))))))) (.rt))
theorem k55 : Tryz.f55.body.any (fun c => chkC Tryz.prog c m55 && allD (dlt 11) m55) = true := by kernel_rfl
def m12u0 : MC := .rg [.t 5 9]
def m12v0 : MC := .bk 1 (.dr [.o 10 (.ld (.tmp 3) none), .t 11 5, .o 12 (.cl 44 [.tmp 11]), .o 13 (.ap 40 52 136 [(2, .int .i64 0), (16, .int .u32 0), (1, .string ⟨#[]⟩), (1, .bool false), (32, .int .u8 0)] (.tmp 10) (.tmp 12)), .e (.st (.tmp 3) (.tmp 13) 1)] [0, 0, 2, 7, 15] (.q 0 (.q 1 (.e 2 [0] (.e 3 [] (.e 4 [] (.fin)))))))
def m12 : MC := .sq (.rg [.c 2 (.slice none 0 0)]) (.sq (.rg [.o 3 (.al [(1, .slice none 0 0)] 25)]) (.sq (.sq (.rg [.t 6 0, .o 7 (.cl 43 [.tmp 6])]) (.bk 0 (.rf (.tmp 7) [8, 9] m12u0 m12v0))) (.sq (.rg [.o 14 (.ld (.tmp 3) none), .t 2 14]) (.rt))))
theorem k12 : Tryz.f12.body.any (fun c => chkC Tryz.prog c m12 && allD (dlt 15) m12) = true := by kernel_rfl
def m13 : MC := .sq (.rg [.o 2 (.al [(16, .int .u32 0)] 24)]) (.sq (.sq (.rg [.t 3 0, .o 4 (.pn .eql (.tmp 3))]) (.cd (.tmp 4) (.sq (.rg [.o 5 (.bd [(16, .int .u32 0)] []), .e (.st (.tmp 2) (.tmp 5) 16)]) (.rt)) (.sk))) (.sq (.rg [.t 6 0, .o 7 (.nc (.tmp 6)), .o 8 (.fa (.tmp 7) 0), .o 9 (.ld (.tmp 8) (some 16)), .e (.st (.tmp 2) (.tmp 9) 16)]) (.rt)))
theorem k13 : Tryz.f13.body.any (fun c => chkC Tryz.prog c m13 && allD (dlt 10) m13) = true := by kernel_rfl
def m15u0 : MC := .rg [.t 5 9]
def m15v0 : MC := .bk 1 (.dr [.o 10 (.ld (.tmp 3) none), .t 11 5, .o 12 (.cl 45 [.tmp 11]), .o 13 (.ap 38 32 32 [(32, .int .u8 0)] (.tmp 10) (.tmp 12)), .e (.st (.tmp 3) (.tmp 13) 1)] [0, 0, 2, 7, 15] (.q 0 (.q 1 (.e 2 [0] (.e 3 [] (.e 4 [] (.fin)))))))
def m15 : MC := .sq (.rg [.c 2 (.slice none 0 0)]) (.sq (.rg [.o 3 (.al [(1, .slice none 0 0)] 51)]) (.sq (.sq (.rg [.t 6 0, .o 7 (.cl 43 [.tmp 6])]) (.bk 0 (.rf (.tmp 7) [8, 9] m15u0 m15v0))) (.sq (.rg [.o 14 (.ld (.tmp 3) none), .o 15 (.cl 46 [.tmp 14]), .t 2 15]) (.rt))))
theorem k15 : Tryz.f15.body.any (fun c => chkC Tryz.prog c m15 && allD (dlt 16) m15) = true := by kernel_rfl
def m16 : MC := .sq (.rg [.c 4 (.slice none 0 0)]) (.sq (.rg [.t 5 0, .t 6 1, .o 7 (.cl 47 [.tmp 5, .tmp 6]), .o 8 (.cl 44 [.tmp 7]), .t 4 8]) (.rt))
theorem k16 : Tryz.f16.body.any (fun c => chkC Tryz.prog c m16 && allD (dlt 9) m16) = true := by kernel_rfl
def m17 : MC := .sq (.rg [.c 6 (.slice none 0 0)]) (.sq (.rg [.t 7 1, .t 8 0, .t 9 2, .o 10 (.cl 47 [.tmp 8, .tmp 9]), .o 11 (.cl 45 [.tmp 10]), .o 12 (.cl 48 [.tmp 7, .tmp 11]), .t 6 12]) (.rt))
theorem k17 : Tryz.f17.body.any (fun c => chkC Tryz.prog c m17 && allD (dlt 13) m17) = true := by kernel_rfl
def m19u0 : MC := .rg [.t 6 13]
def m19v0 : MC := .bk 1 (.sq (.rg [.t 16 6, .o 17 (.ld (.tmp 2) none), .o 18 (.ld (.tmp 3) none), .t 19 6, .o 20 (.cl 17 [.tmp 17, .tmp 18, .tmp 19]), .o 21 (.cl 50 [.tmp 16, .tmp 20]), .t 15 21, .o 22 (.ex (.tmp 15) 0), .o 23 (.ex (.tmp 15) 1), .t 7 22, .t 8 23]) (.sq (.sq (.rg [.t 24 8, .o 25 (.cm .neq (.tmp 24) (.const (.int .i64 0)))]) (.cd (.tmp 25) (.sq (.rg [.e (.st (.tmp 4) (.const (.slice none 0 0)) 1)]) (.rt)) (.sk))) (.rg [.o 26 (.ld (.tmp 5) none), .t 27 7, .o 28 (.bl 56 1 [.tmp 27]), .o 29 (.ap 56 1 24 [(1, .slice none 0 0)] (.tmp 26) (.tmp 28)), .e (.st (.tmp 5) (.tmp 29) 1)])))
def m19 : MC := .sq (.rg [.o 2 (.bx 27 (.tmp 0)), .o 3 (.bx 80 (.tmp 1)), .o 4 (.al [(1, .slice none 0 0)] 56)]) (.sq (.rg [.o 5 (.al [(1, .slice none 0 0)] 99)]) (.sq (.sq (.rg [.o 11 (.ld (.tmp 2) none), .o 12 (.cl 43 [.tmp 11])]) (.bk 0 (.rf (.tmp 12) [13, 14] m19u0 m19v0))) (.sq (.rg [.o 31 (.ld (.tmp 5) none), .o 32 (.cl 51 [.tmp 31]), .t 30 32, .o 33 (.ex (.tmp 30) 0), .o 34 (.ex (.tmp 30) 1), .t 9 33, .t 10 34]) (.sq (.sq (.rg [.t 35 10, .o 36 (.cm .neq (.tmp 35) (.const (.int .i64 0)))]) (.cd (.tmp 36) (.sq (.rg [.e (.st (.tmp 4) (.const (.slice none 0 0)) 1)]) (.rt)) (.sk))) (.sq (.rg [.t 37 9, .e (.st (.tmp 4) (.tmp 37) 1)]) (.rt))))))
theorem k19 : Tryz.f19.body.any (fun c => chkC Tryz.prog c m19 && allD (dlt 38) m19) = true := by kernel_rfl
def m21 : MC := .sq (.rg [.c 2 (.slice none 0 0)]) (.sq (.sq (.rg [.t 6 0, .o 7 (.pn .eql (.tmp 6))]) (.cd (.tmp 7) (.sq (.rg [.c 2 (.slice none 0 0)]) (.rt)) (.sk))) (.sq (.rg [.c 3 (.slice none 0 0)]) (.sq (.sq (.rg [.t 8 0, .o 9 (.nc (.tmp 8)), .o 10 (.fa (.tmp 9) 16), .o 11 (.ld (.tmp 10) none), .o 12 (.mrg (.tmp 11))]) (.bk 0 (.lp (.sq (.rg [.o 13 (.mnx (.tmp 12)), .o 14 (.ex (.tmp 13) 0)]) (.sq (.cd (.tmp 14) (.sk) (.xt 0)) (.bk 1 (.sq (.rg [.o 15 (.men (.tmp 12)), .o 16 (.ex (.tmp 15) 0), .o 17 (.ex (.tmp 15) 1), .t 4 16, .t 5 17]) (.sq (.rg [.t 18 5, .o 19 (.cl 44 [.tmp 18]), .o 20 (.ln false (.tmp 19)), .o 21 (.cm .gtr (.tmp 20) (.const (.int .i64 0)))]) (.cd (.tmp 21) (.rg [.t 22 3, .t 23 4, .o 24 (.bl 9 1 [.tmp 23]), .o 25 (.ap 9 1 16 [(1, .string ⟨#[]⟩)] (.tmp 22) (.tmp 24)), .t 3 25]) (.sk)))))))))) (.sq (.rg [.t 26 3, .o 27 (.cl 52 [.tmp 26])]) (.sq (.rg [.t 28 3, .t 2 28]) (.rt))))))
theorem k21 : Tryz.f21.body.any (fun c => chkC Tryz.prog c m21 && allD (dlt 29) m21) = true := by kernel_rfl
def m43 : MC := .sq (.rg [.o 1 (.bx 27 (.tmp 0)), .c 2 (.nilFunc)]) (.sq (.rg [.o 3 (.mf 80 [] [.tmp 1]), .t 2 3]) (.rt))
theorem k43 : Tryz.f43.body.any (fun c => chkC Tryz.prog c m43 && allD (dlt 4) m43) = true := by kernel_rfl
def m80 : MC := .sq (.rg [.o 5 (.ld (.tmp 1) none), .o 6 (.cl 21 [.tmp 5]), .o 7 (.ln false (.tmp 6)), .c 8 (.int .i64 0)]) (.bk 0 (.lp (.sq (.rg [.o 9 (.cm .lss (.tmp 8) (.tmp 7))]) (.sq (.cd (.tmp 9) (.sk) (.xt 0)) (.sq (.bk 1 (.sq (.rg [.o 10 (.ias (.tmp 6) (.tmp 8) 1), .o 11 (.ld (.tmp 10) none), .t 4 11]) (.sq (.rg [.t 12 0, .t 13 4, .o 14 (.ld (.tmp 1) none), .o 15 (.nc (.tmp 14)), .o 16 (.fa (.tmp 15) 16), .o 17 (.ld (.tmp 16) none), .t 18 4, .o 19 (.mlk 9 false [(1, .pointer none)] false (.tmp 17) (.tmp 18)), .o 20 (.cv (.tmp 12) [.tmp 13, .tmp 19]), .o 21 (.nt (.tmp 20))]) (.cd (.tmp 21) (.rt) (.sk))))) (.rg [.o 22 (.ar .add .i64 (.tmp 8) (.const (.int .i64 1)) true), .t 8 22]))))))
theorem k80 : Tryz.f80.body.any (fun c => chkC Tryz.prog c m80 && allD (dlt 23) m80) = true := by kernel_rfl
def m47 : MC := .sq (.rg [.c 4 (.pointer none)]) (.sq (.sq (.rg [.t 5 0, .o 6 (.pn .eql (.tmp 5))]) (.cd (.tmp 6) (.sq (.rg [.c 4 (.pointer none)]) (.rt)) (.sk))) (.sq (.rg [.t 7 0, .o 8 (.nc (.tmp 7)), .o 9 (.fa (.tmp 8) 16), .o 10 (.ld (.tmp 9) none), .t 11 1, .o 12 (.mlk 9 false [(1, .pointer none)] false (.tmp 10) (.tmp 11)), .t 4 12]) (.rt)))
theorem k47 : Tryz.f47.body.any (fun c => chkC Tryz.prog c m47 && allD (dlt 13) m47) = true := by kernel_rfl
def m24 : MC := .sq (.rg [.c 2 (.pointer none), .c 3 (.int .i64 0)]) (.sq (.sq (.rg [.t 6 0, .o 7 (.ln false (.tmp 6)), .o 8 (.cm .eql (.tmp 7) (.const (.int .i64 0)))]) (.cd (.tmp 8) (.sq (.rg [.c 2 (.pointer none), .c 3 (.int .i64 190)]) (.rt)) (.sk))) (.sq (.sq (.rg [.t 9 0, .o 10 (.ln false (.tmp 9)), .c 11 (.int .i64 0)]) (.bk 0 (.lp (.sq (.rg [.o 12 (.cm .lss (.tmp 11) (.tmp 10))]) (.sq (.cd (.tmp 12) (.sk) (.xt 0)) (.sq (.bk 1 (.sq (.rg [.t 13 11, .o 14 (.ias (.tmp 9) (.tmp 11) 52), .o 15 (.ld (.tmp 14) (some 52)), .o 5 (.al [(2, .int .i64 0), (16, .int .u32 0), (1, .string ⟨#[]⟩), (1, .bool false), (32, .int .u8 0)] 40), .t 4 13, .e (.st (.tmp 5) (.tmp 15) 52)]) (.sq (.dr [.o 16 (.ld (.tmp 5) (some 52)), .o 17 (.cl 40 [.tmp 16]), .o 18 (.cm .neq (.tmp 17) (.const (.int .i64 0))), .t 19 18, .q 20 19 false (.fa (.tmp 5) 18), .q 21 19 false (.ld (.tmp 20) none), .q 22 19 false (.mv (.tmp 0)), .q 23 19 false (.ias (.tmp 22) (.const (.int .i64 0)) 52), .q 24 19 false (.fa (.tmp 23) 18), .q 25 19 false (.ld (.tmp 24) none), .q 26 19 false (.se .neq (.tmp 21) (.tmp 25)), .o 27 (.pk (.tmp 19) (.const (.bool true)) (.tmp 26)), .t 28 27, .q 29 28 false (.mv (.tmp 4)), .q 30 28 false (.cm .gtr (.tmp 29) (.const (.int .i64 0))), .q 31 28 false (.mv (.tmp 30)), .q 32 31 true (.mv (.tmp 0)), .q 33 31 true (.mv (.tmp 4)), .q 34 31 true (.ar .sub .i64 (.tmp 33) (.const (.int .i64 1)) true), .q 35 31 true (.ias (.tmp 32) (.tmp 34) 52), .q 36 31 true (.fa (.tmp 35) 0), .q 37 31 true (.ld (.tmp 36) (some 2)), .q 38 31 true (.fa (.tmp 5) 0), .q 39 31 true (.ld (.tmp 38) (some 2)), .q 40 31 true (.cl 56 [.tmp 37, .tmp 39]), .q 41 31 true (.cm .geq (.tmp 40) (.const (.int .i64 0))), .q 42 28 false (.pk (.tmp 31) (.tmp 41) (.const (.bool false))), .o 43 (.pk (.tmp 28) (.const (.bool true)) (.tmp 42)), .t 44 43, .q 45 44 false (.mv (.tmp 0)), .q 46 44 false (.ld (.tmp 5) (some 52)), .q 47 44 false (.mf 57 [.tmp 46] []), .q 48 44 false (.cl 28 [.tmp 45, .tmp 47]), .o 49 (.pk (.tmp 44) (.const (.bool true)) (.tmp 48))] [0, 1, 3, 7, 15, 31, 15, 79, 207, 463, 1023, 2047, 4095, 8191, 16383, 32767, 65535, 65535, 196607, 524287, 1048575, 2097151, 65535, 4259839, 16777215, 33554431, 67108863, 134217727, 268435455, 536870911, 536870911, 1610612735, 4294967295, 8589934591] (.q 0 (.e 1 [] (.q 2 (.q 3 (.q 4 (.q 5 (.q 6 (.q 7 (.q 8 (.q 9 (.q 10 (.q 11 (.q 12 (.q 13 (.q 14 (.q 15 (.q 16 (.q 17 (.q 18 (.q 19 (.q 20 (.q 21 (.q 22 (.q 23 (.e 24 [] (.q 25 (.q 26 (.q 27 (.q 28 (.q 29 (.q 30 (.q 31 (.e 32 [] (.q 33 (.fin)))))))))))))))))))))))))))))))))))) (.cd (.tmp 49) (.sq (.rg [.c 2 (.pointer none), .c 3 (.int .i64 190)]) (.rt)) (.sk))))) (.rg [.o 50 (.ar .add .i64 (.tmp 11) (.const (.int .i64 1)) true), .t 11 50]))))))) (.sq (.dr [.t 51 0, .o 52 (.ias (.tmp 51) (.const (.int .i64 0)) 52), .o 53 (.fa (.tmp 52) 18), .o 54 (.ld (.tmp 53) none), .t 55 0, .o 56 (.cl 58 [.tmp 55]), .o 57 (.bd [(1, .string ⟨#[]⟩), (1, .slice none 0 0)] [(0, 1, .tmp 54), (1, 1, .tmp 56)]), .o 58 (.bx 109 (.tmp 57)), .t 2 58, .c 3 (.int .i64 0)] [0, 1, 3, 7, 0, 16, 63, 127, 255, 511] (.q 0 (.q 1 (.q 2 (.q 3 (.q 4 (.e 5 [3] (.q 6 (.e 7 [] (.q 8 (.q 9 (.fin)))))))))))) (.rt))))
theorem k24 : Tryz.f24.body.any (fun c => chkC Tryz.prog c m24 && allD (dlt 59) m24) = true := by kernel_rfl
def m57 : MC := .sq (.rg [.o 2 (.bx 106 (.tmp 0)), .o 3 (.bx 40 (.tmp 1)), .c 4 (.bool false)]) (.sq (.rg [.o 5 (.ld (.tmp 2) (some 52)), .o 6 (.ld (.tmp 3) (some 52)), .o 7 (.cl 96 [.tmp 5, .tmp 6]), .t 4 7]) (.rt))
theorem k57 : Tryz.f57.body.any (fun c => chkC Tryz.prog c m57 && allD (dlt 8) m57) = true := by kernel_rfl
def m44 : MC := .sq (.rg [.c 2 (.slice none 0 0)]) (.sq (.sq (.rg [.t 3 0, .o 4 (.cl 74 [.tmp 3])]) (.cd (.tmp 4) (.sq (.rg [.c 2 (.slice none 0 0)]) (.rt)) (.sk))) (.sq (.rg [.t 5 0, .o 6 (.nc (.tmp 5)), .o 7 (.fa (.tmp 6) 1), .o 8 (.ld (.tmp 7) none), .o 9 (.cl 58 [.tmp 8]), .t 2 9]) (.rt)))
theorem k44 : Tryz.f44.body.any (fun c => chkC Tryz.prog c m44 && allD (dlt 10) m44) = true := by kernel_rfl
def m45 : MC := .sq (.rg [.c 2 (.slice none 0 0)]) (.sq (.rg [.c 3 (.slice none 0 0)]) (.sq (.sq (.rg [.t 6 0, .o 7 (.cl 81 [.tmp 6]), .o 8 (.ln false (.tmp 7)), .c 9 (.int .i64 0)]) (.bk 0 (.lp (.sq (.rg [.o 10 (.cm .lss (.tmp 9) (.tmp 8))]) (.sq (.cd (.tmp 10) (.sk) (.xt 0)) (.sq (.bk 1 (.sq (.rg [.o 11 (.ias (.tmp 7) (.tmp 9) 52), .o 12 (.ld (.tmp 11) (some 52)), .o 5 (.al [(2, .int .i64 0), (16, .int .u32 0), (1, .string ⟨#[]⟩), (1, .bool false), (32, .int .u8 0)] 40), .e (.st (.tmp 5) (.tmp 12) 52)]) (.rg [.t 13 3, .o 14 (.fa (.tmp 5) 20), .o 15 (.ld (.tmp 14) (some 32)), .o 16 (.bl 38 32 [.tmp 15]), .o 17 (.ap 38 32 32 [(32, .int .u8 0)] (.tmp 13) (.tmp 16)), .t 3 17]))) (.rg [.o 18 (.ar .add .i64 (.tmp 9) (.const (.int .i64 1)) true), .t 9 18]))))))) (.sq (.rg [.t 19 3, .o 20 (.cl 46 [.tmp 19]), .t 2 20]) (.rt))))
theorem k45 : Tryz.f45.body.any (fun c => chkC Tryz.prog c m45 && allD (dlt 21) m45) = true := by kernel_rfl
def m74 : MC := .sq (.rg [.c 2 (.bool false)]) (.sq (.rg [.t 3 0, .o 4 (.pn .eql (.tmp 3)), .t 5 4, .q 6 5 false (.mv (.tmp 0)), .q 7 5 false (.nc (.tmp 6)), .q 8 5 false (.fa (.tmp 7) 0), .q 9 5 false (.ld (.tmp 8) none), .q 10 5 false (.se .eql (.tmp 9) (.const (.string ⟨#[]⟩))), .o 11 (.pk (.tmp 5) (.const (.bool true)) (.tmp 10)), .t 2 11]) (.rt))
theorem k74 : Tryz.f74.body.any (fun c => chkC Tryz.prog c m74 && allD (dlt 12) m74) = true := by kernel_rfl
def m81 : MC := .sq (.rg [.c 2 (.slice none 0 0)]) (.sq (.rg [.t 3 0, .o 4 (.cl 44 [.tmp 3]), .o 5 (.cl 113 [.tmp 4, .func 114]), .t 2 5]) (.rt))
theorem k81 : Tryz.f81.body.any (fun c => chkC Tryz.prog c m81 && allD (dlt 6) m81) = true := by kernel_rfl
def m114 : MC := .sq (.rg [.o 1 (.bx 40 (.tmp 0)), .c 2 (.bool false)]) (.sq (.rg [.o 3 (.fa (.tmp 1) 19), .o 4 (.ld (.tmp 3) none), .o 5 (.nt (.tmp 4)), .t 2 5]) (.rt))
theorem k114 : Tryz.f114.body.any (fun c => chkC Tryz.prog c m114 && allD (dlt 6) m114) = true := by kernel_rfl
def m26 : MC := .sq (.rg [.o 2 (.bx 24 (.tmp 0)), .o 3 (.bx 36 (.tmp 1)), .c 4 (.bool false)]) (.sq (.dr [.o 5 (.ld (.tmp 3) (some 2)), .o 6 (.cl 59 [.tmp 5]), .o 7 (.cm .eql (.tmp 6) (.const (.int .i64 0))), .t 8 7, .q 9 8 true (.fa (.tmp 3) 1), .q 10 8 true (.ld (.tmp 9) none), .q 11 8 true (.fa (.tmp 3) 0), .q 12 8 true (.ld (.tmp 11) none), .q 13 8 true (.iaa (.tmp 2) (.tmp 12) 16 1), .q 14 8 true (.ld (.tmp 13) none), .q 15 8 true (.ci .i64 (.tmp 14)), .q 16 8 true (.cm .leq (.tmp 10) (.tmp 15)), .o 17 (.pk (.tmp 8) (.tmp 16) (.const (.bool false))), .t 4 17] [0, 1, 3, 7, 15, 31, 15, 79, 207, 463, 975, 2047, 4095, 8191] (.q 0 (.e 1 [] (.q 2 (.q 3 (.q 4 (.q 5 (.q 6 (.q 7 (.q 8 (.q 9 (.q 10 (.q 11 (.q 12 (.q 13 (.fin)))))))))))))))) (.rt))
theorem k26 : Tryz.f26.body.any (fun c => chkC Tryz.prog c m26 && allD (dlt 18) m26) = true := by kernel_rfl
def m27 : MC := .sq (.rg [.o 2 (.bx 24 (.tmp 0)), .o 3 (.bx 24 (.tmp 1)), .c 4 (.bool false)]) (.sq (.dr [.o 5 (.ld (.tmp 2) (some 16)), .o 6 (.ld (.tmp 3) (some 16)), .o 7 (.bl 24 16 [.tmp 5, .tmp 6]), .o 8 (.cl 60 [.tmp 7]), .o 9 (.ld (.tmp 3) (some 16)), .o 10 (.eqd .eql (List.replicate 16 (.i .u32)) (.tmp 8) (.tmp 9)), .t 4 10] [0, 0, 3, 7, 0, 31, 63] (.q 0 (.q 1 (.q 4 (.e 2 [4] (.e 3 [4] (.q 5 (.q 6 (.fin))))))))) (.rt))
theorem k27 : Tryz.f27.body.any (fun c => chkC Tryz.prog c m27 && allD (dlt 11) m27) = true := by kernel_rfl
def m60 : MC := .sq (.rg [.o 2 (.al [(16, .int .u32 0)] 24)]) (.sq (.rg [.t 3 0, .o 4 (.cl 97 [.func 98, .tmp 3]), .e (.st (.tmp 2) (.tmp 4) 16)]) (.rt))
theorem k60 : Tryz.f60.body.any (fun c => chkC Tryz.prog c m60 && allD (dlt 5) m60) = true := by kernel_rfl
def m98 : MC := .sq (.rg [.c 4 (.int .u32 0)]) (.sq (.rg [.t 5 0, .t 6 1, .o 7 (.mm true (.tmp 5) (.tmp 6)), .t 4 7]) (.rt))
theorem k98 : Tryz.f98.body.any (fun c => chkC Tryz.prog c m98 && allD (dlt 8) m98) = true := by kernel_rfl
def m97 : MC := .sq (.rg [.o 4 (.al [(16, .int .u32 0)] 24)]) (.sq (.rg [.o 5 (.al [(16, .int .u32 0)] 24)]) (.sq (.sq (.rg [.t 9 1, .o 10 (.ln false (.tmp 9)), .c 11 (.int .i64 0)]) (.bk 0 (.lp (.sq (.rg [.o 12 (.cm .lss (.tmp 11) (.tmp 10))]) (.sq (.cd (.tmp 12) (.sk) (.xt 0)) (.sq (.bk 1 (.sq (.rg [.t 13 11, .o 14 (.ias (.tmp 9) (.tmp 11) 16), .o 15 (.ld (.tmp 14) (some 16)), .o 7 (.al [(16, .int .u32 0)] 24), .t 6 13, .e (.st (.tmp 7) (.tmp 15) 16)]) (.sq (.sq (.rg [.t 16 6, .o 17 (.cm .eql (.tmp 16) (.const (.int .i64 0)))]) (.cd (.tmp 17) (.rg [.o 18 (.ld (.tmp 7) (some 16)), .e (.st (.tmp 5) (.tmp 18) 16)]) (.sk))) (.sq (.rg [.c 19 (.int .i64 0)]) (.bk 2 (.lp (.sq (.rg [.o 20 (.cm .lss (.tmp 19) (.const (.int .i64 16)))]) (.sq (.cd (.tmp 20) (.sk) (.xt 2)) (.sq (.bk 3 (.sq (.rg [.t 21 19, .t 8 21]) (.dr [.t 22 8, .t 23 0, .t 24 8, .o 25 (.iaa (.tmp 5) (.tmp 24) 16 1), .o 26 (.ld (.tmp 25) none), .t 27 8, .o 28 (.iaa (.tmp 7) (.tmp 27) 16 1), .o 29 (.ld (.tmp 28) none), .o 30 (.cv (.tmp 23) [.tmp 26, .tmp 29]), .o 31 (.iaa (.tmp 5) (.tmp 22) 16 1), .e (.st (.tmp 31) (.tmp 30) 1)] [0, 0, 0, 4, 12, 0, 32, 96, 254, 511, 1023] (.q 0 (.q 1 (.q 2 (.q 3 (.q 4 (.q 5 (.q 6 (.q 7 (.e 8 [] (.q 9 (.e 10 [] (.fin))))))))))))))) (.rg [.o 32 (.ar .add .i64 (.tmp 19) (.const (.int .i64 1)) true), .t 19 32])))))))))) (.rg [.o 33 (.ar .add .i64 (.tmp 11) (.const (.int .i64 1)) true), .t 11 33]))))))) (.sq (.rg [.o 34 (.ld (.tmp 5) (some 16)), .e (.st (.tmp 4) (.tmp 34) 16)]) (.rt))))
theorem k97 : Tryz.f97.body.any (fun c => chkC Tryz.prog c m97 && allD (dlt 35) m97) = true := by kernel_rfl
def m28 : MC := .sq (.rg [.c 4 (.bool false)]) (.sq (.rg [.t 5 0, .t 6 1, .o 7 (.cl 54 [.tmp 5, .tmp 6]), .o 8 (.cm .geq (.tmp 7) (.const (.int .i64 0))), .t 4 8]) (.rt))
theorem k28 : Tryz.f28.body.any (fun c => chkC Tryz.prog c m28 && allD (dlt 9) m28) = true := by kernel_rfl
def m54 : MC := .sq (.rg [.c 4 (.int .i64 0)]) (.sq (.sq (.rg [.t 6 0, .o 7 (.ln false (.tmp 6)), .c 8 (.int .i64 0)]) (.bk 0 (.lp (.sq (.rg [.o 9 (.cm .lss (.tmp 8) (.tmp 7))]) (.sq (.cd (.tmp 9) (.sk) (.xt 0)) (.sq (.bk 1 (.sq (.rg [.t 10 8, .t 5 10]) (.sq (.rg [.t 11 1, .t 12 0, .t 13 5, .o 14 (.ias (.tmp 12) (.tmp 13) 52), .o 15 (.ld (.tmp 14) (some 52)), .o 16 (.cv (.tmp 11) [.tmp 15])]) (.cd (.tmp 16) (.sq (.rg [.t 17 5, .t 4 17]) (.rt)) (.sk))))) (.rg [.o 18 (.ar .add .i64 (.tmp 8) (.const (.int .i64 1)) true), .t 8 18]))))))) (.sq (.rg [.c 4 (.int .i64 (-1))]) (.rt)))
theorem k54 : Tryz.f54.body.any (fun c => chkC Tryz.prog c m54 && allD (dlt 19) m54) = true := by kernel_rfl
def m58 : MC := .sq (.rg [.c 2 (.slice none 0 0)]) (.sq (.sq (.rg [.t 3 0, .o 4 (.sn .eql (.tmp 3))]) (.cd (.tmp 4) (.sq (.rg [.c 2 (.slice none 0 0)]) (.rt)) (.sk))) (.sq (.rg [.o 5 (.bl 40 52 []), .t 6 0, .o 7 (.ap 40 52 136 [(2, .int .i64 0), (16, .int .u32 0), (1, .string ⟨#[]⟩), (1, .bool false), (32, .int .u8 0)] (.tmp 5) (.tmp 6)), .t 2 7]) (.rt)))
theorem k58 : Tryz.f58.body.any (fun c => chkC Tryz.prog c m58 && allD (dlt 8) m58) = true := by kernel_rfl
def m113 : MC := .sq (.rg [.c 4 (.slice none 0 0)]) (.sq (.rg [.t 8 0, .t 9 1, .o 10 (.cl 54 [.tmp 8, .tmp 9]), .t 5 10]) (.sq (.sq (.rg [.t 11 5, .o 12 (.cm .eql (.tmp 11) (.const (.int .i64 (-1))))]) (.cd (.tmp 12) (.sq (.rg [.t 13 0, .t 4 13]) (.rt)) (.sk))) (.sq (.sq (.rg [.t 14 5, .o 15 (.ar .add .i64 (.tmp 14) (.const (.int .i64 1)) true), .t 6 15]) (.bk 0 (.lp (.sq (.sq (.rg [.t 16 6, .t 17 0, .o 18 (.ln false (.tmp 17)), .o 19 (.cm .lss (.tmp 16) (.tmp 18))]) (.cd (.tmp 19) (.sk) (.xt 0))) (.sq (.bk 1 (.sq (.rg [.t 22 0, .t 23 6, .o 24 (.ias (.tmp 22) (.tmp 23) 52), .o 25 (.ld (.tmp 24) (some 52)), .o 7 (.al [(2, .int .i64 0), (16, .int .u32 0), (1, .string ⟨#[]⟩), (1, .bool false), (32, .int .u8 0)] 40), .e (.st (.tmp 7) (.tmp 25) 52)]) (.sq (.rg [.t 26 1, .o 27 (.ld (.tmp 7) (some 52)), .o 28 (.cv (.tmp 26) [.tmp 27]), .o 29 (.nt (.tmp 28))]) (.cd (.tmp 29) (.sq (.rg [.t 30 0, .t 31 5, .o 32 (.ld (.tmp 7) (some 52)), .o 33 (.ias (.tmp 30) (.tmp 31) 52), .e (.st (.tmp 33) (.tmp 32) 52)]) (.rg [.t 34 5, .o 35 (.ar .add .i64 (.tmp 34) (.const (.int .i64 1)) true), .t 5 35])) (.sk))))) (.rg [.t 20 6, .o 21 (.ar .add .i64 (.tmp 20) (.const (.int .i64 1)) true), .t 6 21])))))) (.sq (.rg [.t 36 0, .t 37 5, .o 38 (.sl (.tmp 36) (some (.tmp 37)) none none 52), .e (.clr 52 [(2, .int .i64 0), (16, .int .u32 0), (1, .string ⟨#[]⟩), (1, .bool false), (32, .int .u8 0)] (.tmp 38))]) (.sq (.rg [.t 39 0, .t 40 5, .o 41 (.sl (.tmp 39) none (some (.tmp 40)) none 52), .t 4 41]) (.rt))))))
theorem k113 : Tryz.f113.body.any (fun c => chkC Tryz.prog c m113 && allD (dlt 42) m113) = true := by kernel_rfl
def m7 : MC := .sq (.rg [.o 2 (.bx 24 (.tmp 0)), .c 4 (.pointer none), .c 5 (.int .i64 0)]) (.sq (.rg [.o 13 (.ld (.tmp 2) (some 16)), .o 14 (.bd [(16, .int .u32 0), (1, .slice none 0 0)] [(0, 16, .tmp 13)]), .o 15 (.bx 76 (.tmp 14)), .t 6 15]) (.sq (.rg [.c 7 (.int .i64 0)]) (.sq (.sq (.rg [.c 8 (.int .i64 0)]) (.bk 0 (.lp (.sq (.sq (.rg [.t 16 8, .t 17 1, .o 18 (.ln false (.tmp 17)), .o 19 (.cm .lss (.tmp 16) (.tmp 18))]) (.cd (.tmp 19) (.sk) (.xt 0))) (.sq (.bk 1 (.sq (.dr [.o 22 (.ld (.tmp 2) (some 16)), .t 23 1, .t 24 8, .o 25 (.ias (.tmp 23) (.tmp 24) 52), .o 26 (.fa (.tmp 25) 0), .o 27 (.ld (.tmp 26) (some 2)), .o 28 (.cl 29 [.tmp 22, .tmp 27]), .t 9 28] [0, 0, 0, 6, 14, 30, 63, 127] (.q 0 (.q 1 (.q 2 (.q 3 (.q 4 (.q 5 (.e 6 [] (.q 7 (.fin)))))))))) (.sq (.dr [.t 29 1, .t 30 8, .o 31 (.ias (.tmp 29) (.tmp 30) 52), .o 32 (.fa (.tmp 31) 2), .o 33 (.ld (.tmp 32) (some 16)), .o 34 (.ld (.tmp 2) (some 16)), .o 35 (.cl 30 [.tmp 33, .tmp 34]), .t 10 35] [0, 0, 3, 7, 15, 0, 63, 127] (.q 0 (.q 1 (.q 2 (.q 3 (.q 4 (.q 5 (.e 6 [] (.q 7 (.fin)))))))))) (.sq (.sq (.rg [.t 36 9, .o 37 (.nt (.tmp 36)), .t 38 37, .q 39 38 false (.mv (.tmp 10)), .q 40 38 false (.nt (.tmp 39)), .o 41 (.pk (.tmp 38) (.const (.bool true)) (.tmp 40))]) (.cd (.tmp 41) (.sq (.rg [.c 4 (.pointer none), .c 5 (.int .i64 210)]) (.rt)) (.sk))) (.sq (.sq (.dr [.t 42 8, .o 43 (.ar .add .i64 (.tmp 42) (.const (.int .i64 1)) true), .t 44 1, .o 45 (.ln false (.tmp 44)), .o 46 (.cm .lss (.tmp 43) (.tmp 45)), .t 47 46, .q 48 47 true (.mv (.tmp 1)), .q 49 47 true (.mv (.tmp 8)), .q 50 47 true (.ar .add .i64 (.tmp 49) (.const (.int .i64 1)) true), .q 51 47 true (.ias (.tmp 48) (.tmp 50) 52), .q 52 47 true (.fa (.tmp 51) 18), .q 53 47 true (.ld (.tmp 52) none), .q 54 47 true (.mv (.tmp 1)), .q 55 47 true (.mv (.tmp 8)), .q 56 47 true (.ias (.tmp 54) (.tmp 55) 52), .q 57 47 true (.fa (.tmp 56) 18), .q 58 47 true (.ld (.tmp 57) none), .q 59 47 true (.se .eql (.tmp 53) (.tmp 58)), .o 60 (.pk (.tmp 47) (.tmp 59) (.const (.bool false)))] [0, 1, 0, 4, 15, 31, 63, 63, 191, 511, 1023, 2047, 63, 63, 12351, 28735, 61503, 131071, 262143] (.q 0 (.q 1 (.q 2 (.q 3 (.q 4 (.q 5 (.q 6 (.q 7 (.q 8 (.q 9 (.q 10 (.q 11 (.q 12 (.q 13 (.q 14 (.q 15 (.q 16 (.q 17 (.q 18 (.fin))))))))))))))))))))) (.cd (.tmp 60) (.xt 1) (.sk))) (.sq (.rg [.t 62 1, .t 63 7, .t 64 8, .o 65 (.ar .add .i64 (.tmp 64) (.const (.int .i64 1)) true), .o 66 (.sl (.tmp 62) (some (.tmp 63)) (some (.tmp 65)) none 52), .o 67 (.cl 31 [.tmp 66]), .t 61 67, .o 68 (.ex (.tmp 61) 0), .o 69 (.ex (.tmp 61) 1), .t 11 68, .t 12 69]) (.sq (.sq (.dr [.t 70 12, .o 71 (.cm .neq (.tmp 70) (.const (.int .i64 0))), .t 72 71, .q 73 72 false (.mv (.tmp 7)), .q 74 72 false (.cm .gtr (.tmp 73) (.const (.int .i64 0))), .q 75 72 false (.mv (.tmp 74)), .q 76 75 true (.mv (.tmp 1)), .q 77 75 true (.mv (.tmp 7)), .q 78 75 true (.ar .sub .i64 (.tmp 77) (.const (.int .i64 1)) true), .q 79 75 true (.ias (.tmp 76) (.tmp 78) 52), .q 80 75 true (.fa (.tmp 79) 18), .q 81 75 true (.ld (.tmp 80) none), .q 82 75 true (.mv (.tmp 1)), .q 83 75 true (.mv (.tmp 7)), .q 84 75 true (.ias (.tmp 82) (.tmp 83) 52), .q 85 75 true (.fa (.tmp 84) 18), .q 86 75 true (.ld (.tmp 85) none), .q 87 75 true (.sc .geq (.tmp 81) (.tmp 86)), .q 88 72 false (.pk (.tmp 75) (.tmp 87) (.const (.bool false))), .o 89 (.pk (.tmp 72) (.const (.bool true)) (.tmp 88))] [0, 1, 3, 7, 15, 31, 63, 63, 191, 511, 1023, 2047, 63, 63, 12351, 28735, 61503, 131071, 262143, 524287] (.q 0 (.q 1 (.q 2 (.q 3 (.q 4 (.q 5 (.q 6 (.q 7 (.q 8 (.q 9 (.q 10 (.q 11 (.q 12 (.q 13 (.q 14 (.q 15 (.q 16 (.q 17 (.q 18 (.q 19 (.fin)))))))))))))))))))))) (.cd (.tmp 89) (.sq (.rg [.c 4 (.pointer none), .c 5 (.int .i64 210)]) (.rt)) (.sk))) (.sq (.rg [.t 90 6, .t 91 6, .o 92 (.nc (.tmp 91)), .o 93 (.fa (.tmp 92) 16), .o 94 (.ld (.tmp 93) none), .t 95 11, .o 96 (.bl 77 1 [.tmp 95]), .o 97 (.ap 77 1 8 [(1, .pointer none)] (.tmp 94) (.tmp 96)), .o 98 (.nc (.tmp 90)), .o 99 (.fa (.tmp 98) 16), .e (.st (.tmp 99) (.tmp 97) 1)]) (.rg [.t 100 8, .o 101 (.ar .add .i64 (.tmp 100) (.const (.int .i64 1)) true), .t 7 101]))))))))) (.rg [.t 20 8, .o 21 (.ar .add .i64 (.tmp 20) (.const (.int .i64 1)) true), .t 8 21])))))) (.sq (.rg [.t 102 6, .t 4 102, .c 5 (.int .i64 0)]) (.rt)))))
theorem k7 : Tryz.f7.body.any (fun c => chkC Tryz.prog c m7 && allD (dlt 103) m7) = true := by kernel_rfl
def m32 : MC := .sq (.rg [.c 2 (.slice none 0 0)]) (.sq (.rg [.c 3 (.slice none 0 0)]) (.sq (.sq (.rg [.c 4 (.int .i64 0)]) (.bk 0 (.lp (.sq (.sq (.rg [.t 5 4, .t 6 0, .o 7 (.nc (.tmp 6)), .o 8 (.fa (.tmp 7) 16), .o 9 (.ld (.tmp 8) none), .o 10 (.ln false (.tmp 9)), .o 11 (.cm .lss (.tmp 5) (.tmp 10))]) (.cd (.tmp 11) (.sk) (.xt 0))) (.sq (.bk 1 (.rg [.t 14 3, .t 15 0, .o 16 (.nc (.tmp 15)), .o 17 (.fa (.tmp 16) 16), .o 18 (.ld (.tmp 17) none), .t 19 4, .o 20 (.ias (.tmp 18) (.tmp 19) 1), .o 21 (.ld (.tmp 20) none), .o 22 (.nc (.tmp 21)), .o 23 (.fa (.tmp 22) 1), .o 24 (.ld (.tmp 23) none), .o 25 (.ap 40 52 136 [(2, .int .i64 0), (16, .int .u32 0), (1, .string ⟨#[]⟩), (1, .bool false), (32, .int .u8 0)] (.tmp 14) (.tmp 24)), .t 3 25])) (.rg [.t 12 4, .o 13 (.ar .add .i64 (.tmp 12) (.const (.int .i64 1)) true), .t 4 13])))))) (.sq (.rg [.t 26 3, .t 2 26]) (.rt))))
theorem k32 : Tryz.f32.body.any (fun c => chkC Tryz.prog c m32 && allD (dlt 27) m32) = true := by kernel_rfl
def m33 : MC := .sq (.rg [.c 6 (.slice none 0 0)]) (.sq (.rg [.t 7 1, .t 8 0, .t 9 2, .o 10 (.cl 66 [.tmp 8, .tmp 9]), .o 11 (.cl 67 [.tmp 10]), .o 12 (.cl 65 [.tmp 7, .tmp 11]), .t 6 12]) (.rt))
theorem k33 : Tryz.f33.body.any (fun c => chkC Tryz.prog c m33 && allD (dlt 13) m33) = true := by kernel_rfl
def m34 : MC := .sq (.rg [.c 2 (.slice none 0 0)]) (.sq (.rg [.c 3 (.slice none 0 0)]) (.sq (.sq (.rg [.c 4 (.int .i64 0)]) (.bk 0 (.lp (.sq (.sq (.rg [.t 5 4, .t 6 0, .o 7 (.nc (.tmp 6)), .o 8 (.fa (.tmp 7) 16), .o 9 (.ld (.tmp 8) none), .o 10 (.ln false (.tmp 9)), .o 11 (.cm .lss (.tmp 5) (.tmp 10))]) (.cd (.tmp 11) (.sk) (.xt 0))) (.sq (.bk 1 (.rg [.t 14 3, .t 15 0, .o 16 (.nc (.tmp 15)), .o 17 (.fa (.tmp 16) 16), .o 18 (.ld (.tmp 17) none), .t 19 4, .o 20 (.ias (.tmp 18) (.tmp 19) 1), .o 21 (.ld (.tmp 20) none), .o 22 (.cl 67 [.tmp 21]), .o 23 (.ap 38 32 32 [(32, .int .u8 0)] (.tmp 14) (.tmp 22)), .t 3 23])) (.rg [.t 12 4, .o 13 (.ar .add .i64 (.tmp 12) (.const (.int .i64 1)) true), .t 4 13])))))) (.sq (.rg [.t 24 3, .o 25 (.cl 68 [.tmp 24]), .t 2 25]) (.rt))))
theorem k34 : Tryz.f34.body.any (fun c => chkC Tryz.prog c m34 && allD (dlt 26) m34) = true := by kernel_rfl
def m36 : MC := .sq (.rg [.c 4 (.slice none 0 0)]) (.sq (.rg [.c 5 (.slice none 0 0)]) (.sq (.sq (.rg [.c 6 (.int .i64 0)]) (.bk 0 (.lp (.sq (.sq (.rg [.t 11 6, .t 12 0, .o 13 (.nc (.tmp 12)), .o 14 (.fa (.tmp 13) 16), .o 15 (.ld (.tmp 14) none), .o 16 (.ln false (.tmp 15)), .o 17 (.cm .lss (.tmp 11) (.tmp 16))]) (.cd (.tmp 17) (.sk) (.xt 0))) (.sq (.bk 1 (.sq (.dr [.t 21 0, .o 22 (.nc (.tmp 21)), .o 23 (.fa (.tmp 22) 16), .o 24 (.ld (.tmp 23) none), .t 25 6, .o 26 (.ias (.tmp 24) (.tmp 25) 1), .o 27 (.ld (.tmp 26) none), .o 28 (.nc (.tmp 27)), .o 29 (.fa (.tmp 28) 0), .o 30 (.ld (.tmp 29) none), .t 31 0, .t 32 1, .t 33 0, .o 34 (.nc (.tmp 33)), .o 35 (.fa (.tmp 34) 16), .o 36 (.ld (.tmp 35) none), .t 37 6, .o 38 (.ias (.tmp 36) (.tmp 37) 1), .o 39 (.ld (.tmp 38) none), .o 40 (.nc (.tmp 39)), .o 41 (.fa (.tmp 40) 0), .o 42 (.ld (.tmp 41) none), .o 43 (.cl 33 [.tmp 31, .tmp 32, .tmp 42]), .o 44 (.cl 69 [.tmp 30, .tmp 43]), .t 20 44, .o 45 (.ex (.tmp 20) 0), .o 46 (.ex (.tmp 20) 1), .t 7 45, .t 8 46] [0, 1, 3, 7, 0, 31, 63, 127, 255, 511, 0, 0, 0, 4096, 12288, 28672, 0, 126976, 258048, 520192, 1044480, 2093056, 4193280, 8388607, 16777215, 33554431, 33554431, 67108863, 268435455] (.q 0 (.q 1 (.q 2 (.q 3 (.q 4 (.q 5 (.q 6 (.q 7 (.q 8 (.q 9 (.q 10 (.q 11 (.q 12 (.q 13 (.q 14 (.q 15 (.q 16 (.q 17 (.q 18 (.q 19 (.q 20 (.q 21 (.e 22 [3, 6, 9] (.e 23 [] (.q 24 (.q 25 (.q 26 (.q 27 (.q 28 (.fin))))))))))))))))))))))))))))))) (.rg [.t 47 5, .t 48 7, .o 49 (.bl 56 1 [.tmp 48]), .o 50 (.ap 56 1 24 [(1, .slice none 0 0)] (.tmp 47) (.tmp 49)), .t 5 50]))) (.rg [.t 18 6, .o 19 (.ar .add .i64 (.tmp 18) (.const (.int .i64 1)) true), .t 6 19])))))) (.sq (.rg [.t 52 5, .o 53 (.cl 70 [.tmp 52]), .t 51 53, .o 54 (.ex (.tmp 51) 0), .o 55 (.ex (.tmp 51) 1), .t 9 54, .t 10 55]) (.sq (.rg [.t 56 9, .t 4 56]) (.rt)))))
theorem k36 : Tryz.f36.body.any (fun c => chkC Tryz.prog c m36 && allD (dlt 57) m36) = true := by kernel_rfl
def m37 : MC := .sq (.rg [.c 4 (.slice none 0 0)]) (.sq (.rg [.t 5 0, .t 6 1, .o 7 (.cl 66 [.tmp 5, .tmp 6]), .o 8 (.nc (.tmp 7)), .o 9 (.fa (.tmp 8) 1), .o 10 (.ld (.tmp 9) none), .t 4 10]) (.rt))
theorem k37 : Tryz.f37.body.any (fun c => chkC Tryz.prog c m37 && allD (dlt 11) m37) = true := by kernel_rfl
def m38 : MC := .sq (.rg [.c 2 (.slice none 0 0)]) (.sq (.rg [.c 3 (.slice none 0 0)]) (.sq (.sq (.rg [.c 4 (.int .i64 0)]) (.bk 0 (.lp (.sq (.sq (.rg [.t 5 4, .t 6 0, .o 7 (.nc (.tmp 6)), .o 8 (.fa (.tmp 7) 16), .o 9 (.ld (.tmp 8) none), .o 10 (.ln false (.tmp 9)), .o 11 (.cm .lss (.tmp 5) (.tmp 10))]) (.cd (.tmp 11) (.sk) (.xt 0))) (.sq (.bk 1 (.sq (.rg [.t 14 0, .o 15 (.nc (.tmp 14)), .o 16 (.fa (.tmp 15) 16), .o 17 (.ld (.tmp 16) none), .t 18 4, .o 19 (.ias (.tmp 17) (.tmp 18) 1), .o 20 (.ld (.tmp 19) none), .o 21 (.nc (.tmp 20)), .o 22 (.fa (.tmp 21) 1), .o 23 (.ld (.tmp 22) none), .o 24 (.ln false (.tmp 23)), .o 25 (.cm .gtr (.tmp 24) (.const (.int .i64 0)))]) (.cd (.tmp 25) (.rg [.t 26 3, .t 27 0, .o 28 (.nc (.tmp 27)), .o 29 (.fa (.tmp 28) 16), .o 30 (.ld (.tmp 29) none), .t 31 4, .o 32 (.ias (.tmp 30) (.tmp 31) 1), .o 33 (.ld (.tmp 32) none), .o 34 (.nc (.tmp 33)), .o 35 (.fa (.tmp 34) 0), .o 36 (.ld (.tmp 35) none), .o 37 (.bl 9 1 [.tmp 36]), .o 38 (.ap 9 1 16 [(1, .string ⟨#[]⟩)] (.tmp 26) (.tmp 37)), .t 3 38]) (.sk)))) (.rg [.t 12 4, .o 13 (.ar .add .i64 (.tmp 12) (.const (.int .i64 1)) true), .t 4 13])))))) (.sq (.rg [.t 39 3, .t 2 39]) (.rt))))
theorem k38 : Tryz.f38.body.any (fun c => chkC Tryz.prog c m38 && allD (dlt 40) m38) = true := by kernel_rfl
def m66 : MC := .sq (.rg [.c 4 (.pointer none)]) (.sq (.rg [.t 6 0, .t 7 1, .o 8 (.cl 102 [.tmp 6, .tmp 7]), .t 5 8]) (.sq (.sq (.rg [.t 9 5, .t 10 0, .o 11 (.nc (.tmp 10)), .o 12 (.fa (.tmp 11) 16), .o 13 (.ld (.tmp 12) none), .o 14 (.ln false (.tmp 13)), .o 15 (.cm .lss (.tmp 9) (.tmp 14)), .t 16 15, .q 17 16 true (.mv (.tmp 0)), .q 18 16 true (.nc (.tmp 17)), .q 19 16 true (.fa (.tmp 18) 16), .q 20 16 true (.ld (.tmp 19) none), .q 21 16 true (.mv (.tmp 5)), .q 22 16 true (.ias (.tmp 20) (.tmp 21) 1), .q 23 16 true (.ld (.tmp 22) none), .q 24 16 true (.nc (.tmp 23)), .q 25 16 true (.fa (.tmp 24) 0), .q 26 16 true (.ld (.tmp 25) none), .q 27 16 true (.mv (.tmp 1)), .q 28 16 true (.se .eql (.tmp 26) (.tmp 27)), .o 29 (.pk (.tmp 16) (.tmp 28) (.const (.bool false)))]) (.cd (.tmp 29) (.sq (.rg [.t 30 0, .o 31 (.nc (.tmp 30)), .o 32 (.fa (.tmp 31) 16), .o 33 (.ld (.tmp 32) none), .t 34 5, .o 35 (.ias (.tmp 33) (.tmp 34) 1), .o 36 (.ld (.tmp 35) none), .t 4 36]) (.rt)) (.sk))) (.sq (.rg [.t 37 1, .o 38 (.bd [(1, .string ⟨#[]⟩), (1, .slice none 0 0)] [(0, 1, .tmp 37)]), .o 39 (.bx 116 (.tmp 38)), .t 4 39]) (.rt))))
theorem k66 : Tryz.f66.body.any (fun c => chkC Tryz.prog c m66 && allD (dlt 40) m66) = true := by kernel_rfl
def m102 : MC := .sq (.rg [.c 4 (.int .i64 0)]) (.sq (.rg [.c 5 (.int .i64 0)]) (.sq (.bk 0 (.lp (.sq (.sq (.rg [.t 6 5, .t 7 0, .o 8 (.nc (.tmp 7)), .o 9 (.fa (.tmp 8) 16), .o 10 (.ld (.tmp 9) none), .o 11 (.ln false (.tmp 10)), .o 12 (.cm .lss (.tmp 6) (.tmp 11)), .t 13 12, .q 14 13 true (.mv (.tmp 0)), .q 15 13 true (.nc (.tmp 14)), .q 16 13 true (.fa (.tmp 15) 16), .q 17 13 true (.ld (.tmp 16) none), .q 18 13 true (.mv (.tmp 5)), .q 19 13 true (.ias (.tmp 17) (.tmp 18) 1), .q 20 13 true (.ld (.tmp 19) none), .q 21 13 true (.nc (.tmp 20)), .q 22 13 true (.fa (.tmp 21) 0), .q 23 13 true (.ld (.tmp 22) none), .q 24 13 true (.mv (.tmp 1)), .q 25 13 true (.sc .lss (.tmp 23) (.tmp 24)), .o 26 (.pk (.tmp 13) (.tmp 25) (.const (.bool false)))]) (.cd (.tmp 26) (.sk) (.xt 0))) (.bk 1 (.rg [.t 27 5, .o 28 (.ar .add .i64 (.tmp 27) (.const (.int .i64 1)) true), .t 5 28]))))) (.sq (.rg [.t 29 5, .t 4 29]) (.rt))))
theorem k102 : Tryz.f102.body.any (fun c => chkC Tryz.prog c m102 && allD (dlt 30) m102) = true := by kernel_rfl
def m31 : MC := .sq (.rg [.c 2 (.pointer none), .c 3 (.int .i64 0)]) (.sq (.sq (.rg [.t 8 0, .o 9 (.ln false (.tmp 8)), .o 10 (.cm .eql (.tmp 9) (.const (.int .i64 0)))]) (.cd (.tmp 10) (.sq (.rg [.c 2 (.pointer none), .c 3 (.int .i64 190)]) (.rt)) (.sk))) (.sq (.sq (.rg [.c 4 (.int .i64 0)]) (.bk 0 (.lp (.sq (.sq (.rg [.t 11 4, .t 12 0, .o 13 (.ln false (.tmp 12)), .o 14 (.cm .lss (.tmp 11) (.tmp 13))]) (.cd (.tmp 14) (.sk) (.xt 0))) (.sq (.bk 1 (.sq (.sq (.dr [.t 17 0, .t 18 4, .o 19 (.ias (.tmp 17) (.tmp 18) 52), .o 20 (.ld (.tmp 19) (some 52)), .o 21 (.cl 62 [.tmp 20]), .o 22 (.cm .neq (.tmp 21) (.const (.int .i64 0))), .t 23 22, .q 24 23 false (.mv (.tmp 0)), .q 25 23 false (.mv (.tmp 4)), .q 26 23 false (.ias (.tmp 24) (.tmp 25) 52), .q 27 23 false (.fa (.tmp 26) 18), .q 28 23 false (.ld (.tmp 27) none), .q 29 23 false (.mv (.tmp 0)), .q 30 23 false (.ias (.tmp 29) (.const (.int .i64 0)) 52), .q 31 23 false (.fa (.tmp 30) 18), .q 32 23 false (.ld (.tmp 31) none), .q 33 23 false (.se .neq (.tmp 28) (.tmp 32)), .o 34 (.pk (.tmp 23) (.const (.bool true)) (.tmp 33))] [0, 0, 3, 7, 15, 31, 63, 127, 127, 511, 1023, 2047, 127, 4223, 12415, 28799, 65535, 131071] (.q 0 (.q 1 (.q 2 (.q 3 (.e 4 [] (.q 5 (.q 6 (.q 7 (.q 8 (.q 9 (.q 10 (.q 11 (.q 12 (.q 13 (.q 14 (.q 15 (.q 16 (.q 17 (.fin)))))))))))))))))))) (.cd (.tmp 34) (.sq (.rg [.c 2 (.pointer none), .c 3 (.int .i64 190)]) (.rt)) (.sk))) (.sq (.sq (.dr [.t 35 4, .o 36 (.cm .gtr (.tmp 35) (.const (.int .i64 0))), .t 37 36, .q 38 37 true (.mv (.tmp 0)), .q 39 37 true (.mv (.tmp 4)), .q 40 37 true (.ar .sub .i64 (.tmp 39) (.const (.int .i64 1)) true), .q 41 37 true (.ias (.tmp 38) (.tmp 40) 52), .q 42 37 true (.fa (.tmp 41) 0), .q 43 37 true (.ld (.tmp 42) (some 2)), .q 44 37 true (.mv (.tmp 0)), .q 45 37 true (.mv (.tmp 4)), .q 46 37 true (.ias (.tmp 44) (.tmp 45) 52), .q 47 37 true (.fa (.tmp 46) 0), .q 48 37 true (.ld (.tmp 47) (some 2)), .q 49 37 true (.cl 63 [.tmp 43, .tmp 48]), .q 50 37 true (.cm .neq (.tmp 49) (.const (.int .i64 (-1)))), .o 51 (.pk (.tmp 37) (.tmp 50) (.const (.bool false)))] [0, 1, 3, 7, 7, 23, 63, 127, 255, 7, 7, 1543, 3591, 7687, 16383, 32767, 65535] (.q 0 (.q 1 (.q 2 (.q 3 (.q 4 (.q 5 (.q 6 (.q 7 (.q 8 (.q 9 (.q 10 (.q 11 (.q 12 (.q 13 (.e 14 [] (.q 15 (.q 16 (.fin))))))))))))))))))) (.cd (.tmp 51) (.sq (.rg [.c 2 (.pointer none), .c 3 (.int .i64 190)]) (.rt)) (.sk))) (.sq (.rg [.c 5 (.int .i64 0)]) (.bk 2 (.lp (.sq (.sq (.rg [.t 52 5, .t 53 0, .o 54 (.ln false (.tmp 53)), .o 55 (.cm .lss (.tmp 52) (.tmp 54))]) (.cd (.tmp 55) (.sk) (.xt 2))) (.sq (.bk 3 (.sq (.dr [.t 58 0, .t 59 4, .o 60 (.ias (.tmp 58) (.tmp 59) 52), .o 61 (.ld (.tmp 60) (some 52)), .t 62 0, .t 63 5, .o 64 (.ias (.tmp 62) (.tmp 63) 52), .o 65 (.ld (.tmp 64) (some 52)), .o 66 (.cl 64 [.tmp 61, .tmp 65]), .t 6 66] [0, 0, 3, 7, 0, 0, 48, 112, 255, 511] (.q 0 (.q 1 (.q 2 (.q 3 (.q 4 (.q 5 (.q 6 (.q 7 (.e 8 [] (.q 9 (.fin)))))))))))) (.sq (.rg [.t 67 6]) (.cd (.tmp 67) (.sq (.rg [.c 2 (.pointer none), .c 3 (.int .i64 190)]) (.rt)) (.sk))))) (.rg [.t 56 5, .o 57 (.ar .add .i64 (.tmp 56) (.const (.int .i64 1)) true), .t 5 57]))))))))) (.rg [.t 15 4, .o 16 (.ar .add .i64 (.tmp 15) (.const (.int .i64 1)) true), .t 4 16])))))) (.sq (.rg [.t 68 0, .o 69 (.ias (.tmp 68) (.const (.int .i64 0)) 52), .o 70 (.fa (.tmp 69) 18), .o 71 (.ld (.tmp 70) none), .o 72 (.bd [(1, .string ⟨#[]⟩), (1, .slice none 0 0)] [(0, 1, .tmp 71)]), .o 73 (.bx 116 (.tmp 72)), .t 7 73]) (.sq (.rg [.t 74 7, .t 75 7, .o 76 (.nc (.tmp 75)), .o 77 (.fa (.tmp 76) 1), .o 78 (.ld (.tmp 77) none), .t 79 0, .o 80 (.ap 40 52 136 [(2, .int .i64 0), (16, .int .u32 0), (1, .string ⟨#[]⟩), (1, .bool false), (32, .int .u8 0)] (.tmp 78) (.tmp 79)), .o 81 (.nc (.tmp 74)), .o 82 (.fa (.tmp 81) 1), .e (.st (.tmp 82) (.tmp 80) 1)]) (.sq (.rg [.t 83 7, .t 2 83, .c 3 (.int .i64 0)]) (.rt))))))
theorem k31 : Tryz.f31.body.any (fun c => chkC Tryz.prog c m31 && allD (dlt 84) m31) = true := by kernel_rfl
def m67 : MC := .sq (.rg [.c 2 (.slice none 0 0)]) (.sq (.rg [.t 6 0, .o 7 (.cl 103 [.tmp 6]), .t 3 7]) (.sq (.rg [.c 4 (.slice none 0 0)]) (.sq (.sq (.rg [.c 5 (.int .i64 0)]) (.bk 0 (.lp (.sq (.sq (.rg [.t 8 5, .t 9 3, .o 10 (.ln false (.tmp 9)), .o 11 (.cm .lss (.tmp 8) (.tmp 10))]) (.cd (.tmp 11) (.sk) (.xt 0))) (.sq (.bk 1 (.rg [.t 14 4, .t 15 3, .t 16 5, .o 17 (.ias (.tmp 15) (.tmp 16) 52), .o 18 (.fa (.tmp 17) 20), .o 19 (.ld (.tmp 18) (some 32)), .o 20 (.bl 38 32 [.tmp 19]), .o 21 (.ap 38 32 32 [(32, .int .u8 0)] (.tmp 14) (.tmp 20)), .t 4 21])) (.rg [.t 12 5, .o 13 (.ar .add .i64 (.tmp 12) (.const (.int .i64 1)) true), .t 5 13])))))) (.sq (.rg [.t 22 4, .o 23 (.cl 68 [.tmp 22]), .t 2 23]) (.rt)))))
theorem k67 : Tryz.f67.body.any (fun c => chkC Tryz.prog c m67 && allD (dlt 24) m67) = true := by kernel_rfl
def m103 : MC := .sq (.rg [.c 2 (.slice none 0 0)]) (.sq (.rg [.c 3 (.slice none 0 0)]) (.sq (.sq (.rg [.c 4 (.int .i64 0)]) (.bk 0 (.lp (.sq (.sq (.rg [.t 5 4, .t 6 0, .o 7 (.nc (.tmp 6)), .o 8 (.fa (.tmp 7) 1), .o 9 (.ld (.tmp 8) none), .o 10 (.ln false (.tmp 9)), .o 11 (.cm .lss (.tmp 5) (.tmp 10))]) (.cd (.tmp 11) (.sk) (.xt 0))) (.sq (.bk 1 (.sq (.rg [.t 14 0, .o 15 (.nc (.tmp 14)), .o 16 (.fa (.tmp 15) 1), .o 17 (.ld (.tmp 16) none), .t 18 4, .o 19 (.ias (.tmp 17) (.tmp 18) 52), .o 20 (.fa (.tmp 19) 19), .o 21 (.ld (.tmp 20) none)]) (.cd (.tmp 21) (.rg [.t 22 3, .t 23 0, .o 24 (.nc (.tmp 23)), .o 25 (.fa (.tmp 24) 1), .o 26 (.ld (.tmp 25) none), .t 27 4, .o 28 (.ias (.tmp 26) (.tmp 27) 52), .o 29 (.ld (.tmp 28) (some 52)), .o 30 (.bl 40 52 [.tmp 29]), .o 31 (.ap 40 52 136 [(2, .int .i64 0), (16, .int .u32 0), (1, .string ⟨#[]⟩), (1, .bool false), (32, .int .u8 0)] (.tmp 22) (.tmp 30)), .t 3 31]) (.sk)))) (.rg [.t 12 4, .o 13 (.ar .add .i64 (.tmp 12) (.const (.int .i64 1)) true), .t 4 13])))))) (.sq (.rg [.t 32 3, .t 2 32]) (.rt))))
theorem k103 : Tryz.f103.body.any (fun c => chkC Tryz.prog c m103 && allD (dlt 33) m103) = true := by kernel_rfl
theorem spl_full' (l m : List Value) (h : m.length = l.length) : spl l 0 m = m := by
 unfold spl
 rw [List.take_zero, List.nil_append, Nat.zero_add, List.drop_eq_nil_of_le (by omega), List.append_nil]
section
variable {α : Type} {enc : α → List Value} {sz : Nat}
theorem fl_setG (he : ∀ x, (enc x).length = sz) (d : List α) (rest : List Value) (i : Nat) (x : α) (h : i < d.length) : spl (fl enc d ++ rest) (i * sz) (enc x) = fl enc (d.set i x) ++ rest := by
 have e1 : fl enc d ++ rest = fl enc (d.take i) ++ (enc (d[i]) ++ (fl enc (d.drop (i + 1)) ++ rest)) := by
  conv => lhs; rw [← List.take_append_drop i d, List.drop_eq_getElem_cons h, fl_app, fl_cons]
  simp
 have e2 : fl enc (d.set i x) ++ rest = fl enc (d.take i) ++ (enc x ++ (fl enc (d.drop (i + 1)) ++ rest)) := by
  rw [List.set_eq_take_append_cons_drop, if_pos h, fl_app, fl_cons]
  simp
 rw [e1, e2]
 have l1 : (fl enc (d.take i)).length = i * sz := by rw [fl_len he, List.length_take, Nat.min_eq_left (by omega)]
 have := spl_app (fl enc (d.take i)) (enc d[i]) (fl enc (d.drop (i + 1)) ++ rest) (enc x) (by rw [he, he]; exact Nat.le_refl _)
 rw [l1] at this
 rw [this, List.drop_of_length_le (by rw [he, he]; exact Nat.le_refl _), List.append_nil]
theorem fl_atG (he : ∀ x, (enc x).length = sz) (d : List α) (rest : List Value) (i : Nat) (h : i < d.length) : ((fl enc d ++ rest).drop (i * sz)).take sz = enc d[i] := by
 have l1 := fl_len he d
 have h2 : (i + 1) * sz ≤ d.length * sz := Nat.mul_le_mul_right _ h
 rw [Nat.succ_mul] at h2
 rw [List.drop_append_of_le_length (by rw [l1]; omega), List.take_append_of_le_length (by rw [List.length_drop, l1]; omega)]
 exact fl_at he d i _ (List.getElem?_eq_getElem h)
theorem rd_cel (he : ∀ x, (enc x).length = sz) {l : List Value} {off n : Nat} {d : List α} (h : (l.drop off).take (n * sz) = fl enc d) (hd : d.length = n) {i : Nat} (hi : i < d.length) {j : Nat} (hj : j < sz) : l[off + i * sz + j]? = (enc d[i])[j]? := by
 have := rd_at he h hd hi
 rw [← this, List.getElem?_take_of_lt hj, List.getElem?_drop]
end
theorem setL {L : List Res} {r r' : Res} : (L ++ [r]).set L.length r' = L ++ [r'] := by rw [List.set_append_right _ _ (Nat.le_refl _), Nat.sub_self]; rfl
theorem getL {L : List Res} {r : Res} : (L ++ [r])[L.length]? = some r := by rw [List.getElem?_append_right (Nat.le_refl _), Nat.sub_self]; rfl
abbrev zRc : ZZ := [(2, .int .i64 0), (16, .int .u32 0), (1, .string ⟨#[]⟩), (1, .bool false), (32, .int .u8 0)]
def PrdR (f : Nat) (fst cap : List Value) (M : List Res) (p : Rec → Bool) : Prop := ∀ (x : Rec) {w w0 : World} {S0 : Nat → Prop} {K : Value → World → Prop}, St w0 S0 w M → (∀ w', St w0 S0 w' M → K (.bool (p x)) w') → CK Tryz.prog f (fst ++ [.agg ⟨rc x⟩] ++ cap) w K
def PrdS (w0 : World) (S0 : Nat → Prop) (f : Nat) (fst cap : List Value) (M : List Res) (p : Rec → Bool) : Prop := ∀ (x : Rec) {w : World} {K : Value → World → Prop}, St w0 S0 w M → (∀ w', St w0 S0 w' M → K (.bool (p x)) w') → CK Tryz.prog f (fst ++ [.agg ⟨rc x⟩] ++ cap) w K
def rowR (v : Value) (l : List Rec) : Res := row v 40 52 l.length (fl rc l)
section
variable {w w0 : World} {S0 : Nat → Prop} {L B M : List Res} {K : Value → World → Prop} {s : Bs} {E0 E1 : Nat} {f : Nat} {fst cap : List Value} {p : Rec → Bool} {d : List Rec} {v : Value}
theorem b_IdxG (hfn : ∀ (args : Array Value) (w : World), (callFunc f args).run Tryz.prog w = .ok (.enter f args) w) (hn : d.length < 2000000) (hp : PrdS w0 S0 f fst cap M p) (hr : ∀ {w' : World}, St w0 S0 w' M → Rd v E0 52 d.length (fl rc d) w') (hS : St w0 S0 w M)
  (h1 : (∀ x ∈ d, p x = false) → ∀ w', St w0 S0 w' M → K (.int .i64 (-1)) w')
  (h2 : ∀ (k : Nat) (hk : k < d.length), (∀ x ∈ d.take k, p x = false) → p d[k] = true → ∀ w', St w0 S0 w' M → K (.int .i64 (k : Int)) w') : CK Tryz.prog 54 [v, .func (.func f) ⟨fst⟩ ⟨cap⟩] w K := by
 have hrd : ∀ {w' : World}, St w0 S0 w' M → Rd v E0 52 d.length (fl rc d) w' := hr
 obtain ⟨a, c, rfl⟩ := (hrd hS).form
 refine call_k Tryz.func54 k54 Tryz.ntmps54 (Nat.le_of_ble_eq_true rfl) ?_
 refine gW ?_
 refine g_lp (ι := Nat) (fun k => [(0, .slice a d.length c), (1, .func (.func f) ⟨fst⟩ ⟨cap⟩), (7, .int .i64 d.length), (8, .int .i64 k)]) (fun k w' => k ≤ d.length ∧ (∀ x ∈ d.take k, p x = false) ∧ St w0 S0 w' M) (fun k => d.length - k) 0
  ⟨rfl, rfl, rfl, rfl, trivial⟩ ⟨Nat.zero_le _, fun x hx => absurd hx List.not_mem_nil, hS⟩ ?_
 clear hS
 rintro k w1 ⟨hk, hI, hS⟩
 refine gW ?_
 (refine g_cd rfl (fun hlt => ?_) (fun hlt => ?_) <;> simp only [cmv, arv, Bool.not_eq_true', Bool.not_eq_false', decide_eq_true_eq, decide_eq_false_iff_not] at hlt)
 ·have hlt : k < d.length := by omega
  obtain ⟨b, off, cp, l, e1, hcap, hl, hx, hb⟩ := Rd.block (hrd hS) (by omega)
  cases e1
  have hbd : off + k * 52 + 52 ≤ l.length := by have : (k + 1) * 52 ≤ c * 52 := Nat.mul_le_mul_right 52 (by omega); omega
  refine gW ?_
  refine g_rq rfl rfl ⟨by omega, by omega⟩ ?_
  refine g_lmr rfl rfl hb hbd ?_
  rw [Int.toNat_natCast, rd_at rc_len hx rfl hlt]
  refine g_ef rfl (ef_cv (first := fst) (cap := cap) rfl rfl hfn (hp d[k] hS fun w2 hS => ?_))
  cases hq : p d[k]
  ·refine gW ?_
   refine g_rq rfl rfl (in64 (by simp only [arv]; omega)) ?_
   refine gW ?_
   refine g_l (k + 1) ⟨rfl, rfl, rfl, rfl, trivial⟩ ⟨by omega, fun x hx => ?_, hS⟩ (by omega)
   rw [List.take_succ_eq_append_getElem hlt] at hx
   rcases List.mem_append.1 hx with hx | hx
   ·exact hI x hx
   ·rw [List.mem_singleton.1 hx]; exact hq
  ·refine gW ?_
   exact g_ret (q_1 rfl (h2 k hlt hI hq _ hS))
 ·have ek : k = d.length := by omega
  subst ek
  rw [List.take_length] at hI
  refine gW ?_
  exact g_ret (q_1 rfl (h1 hI _ hS))
theorem b_IdxR (hfn : ∀ (args : Array Value) (w : World), (callFunc f args).run Tryz.prog w = .ok (.enter f args) w) (hn : d.length < 2000000) (hp : PrdR f fst cap M p) (hS : St w0 S0 w (M ++ [rowR v d]))
  (h1 : (∀ x ∈ d, p x = false) → ∀ w', St w0 S0 w' (M ++ [rowR v d]) → K (.int .i64 (-1)) w')
  (h2 : ∀ (k : Nat) (hk : k < d.length), (∀ x ∈ d.take k, p x = false) → p d[k] = true → ∀ w', St w0 S0 w' (M ++ [rowR v d]) → K (.int .i64 (k : Int)) w') : CK Tryz.prog 54 [v, .func (.func f) ⟨fst⟩ ⟨cap⟩] w K :=
 b_IdxG hfn hn (fun x {_ _} hS h => hp x hS.frame.1 fun w' h' => h w' (hS.frame.2 _ _ h')) (fun hS => Ow.rd (hS.ok M.length (rowR v d) getL)) hS h1 h2
set_option maxHeartbeats 1000000 in
theorem b_DelR (hfn : ∀ (args : Array Value) (w : World), (callFunc f args).run Tryz.prog w = .ok (.enter f args) w) (hn : d.length < 2000000) (hp : PrdR f fst cap M p) (hS : St w0 S0 w (M ++ [rowR v d]))
  (h : ∀ v' w', St w0 S0 w' (M ++ [rowR v' (d.filter fun x => !p x)]) → K v' w') : CK Tryz.prog 113 [v, .func (.func f) ⟨fst⟩ ⟨cap⟩] w K := by
 have hrd : ∀ {w' : World}, St w0 S0 w' (M ++ [rowR v d]) → Rd v 40 52 d.length (fl rc d) w' := fun hS => Ow.rd (hS.ok M.length (rowR v d) getL)
 obtain ⟨a, c, rfl⟩ := (hrd hS).form
 refine call_k Tryz.func113 k113 Tryz.ntmps113 (Nat.le_of_ble_eq_true rfl) ?_
 refine gW ?_
 refine g_cl rfl rfl (b_IdxR hfn hn hp hS (fun hno w1 hS => ?_) (fun k hk hno hyes w1 hS => ?_))
 ·have e : (d.filter fun x => !p x) = d := List.filter_eq_self.2 fun x hx => by rw [hno x hx]; rfl
  rw [e] at h
  refine gW ?_
  exact g_ret (q_1 rfl (h _ _ hS))
 ·rename_i hS0
  clear hS0
  refine gW ?_
  rw [show cmv BinOp.eql (k : Int) (-1) = false by simp only [cmv]; exact decide_eq_false (by omega)]
  refine gW ?_
  refine g_rq rfl rfl (in64 (by simp only [arv]; omega)) ?_
  have hT := hS
  clear hS
  obtain ⟨b, cap', rest, e, hnc, hlc, hS⟩ := hT.open_row M.length getL (hT.rowb M.length getL (by omega))
  clear hT
  cases e
  rw [setL] at hS
  have hfl := fl_len rc_len d
  refine gW ?_
  refine g_lp (ι := Nat × Nat × List Rec) (fun x => [(0, .slice (some ⟨b, 0, none⟩) d.length c), (1, .func (.func f) ⟨fst⟩ ⟨cap⟩), (5, .int .i64 x.2.1), (6, .int .i64 x.1)])
   (fun x w' => x.1 ≤ d.length ∧ x.2.2.length = d.length ∧ x.2.1 + 1 ≤ x.1 ∧ x.2.2.take x.2.1 = (d.take x.1).filter (fun x => !p x) ∧ x.2.2.drop x.1 = d.drop x.1 ∧ St w0 S0 w' (M ++ [cel b (fl rc x.2.2 ++ rest) 40])) (fun x => d.length - x.1) (k + 1, k, d)
   ⟨rfl, rfl, rfl, rfl, trivial⟩ ⟨hk, rfl, Nat.le_refl _, ?_, rfl, hS⟩ ?_
  ·rw [List.take_succ_eq_append_getElem hk, List.filter_append, List.filter_eq_self.2 fun x hx => by rw [hno x hx]; rfl]
   simp [hyes]
  clear hS
  rintro ⟨j, q, cur⟩ w1 ⟨hj, hcl, hq, hct, hcd, hS⟩
  dsimp only at hj hcl hq hct hcd hS ⊢
  have hcf := fl_len rc_len cur
  refine gW ?_
  (refine g_cd rfl (fun hlj => ?_) (fun hlj => ?_) <;> simp only [cmv, arv, Bool.not_eq_true', Bool.not_eq_false', decide_eq_true_eq, decide_eq_false_iff_not] at hlj)
  ·have hlj : j < d.length := by omega
   have hde : cur[j]'(by omega) = d[j] := by
    have e1 : (cur.drop j)[0]? = (d.drop j)[0]? := by rw [hcd]
    rw [List.getElem?_drop, List.getElem?_drop, Nat.add_zero, List.getElem?_eq_getElem (by omega), List.getElem?_eq_getElem (by omega)] at e1
    exact Option.some.inj e1
   refine gW ?_
   refine g_rq rfl rfl ⟨by omega, by omega⟩ ?_
   refine g_lm rfl rfl (hS.b M.length getL) (by rw [List.length_append, hcf, hcl]; omega) ?_
   rw [Int.toNat_natCast, Nat.zero_add, fl_atG rc_len cur rest j (by omega), hde]
   refine g_ef rfl (ef_al hS fun b7 w1 hS => ?_)
   have lz : (zx zRc).length = 52 := by decide
   refine gW ?_
   refine g_ef0 rfl (ef_st hS (M ++ [cel b (fl rc cur ++ rest) 40]).length getL rfl rfl (rc_len _) (by rw [lz]; decide) (List.all_eq_true.2 (rc_one _)) fun w1 hS => ?_)
   rw [setL] at hS
   replace hS := hS.ceq (l' := rc d[j]) (M ++ [cel b (fl rc cur ++ rest) 40]).length getL (spl_full' _ _ (by show (rc d[j]).length = _; rw [rc_len, lz]))
   rw [setL] at hS
   refine gW ?_
   refine g_lm rfl rfl (hS.b _ getL) (Nat.le_of_eq (by rw [rc_len])) ?_
   rw [List.drop_zero, List.take_of_length_le (Nat.le_of_eq (rc_len _))]
   rw [List.append_assoc] at hS
   have hF := hS.frame
   refine g_ef rfl (ef_cv (first := fst) (cap := cap) rfl rfl hfn (hp d[j] hF.1 fun w2 h' => ?_))
   replace hS := hF.2 _ _ h'
   clear h' hF
   rw [← List.append_assoc] at hS
   cases hqq : p d[j]
   ·refine gW ?_
    refine g_lm rfl rfl (hS.b _ getL) (Nat.le_of_eq (by rw [rc_len])) ?_
    rw [List.drop_zero, List.take_of_length_le (Nat.le_of_eq (rc_len _))]
    refine g_rq rfl rfl ⟨by omega, by omega⟩ ?_
    rw [Int.toNat_natCast, Nat.zero_add]
    replace hS := hS.init
    refine g_ef0 rfl (ef_st hS M.length getL rfl rfl (rc_len _) (by rw [List.length_append, hcf, hcl]; omega) (List.all_eq_true.2 (rc_one _)) fun w1 hS => ?_)
    rw [setL] at hS
    replace hS := hS.ceq (l' := fl rc (cur.set q d[j]) ++ rest) M.length getL (fl_setG rc_len cur rest q _ (by omega))
    rw [setL] at hS
    refine gW ?_
    refine g_rq rfl rfl (in64 (by simp only [arv]; omega)) ?_
    refine gW ?_
    refine g_rq rfl rfl (in64 (by simp only [arv]; omega)) ?_
    refine gW ?_
    refine g_l (j + 1, q + 1, cur.set q d[j]) ⟨rfl, rfl, rfl, rfl, trivial⟩ ⟨hlj, by simp only [List.length_set]; exact hcl, by simp only; omega, ?_, ?_, hS⟩ (by simp only; omega)
    ·show (cur.set q d[j]).take (q + 1) = (d.take (j + 1)).filter (fun x => !p x)
     rw [List.take_succ_eq_append_getElem (by rw [List.length_set]; omega), List.getElem_set_self, List.take_set_of_le (Nat.le_refl _), hct, List.take_succ_eq_append_getElem hlj, List.filter_append]
     simp [hqq]
    ·show (cur.set q d[j]).drop (j + 1) = d.drop (j + 1)
     rw [List.drop_set_of_lt (by omega)]
     have := congrArg (List.drop 1) hcd
     rwa [List.drop_drop, List.drop_drop] at this
   ·refine gW ?_
    refine g_rq rfl rfl (in64 (by simp only [arv]; omega)) ?_
    refine gW ?_
    refine g_l (j + 1, q, cur) ⟨rfl, rfl, rfl, rfl, trivial⟩ ⟨hlj, hcl, by simp only; omega, ?_, ?_, hS.init⟩ (by simp only; omega)
    ·show cur.take q = (d.take (j + 1)).filter (fun x => !p x)
     rw [hct, List.take_succ_eq_append_getElem hlj, List.filter_append]
     simp [hqq]
    ·show cur.drop (j + 1) = d.drop (j + 1)
     have := congrArg (List.drop 1) hcd
     rwa [List.drop_drop, List.drop_drop] at this
  ·have hjn : j = d.length := by omega
   subst hjn
   rw [List.take_length] at hct
   have hslo2 : ∀ x : Operand, slo (some x) 0 ((c : Int)).toNat ((q : Int)).toNat 52 = q * 52 := fun x => by
    simp only [slo, Int.toNat_natCast]
    rw [if_neg (by omega)]
    omega
   refine gW ?_
   refine g_rq rfl rfl ⟨by omega, by omega, by omega, by omega⟩ ?_
   rw [hslo2]
   simp only [Int.toNat_natCast]
   refine g_ef0 rfl (ef_clr hS M.length getL rfl (by rw [List.length_append, hcf, hcl]; omega) (by decide) fun w1 hS => ?_)
   rw [setL] at hS
   have hql : (d.filter fun x => !p x).length = q := by rw [← hct, List.length_take, Nat.min_eq_left (by omega)]
   refine gW ?_
   refine g_qt rfl (qt_slh (h := q) rfl (fun h => by cases h) rfl (by omega) hnc) ?_
   refine gW ?_
   have hrl : (rep (d.length - q) zRc).length = (d.length - q) * 52 := by rw [rep_length]; rfl
   refine g_ret (q_1 rfl (h _ _ ?_))
   have hS := hS.close_row (n := q) (cap := c) (sz := 52) (xs := fl rc (d.filter fun x => !p x)) M.length getL (by omega) (by rw [fl_len rc_len, hql]) ?_ ?_
   ·rw [setL] at hS
    unfold rowR
    rw [hql]
    exact hS
   ·have e1 : (fl rc cur ++ rest).take (q * 52) = fl rc (d.filter fun x => !p x) := by
     rw [List.take_append_of_le_length (by rw [hcf, hcl]; omega), fl_take rc_len, hct]
    refine ⟨rep (d.length - q) zRc ++ (fl rc cur ++ rest).drop (q * 52 + (rep (d.length - q) zRc).length), ?_⟩
    rw [← e1]
    simp [spl]
   ·refine (spl_length ?_).trans ?_
    ·rw [hrl, List.length_append, hcf, hcl]; omega
    ·rw [List.length_append, hcf, hcl]
     rw [List.length_append, hfl] at hlc
     exact hlc
theorem b_ConR (hfn : ∀ (args : Array Value) (w : World), (callFunc f args).run Tryz.prog w = .ok (.enter f args) w) (hn : d.length < 2000000) (hp : PrdS w0 S0 f fst cap M p) (hr : ∀ {w' : World}, St w0 S0 w' M → Rd v E0 52 d.length (fl rc d) w') (hS : St w0 S0 w M)
  (h : ∀ w', St w0 S0 w' M → K (.bool (d.any p)) w') : CK Tryz.prog 28 [v, .func (.func f) ⟨fst⟩ ⟨cap⟩] w K := by
 refine call_k Tryz.func28 k28 Tryz.ntmps28 (Nat.le_of_ble_eq_true rfl) ?_
 refine gW ?_
 refine g_cl rfl rfl (b_IdxG hfn hn hp hr hS (fun hno w1 hS => ?_) (fun k hk hno hyes w1 hS => ?_))
 ·have e : d.any p = false := List.any_eq_false.2 fun x hx => by rw [hno x hx]; decide
  rw [e] at h
  refine gW ?_
  exact g_ret (q_1 rfl (h _ hS))
 ·have e : d.any p = true := List.any_eq_true.2 ⟨_, List.getElem_mem hk, hyes⟩
  rw [e] at h
  have e2 : cmv BinOp.geq (k : Int) 0 = true := by simp only [cmv]; exact decide_eq_true (by omega)
  refine gW ?_
  rw [e2]
  exact g_ret (q_1 rfl (h _ hS))
theorem b_CloneR {n : Nat} (hd : d.length = n) (hn : n < 2000000) (hr : Rd v E0 52 n (fl rc d) w) (h : ∀ v' w', St w (fun _ => False) w' [row v' 40 52 n (fl rc d)] → K v' w') : CK Tryz.prog 58 [v] w K := by
 have hS := St.nil w (fun _ => False)
 obtain ⟨a, c, rfl⟩ := hr.form
 refine call_k Tryz.func58 k58 Tryz.ntmps58 (Nat.le_of_ble_eq_true rfl) ?_
 refine gW ?_
 refine g_cd rfl (fun hc => ?_) (fun hc => ?_)
 ·have e : a = none := by cases a <;> simp_all [nilv]
  subst e
  have e0 : n = 0 ∧ fl rc d = [] := by
   rcases hr with ⟨⟨a, h1⟩, h2, h3⟩ | ⟨b, off, cap, l, h1, _⟩
   ·exact ⟨h2, h3⟩
   ·cases h1
  rw [e0.2, e0.1] at h
  refine gW ?_
  exact g_ret (q_1 rfl (h _ _ (hS.nilrow 40 52)))
 ·refine gW ?_
  refine g_ef rfl (ef_bl hS rfl fun b w1 hS => ?_)
  have hS := hS.conv (r' := row (.slice (some ⟨b, 0, none⟩) 0 0) 40 52 0 []) 0 rfl (fun b' h => h) (.inr ⟨b, 0, [], rfl, Nat.le_refl _, rfl, rfl, hS.b 0 rfl⟩)
  refine gW ?_
  refine g_ef rfl (ef_ap (n := 0) (m := n) hS 0 rfl rfl rfl (.inl ⟨_, hr.same fun b' hb' => hS.fr.kept b' ?_ (fun h => h)⟩) (fl_one rc_one d) (by omega) (by omega) fun v1 w1 hS => ?_)
  ·exact hr.lt b' hb'
  ·rw [Nat.zero_add, List.nil_append] at hS
   refine gW ?_
   exact g_ret (q_1 rfl (h _ _ hS))
end
theorem dotE_no {a b : Int} (h : dotB a b = false) : dotE a b = 50 := by unfold dotE; rw [if_neg (by rw [h]; decide)]
theorem dotE_ok {a b : Int} (h : dotB a b = true) : dotE a b = 0 := by unfold dotE; rw [if_pos h]
theorem dotB_in {a b : Int} (h : dotB a b = true) : 0 ≤ a ∧ a ≤ 15 ∧ 1 ≤ b ∧ b ≤ 4294967295 := of_decide_eq_true h
theorem recE_no {r : Rec} (h : recB r = false) : recE r = 120 := by unfold recE; rw [if_neg (by rw [h]; decide)]
theorem recE_ok {r : Rec} (h : recB r = true) : recE r = 0 := by unfold recE; rw [if_pos h]
theorem nm_cases (s : Bs) : nmE s = 0 ∨ nmE s = 40 := by unfold nmE; split <;> simp
theorem cmv_no {a b : Int} (h : a = b) : cmv BinOp.neq a b = false := by
 show (!decide (a = b)) = false
 rw [decide_eq_true h]
 rfl
theorem cmv_ye {a b : Int} (h : ¬ a = b) : cmv BinOp.neq a b = true := by
 show (!decide (a = b)) = true
 rw [decide_eq_false h]
 rfl
section
variable {w w0 : World} {S0 : Nat → Prop} {L B : List Res} {K : Value → World → Prop} {s : Bs} {E0 E1 : Nat}
set_option maxHeartbeats 4000000 in
theorem b_recCheck {r : Rec} (hg : Gl w) (h : ∀ w', St w (fun _ => False) w' [] → K (.int .i64 (recE r)) w') : CK Tryz.prog 40 [.agg ⟨rc r⟩] w K := by
 have hS := St.nil w (fun _ => False)
 have bad : recB r = false → ∀ {L : List Res} w', St w (fun _ => False) w' L → K (.int .i64 120) w' := fun e {L} w' hS => by
  rw [recE_no e] at h
  exact h _ (hS.sel [] rfl rfl)
 refine call_k Tryz.func40 k40 Tryz.ntmps40 (Nat.le_of_ble_eq_true rfl) ?_
 refine gW ?_
 refine g_ef rfl (ef_bx hS rfl fun b1 w1 hS => ?_)
 replace hS : St w (fun _ => False) w1 [cel b1 (rc r) 40] := hS
 refine gW ?_
 refine g_dr mixed ?_
 replace hS := hS.drew
 refine gD ?_
 refine d_lm rfl rfl rfl (hS.b 0 rfl) (by rw [rc_len]; decide) ?_
 rw [rc_dot]
 refine d_cl rfl rfl rfl (b_dotCheck fun w1 h' => ?_)
 replace hS := hS.call0.2 _ _ h'
 rw [List.append_nil] at hS
 clear h'
 refine ⟨rc_0, ?_⟩
 cases hd : dotB r.site r.cnt
 ·have e1 : recB r = false := by unfold recB; rw [hd]; rfl
  rw [dotE_no hd]
  refine gD ?_
  refine d_en rfl rfl rc_0 ?_
  refine gD ?_
  refine d_fin ?_
  refine gW ?_
  exact g_ret (q_1 rfl (bad e1 _ hS))
 ·rw [dotE_ok hd]
  obtain ⟨s0, s15, c1, c2⟩ := dotB_in hd
  obtain ⟨n, hn⟩ := Int.eq_ofNat_of_zero_le s0
  have hk : n < r.ctx.length := by rw [r.l16]; omega
  have hcx : r.ctx.getD r.site.toNat 0 = r.ctx[n] := by
   rw [hn, Int.toNat_natCast, List.getD_eq_getElem?_getD, List.getElem?_eq_getElem hk]
   rfl
  have hc32 := r.b32 _ (List.getElem_mem hk)
  have hB : recB r = (decide ((r.ctx[n] : Int) + 1 = r.cnt) && (decide (nmE r.ref = 0) && (r.has || decide (r.tip = zip)))) := by
   unfold recB
   rw [hd, hcx, Bool.true_and]
  generalize hX : r.ctx[n] = X at hB hc32
  refine gD ?_
  refine d_l1 rfl rfl rfl (hS.b 0 rfl) (v := .int .i64 r.site) rfl ?_
  refine gD ?_
  refine d_rq rfl rfl rfl ⟨by omega, by omega⟩ ?_
  refine d_l1 rfl rfl rfl (hS.b 0 rfl) (v := .int .u32 (X : Int)) (by rw [hn, ← hX]; exact rc_ctx r hk) ?_
  refine gD ?_
  refine d_l1 rfl rfl rfl (hS.b 0 rfl) (v := .int .i64 r.cnt) rfl ?_
  refine gD ?_
  refine d_rq rfl rfl rfl (in64 (by simp only [arv]; omega)) ?_
  rw [show IntKind.i64.wrap (X : Int) = (X : Int) from wrap_in (in64 (by omega))]
  refine gD ?_
  by_cases hq : (X : Int) + 1 = r.cnt
  ·rw [show cmv BinOp.neq (X : Int) (arv BinOp.sub r.cnt 1) = false from cmv_no (show (X : Int) = r.cnt - 1 by omega)]
   rw [decide_eq_true hq, Bool.true_and] at hB
   refine gD ?_
   refine d_l1 rfl rfl rfl (hS.b 0 rfl) (v := sv r.ref) (rc_18 r) ?_
   refine d_cl rfl rfl rfl (c_Check (hg.in hS) hS fun w1 hS => ⟨rc_0, ?_⟩)
   rcases nm_cases r.ref with hN | hN
   ·rw [decide_eq_true hN, Bool.true_and] at hB
    rw [hN]
    refine gD ?_
    refine d_l1 rfl rfl rfl (hS.b 0 rfl) (v := .bool r.has) (rc_19 r) ?_
    cases hh : r.has
    ·rw [hh, Bool.false_or] at hB
     refine gD ?_
     refine d_lm rfl rfl rfl (hS.b 0 rfl) (by rw [rc_len]; decide) ?_
     rw [rc_20]
     refine gD ?_
     refine d_qt rfl rfl rfl (qt_aq (a := r.tip) (b := zip) rfl rfl r.l32 (by decide)) ?_
     cases hz : decide (r.tip = zip)
     ·rw [hz] at hB
      rw [show aqv .neq r.tip zip = true by simp only [aqv]; rw [hz]; rfl]
      refine gD ?_
      refine d_fin ?_
      refine gW ?_
      exact g_ret (q_1 rfl (bad hB _ hS))
     ·rw [hz] at hB
      rw [show aqv .neq r.tip zip = false by simp only [aqv]; rw [hz]; rfl]
      rw [recE_ok hB] at h
      refine gD ?_
      refine d_fin ?_
      refine gW ?_
      exact g_ret (q_1 rfl (h _ (hS.sel [] rfl rfl)))
    ·rw [hh, Bool.true_or] at hB
     rw [recE_ok hB] at h
     refine gD ?_
     refine d_fin ?_
     refine gW ?_
     exact g_ret (q_1 rfl (h _ (hS.sel [] rfl rfl)))
   ·rw [decide_eq_false (by omega), Bool.false_and] at hB
    rw [hN]
    refine gD ?_
    refine d_fin ?_
    refine gW ?_
    exact g_ret (q_1 rfl (bad hB _ hS))
  ·rw [show cmv BinOp.neq (X : Int) (arv BinOp.sub r.cnt 1) = true from cmv_ye (show ¬ (X : Int) = r.cnt - 1 by omega)]
   rw [decide_eq_false hq, Bool.false_and] at hB
   refine gD ?_
   refine d_en rfl rfl rc_0 ?_
   refine gD ?_
   refine d_fin ?_
   refine gW ?_
   exact g_ret (q_1 rfl (bad hB _ hS))
end
theorem rc_tip (r : Rec) {k : Nat} (h : k < r.tip.length) : (rc r)[20 + k * 1]? = some (.int .u8 (r.tip[k].toNat : Int)) := by
 have h1 := congrArg (fun l : List Value => l[k]?) (rc_20 r)
 simp only [List.getElem?_take, List.getElem?_drop] at h1
 rw [if_pos (by have := r.l32; omega)] at h1
 rw [Nat.mul_one, h1]
 simp [bys, h]
theorem zip_of {t : Bs} (hl : t.length = 32) (h : ∀ j (hj : j < t.length), t[j] = 0) : t = zip := by
 unfold zip
 refine List.ext_getElem (by rw [hl, List.length_replicate]) fun i h1 h2 => ?_
 rw [List.getElem_replicate, h i h1]
theorem zip_at {t : Bs} (h : t = zip) {j : Nat} (hj : j < t.length) : t[j] = 0 := by
 have h1 : t[j] ∈ zip := h ▸ List.getElem_mem hj
 exact List.eq_of_mem_replicate h1
theorem u4_fits : ∀ l : List Nat, Fits (List.replicate l.length (.i .u32)) (u4 l)
 | [] => trivial
 | x :: l => ⟨⟨_, rfl⟩, u4_fits l⟩
theorem fits_app : ∀ {ks js : List CKd} {a b : List Value}, Fits ks a → Fits js b → Fits (ks ++ js) (a ++ b)
 | [], _, [], _, _, h => h
 | _ :: _, _, _ :: _, _, h, h' => ⟨h.1, fits_app h.2 h'⟩
theorem rc_fits (r : Rec) : Fits (.i .i64 :: .i .i64 :: (List.replicate 16 (.i .u32) ++ (.s :: .b :: List.replicate 32 (.i .u8)))) (rc r) := by
 have h1 := u4_fits r.ctx
 rw [r.l16] at h1
 have h2 := fits_bys r.tip
 rw [r.l32] at h2
 exact ⟨⟨_, rfl⟩, ⟨_, rfl⟩, fits_app h1 ⟨⟨_, rfl⟩, ⟨_, rfl⟩, h2⟩⟩
section
variable {w w0 : World} {S0 : Nat → Prop} {L B : List Res} {K : Value → World → Prop} {s : Bs} {E0 E1 : Nat}
set_option maxHeartbeats 4000000 in
theorem r_recCheck {r : Rec} (h : ∀ w', St w (fun _ => False) w' [] → K (.int .i64 (recE r)) w') : CK Tryz.prog 62 [.agg ⟨rc r⟩] w K := by
 have hS := St.nil w (fun _ => False)
 have bad : recB r = false → ∀ {L : List Res} w', St w (fun _ => False) w' L → K (.int .i64 120) w' := fun e {L} w' hS => by
  rw [recE_no e] at h
  exact h _ (hS.sel [] rfl rfl)
 refine call_k Tryz.func62 k62 Tryz.ntmps62 (Nat.le_of_ble_eq_true rfl) ?_
 refine gW ?_
 refine g_ef rfl (ef_bx hS rfl fun b1 w1 hS => ?_)
 replace hS : St w (fun _ => False) w1 [cel b1 (rc r) 40] := hS
 refine gW ?_
 refine g_dr mixed ?_
 replace hS := hS.drew
 refine gD ?_
 refine d_lm rfl rfl rfl (hS.b 0 rfl) (by rw [rc_len]; decide) ?_
 rw [rc_dot]
 refine d_cl rfl rfl rfl (r_dotCheck fun w1 h' => ?_)
 replace hS := hS.call0.2 _ _ h'
 rw [List.append_nil] at hS
 clear h'
 refine ⟨rc_0, ?_⟩
 cases hd : dotB r.site r.cnt
 ·have e1 : recB r = false := by unfold recB; rw [hd]; rfl
  rw [dotE_no hd]
  refine gD ?_
  refine d_en rfl rfl rc_0 ?_
  refine gD ?_
  refine d_fin ?_
  refine gW ?_
  exact g_ret (q_1 rfl (bad e1 _ hS))
 ·rw [dotE_ok hd]
  obtain ⟨s0, s15, c1, c2⟩ := dotB_in hd
  obtain ⟨n, hn⟩ := Int.eq_ofNat_of_zero_le s0
  have hk : n < r.ctx.length := by rw [r.l16]; omega
  have hcx : r.ctx.getD r.site.toNat 0 = r.ctx[n] := by
   rw [hn, Int.toNat_natCast, List.getD_eq_getElem?_getD, List.getElem?_eq_getElem hk]
   rfl
  have hc32 := r.b32 _ (List.getElem_mem hk)
  have hB : recB r = (decide ((r.ctx[n] : Int) + 1 = r.cnt) && (decide (nmE r.ref = 0) && (r.has || decide (r.tip = zip)))) := by
   unfold recB
   rw [hd, hcx, Bool.true_and]
  generalize hX : r.ctx[n] = X at hB hc32
  refine gD ?_
  refine d_l1 rfl rfl rfl (hS.b 0 rfl) (v := .int .i64 r.site) rfl ?_
  refine gD ?_
  refine d_rq rfl rfl rfl ⟨by omega, by omega⟩ ?_
  refine d_l1 rfl rfl rfl (hS.b 0 rfl) (v := .int .u32 (X : Int)) (by rw [hn, ← hX]; exact rc_ctx r hk) ?_
  refine gD ?_
  rw [show IntKind.i64.wrap (X : Int) = (X : Int) from wrap_in (in64 (by omega))]
  refine d_rq rfl rfl rfl (in64 (by simp only [arv]; omega)) ?_
  refine gD ?_
  refine d_l1 rfl rfl rfl (hS.b 0 rfl) (v := .int .i64 r.cnt) rfl ?_
  refine gD ?_
  by_cases hq : (X : Int) + 1 = r.cnt
  ·rw [show cmv BinOp.neq (arv BinOp.add (X : Int) 1) r.cnt = false from cmv_no hq]
   rw [decide_eq_true hq, Bool.true_and] at hB
   refine gD ?_
   refine d_l1 rfl rfl rfl (hS.b 0 rfl) (v := sv r.ref) (rc_18 r) ?_
   refine d_cl rfl rfl rfl (r_Check4 fun w1 h' => ?_)
   replace hS := hS.call0.2 _ _ h'
   rw [List.append_nil] at hS
   clear h'
   refine ⟨rc_0, ?_⟩
   rcases nm_cases r.ref with hN | hN
   ·rw [decide_eq_true hN, Bool.true_and] at hB
    rw [hN]
    refine gD ?_
    refine d_fin ?_
    refine gW ?_
    refine g_l1 rfl rfl (hS.b 0 rfl) (v := .bool r.has) (rc_19 r) ?_
    cases hh : r.has
    ·rw [hh, Bool.false_or] at hB
     refine gW ?_
     refine g_lp (ι := Nat) (fun k => [(1, dp b1), (3, .int .i64 k)]) (fun k w' => k ≤ 32 ∧ (∀ j (hj : j < r.tip.length), j < k → r.tip[j] = 0) ∧ St w (fun _ => False) w' [cel b1 (rc r) 40]) (fun k => 32 - k) 0 ⟨rfl, rfl, trivial⟩ ⟨Nat.zero_le _, fun j _ h => absurd h (Nat.not_lt_zero j), hS⟩ ?_
     clear hS
     rintro k w1 ⟨hk, hP, hS⟩
     refine gW ?_
     (refine g_cd rfl (fun hlt => ?_) (fun hlt => ?_) <;> simp only [cmv, arv, Bool.not_eq_true', Bool.not_eq_false', decide_eq_true_eq, decide_eq_false_iff_not] at hlt)
     ·have hkt : k < r.tip.length := by rw [r.l32]; omega
      refine gW ?_
      refine g_rq rfl rfl ⟨by omega, by omega⟩ ?_
      refine g_l1 rfl rfl (hS.b 0 rfl) (v := .int .u8 (r.tip[k].toNat : Int)) (by rw [Int.toNat_natCast]; exact rc_tip r hkt) ?_
      refine gW ?_
      by_cases hz : r.tip[k] = 0
      ·rw [hz]
       rw [show cmv BinOp.neq (((0 : UInt8).toNat : Nat) : Int) 0 = false from rfl]
       refine gW ?_
       refine g_rq rfl rfl (in64 (by simp only [arv]; omega)) ?_
       refine gW ?_
       refine g_l (k + 1) ⟨rfl, rfl, trivial⟩ ⟨by omega, fun j hj hjk => ?_, hS⟩ (by omega)
       by_cases e : j = k
       ·subst e; exact hz
       ·exact hP j hj (by omega)
      ·rw [cmv_ye (a := ((r.tip[k].toNat : Nat) : Int)) (b := 0) fun e => hz (UInt8.toNat_inj.1 (by show r.tip[k].toNat = 0; omega))]
       rw [decide_eq_false (fun e => hz (zip_at e hkt))] at hB
       refine gW ?_
       exact g_ret (q_1 rfl (bad hB _ hS))
     ·rw [decide_eq_true (zip_of r.l32 fun j hj => hP j hj (by have := r.l32; omega))] at hB
      rw [recE_ok hB] at h
      refine gW ?_
      exact g_ret (q_1 rfl (h _ (hS.sel [] rfl rfl)))
    ·rw [hh, Bool.true_or] at hB
     rw [recE_ok hB] at h
     refine gW ?_
     exact g_ret (q_1 rfl (h _ (hS.sel [] rfl rfl)))
   ·rw [decide_eq_false (by omega), Bool.false_and] at hB
    rw [hN]
    refine gD ?_
    refine d_fin ?_
    refine gW ?_
    exact g_ret (q_1 rfl (bad hB _ hS))
  ·rw [show cmv BinOp.neq (arv BinOp.add (X : Int) 1) r.cnt = true from cmv_ye hq]
   rw [decide_eq_false hq, Bool.false_and] at hB
   refine gD ?_
   refine d_en rfl rfl rc_0 ?_
   refine gD ?_
   refine d_fin ?_
   refine gW ?_
   exact g_ret (q_1 rfl (bad hB _ hS))
theorem r_SameR {d e : List Rec} {v u : Value} {n m : Nat} (hd : d.length = n) (he : e.length = m) (hn : n < 2000000) (hm : m < 2000000) (hr : Rd v E0 52 n (fl rc d) w) (hu : Rd u E1 52 m (fl rc e) w) (h : ∀ q : Bool, (q = true ↔ d = e) → ∀ w', St w (fun _ => False) w' [] → K (.bool q) w') : CK Tryz.prog 8 [v, u] w K := by
 have hS := St.nil w (fun _ => False)
 have hrr : ∀ {L : List Res} (w' : World), St w (fun _ => False) w' L → Rd v E0 52 n (fl rc d) w' := fun w' hS => hr.same fun b hb => hS.fr.kept b (hr.lt b hb) (fun h => h)
 have huu : ∀ {L : List Res} (w' : World), St w (fun _ => False) w' L → Rd u E1 52 m (fl rc e) w' := fun w' hS => hu.same fun b hb => hS.fr.kept b (hu.lt b hb) (fun h => h)
 obtain ⟨a, c, rfl⟩ := hr.form
 obtain ⟨a2, c2, rfl⟩ := hu.form
 refine call_k Tryz.func8 k8 Tryz.ntmps8 (Nat.le_of_ble_eq_true rfl) ?_
 refine gW ?_
 (refine g_cd rfl (fun hc => ?_) (fun hc => ?_) <;> simp only [cmv, arv, Bool.not_eq_true', Bool.not_eq_false', decide_eq_true_eq, decide_eq_false_iff_not] at hc)
 ·refine gW ?_
  exact g_ret (q_1 rfl (h false ⟨nofun, fun h1 => absurd (by rw [← hd, ← he, h1]) hc⟩ _ hS))
 ·have hnm : n = m := by omega
  subst hnm
  refine gW ?_
  refine g_lp (ι := Nat) (fun k => [(0, .slice a n c), (1, .slice a2 n c2), (5, .int .i64 k)]) (fun k w' => k ≤ n ∧ d.take k = e.take k ∧ St w (fun _ => False) w' []) (fun k => n - k) 0 ⟨rfl, rfl, rfl, trivial⟩ ⟨Nat.zero_le _, rfl, hS⟩ ?_
  clear hS
  rintro k w1 ⟨hk, hP, hS⟩
  refine gW ?_
  (refine g_cd rfl (fun hlt => ?_) (fun hlt => ?_) <;> simp only [cmv, arv, Bool.not_eq_true', Bool.not_eq_false', decide_eq_true_eq, decide_eq_false_iff_not] at hlt)
  ·have hlt : k < n := by omega
   obtain ⟨b1, off, cap, l, e1, hcap, hl, hx, hb⟩ := Rd.block (hrr _ hS.drew) (by omega)
   cases e1
   obtain ⟨b3, off3, cap3, l3, e3, hcap3, hl3, hx3, hb3⟩ := Rd.block (huu _ hS.drew) (by omega)
   cases e3
   have hbd : off + k * 52 + 52 ≤ l.length := by have : (k + 1) * 52 ≤ c * 52 := Nat.mul_le_mul_right 52 (by omega); omega
   have hbd3 : off3 + k * 52 + 52 ≤ l3.length := by have : (k + 1) * 52 ≤ c2 * 52 := Nat.mul_le_mul_right 52 (by omega); omega
   refine gW ?_
   refine g_dr mixed ?_
   replace hS := hS.drew
   refine gD ?_
   refine d_rq rfl rfl rfl ⟨by omega, by omega⟩ ?_
   refine d_qt rfl rfl rfl (qt_ldmr rfl hb hbd) ?_
   rw [Int.toNat_natCast, rd_at rc_len hx hd (show k < d.length by omega)]
   refine gD ?_
   refine d_rq rfl rfl rfl ⟨by omega, by omega⟩ ?_
   refine d_qt rfl rfl rfl (qt_ldmr rfl hb3 hbd3) ?_
   rw [Int.toNat_natCast, rd_at rc_len hx3 he (show k < e.length by omega)]
   refine d_qt rfl rfl rfl (qt_eqd (a := rc (d[k]'(by omega))) (b := rc (e[k]'(by omega))) rfl rfl (rc_fits _) (rc_fits _)) ?_
   refine d_fin ?_
   by_cases hde : d[k]'(by omega) = e[k]'(by omega)
   ·rw [show eqdv .neq (deqv (rc (d[k]'(by omega))) (rc (e[k]'(by omega)))) = false by
     show (!deqv _ _) = _
     rw [deqv_eq (q := true) ⟨fun _ => by rw [hde], fun _ => rfl⟩]; rfl]
    refine gW ?_
    refine g_rq rfl rfl (in64 (by simp only [arv]; omega)) ?_
    refine gW ?_
    refine g_l (k + 1) ⟨rfl, rfl, rfl, trivial⟩ ⟨by omega, ?_, hS⟩ (by omega)
    rw [List.take_succ_eq_append_getElem (by omega), List.take_succ_eq_append_getElem (by omega), hP, hde]
   ·rw [show eqdv .neq (deqv (rc (d[k]'(by omega))) (rc (e[k]'(by omega)))) = true by
     show (!deqv _ _) = _
     rw [deqv_eq (q := false) ⟨nofun, fun h => absurd (rc_inj h) hde⟩]; rfl]
    refine gW ?_
    exact g_ret (q_1 rfl (h false ⟨nofun, fun h1 => absurd (by subst h1; rfl) hde⟩ _ hS))
  ·have e1 : d = e := by rw [← List.take_of_length_le (l := d) (i := k) (by omega), hP, List.take_of_length_le (by omega)]
   refine gW ?_
   exact g_ret (q_1 rfl (h true ⟨fun _ => e1, fun _ => rfl⟩ _ hS))
end
def dig : Bs := [48, 49, 50, 51, 52, 53, 54, 55, 56, 57, 97, 98, 99, 100, 101, 102]
def hx (c : UInt8) : Bs := [dig.getD (c.toNat / 16) 0, dig.getD (c.toNat % 16) 0]
def hex (id : Bs) : Bs := (id.map hx).flatten
theorem hex_len : ∀ (id : Bs), (hex id).length = 2 * id.length
 | [] => rfl
 | c :: r => by
  have := hex_len r
  unfold hex at this ⊢
  simp only [List.map_cons, List.flatten_cons, List.length_append, List.length_cons, this]
  simp [hx]
  omega
theorem hex_app (a b : Bs) : hex (a ++ b) = hex a ++ hex b := by simp [hex]
def dgv (c : UInt8) : Nat := (Lib.indexByte dig c).toNat
def isD (c : UInt8) : Bool := decide (0 ≤ Lib.indexByte dig c)
def unh (s : Bs) : Bs := (List.range 32).map fun i => UInt8.ofNat (16 * dgv (s.getD (2 * i) 0) + dgv (s.getD (2 * i + 1) 0))
def unhex (s : Bs) : Option Bs := if s.length = 64 ∧ s.all isD = true then some (unh s) else none
theorem ib_lt : ∀ (l : Bs) (c : UInt8), Lib.indexByte l c < l.length
 | [], c => by unfold Lib.indexByte; simp
 | x :: r, c => by
  have := ib_lt r c
  unfold Lib.indexByte
  simp only [List.length_cons]
  repeat' split
  all_goals omega
theorem dgv_lt {c : UInt8} (h : isD c = true) : dgv c < 16 := by
 have hl := ib_lt dig c
 unfold isD at h
 unfold dgv
 simp only [decide_eq_true_eq] at h
 have : (dig.length : Int) = 16 := rfl
 omega
def idst (s : Bs) (k : Nat) : Bs := (List.range 32).map fun i => if 2 * i + 1 < k then UInt8.ofNat (16 * dgv (s.getD (2 * i) 0) + dgv (s.getD (2 * i + 1) 0)) else if 2 * i < k then UInt8.ofNat (dgv (s.getD (2 * i) 0)) else 0
theorem idst_0 (s : Bs) : idst s 0 = List.replicate 32 0 := by
 unfold idst
 refine List.ext_getElem? fun i => ?_
 simp only [List.getElem?_map, List.getElem?_replicate]
 by_cases h : i < 32
 ·rw [List.getElem?_range h]; simp [h]
 ·rw [List.getElem?_eq_none (by simp; omega)]; simp [h]
theorem idst_64 (s : Bs) : idst s 64 = unh s := by
 unfold idst unh
 refine List.map_congr_left fun i hi => ?_
 have := List.mem_range.1 hi
 rw [if_pos (by omega)]
theorem idst_len (s : Bs) (k : Nat) : (idst s k).length = 32 := by simp [idst]
theorem idst_get (s : Bs) {k i : Nat} (h : i < 32) : (idst s k)[i]? = some (if 2 * i + 1 < k then UInt8.ofNat (16 * dgv (s.getD (2 * i) 0) + dgv (s.getD (2 * i + 1) 0)) else if 2 * i < k then UInt8.ofNat (dgv (s.getD (2 * i) 0)) else 0) := by
 unfold idst
 rw [List.getElem?_map, List.getElem?_range h]
 rfl
theorem idst_step (s : Bs) {k : Nat} (hk : k < 64) : idst s (k + 1) = (idst s k).set (k / 2) (if k % 2 = 0 then UInt8.ofNat (dgv (s.getD k 0)) else UInt8.ofNat (16 * dgv (s.getD (k - 1) 0) + dgv (s.getD k 0))) := by
 refine List.ext_getElem? fun i => ?_
 by_cases h : i < 32
 ·by_cases e : k / 2 = i
  ·subst e
   rw [List.getElem?_set_self (by rw [idst_len]; omega), idst_get s h]
   congr 1
   by_cases hp : k % 2 = 0
   ·rw [if_pos hp, if_neg (by omega), if_pos (by omega), show 2 * (k / 2) = k by omega]
   ·rw [if_neg hp, if_pos (by omega), show 2 * (k / 2) = k - 1 by omega, show k - 1 + 1 = k by omega]
  ·rw [List.getElem?_set_ne e, idst_get s h, idst_get s h]
   congr 1
   by_cases h1 : 2 * i + 1 < k
   ·rw [if_pos h1, if_pos (by omega)]
   ·rw [if_neg h1, if_neg (by omega)]
    by_cases h2 : 2 * i < k
    ·rw [if_pos h2, if_pos (by omega)]
    ·rw [if_neg h2, if_neg (by omega)]
 ·rw [List.getElem?_eq_none (by rw [idst_len]; omega), List.getElem?_eq_none (by rw [List.length_set, idst_len]; omega)]
theorem and15 (c : UInt8) : btv .and .u8 (c.toNat : Int) 15 = ((c.toNat % 16 : Nat) : Int) := by
 have key : ∀ c : Fin 256, btv .and .u8 (c.val : Int) 15 = ((c.val % 16 : Nat) : Int) := by decide +kernel
 exact key ⟨c.toNat, c.toNat_lt⟩
theorem shr4 (c : UInt8) : shv .shr .u8 (c.toNat : Int) 4 = ((c.toNat / 16 : Nat) : Int) := by
 have key : ∀ c : Fin 256, shv .shr .u8 (c.val : Int) 4 = ((c.val / 16 : Nat) : Int) := by decide +kernel
 exact key ⟨c.toNat, c.toNat_lt⟩
theorem put4 {a b : Nat} (ha : a < 16) (hb : b < 16) : btv .or .u8 (shv .shl .u8 (a : Int) 4) (b : Int) = (((UInt8.ofNat (16 * a + b)).toNat : Nat) : Int) := by
 have key : ∀ a b : Fin 16, btv .or .u8 (shv .shl .u8 (a.val : Int) 4) (b.val : Int) = (((UInt8.ofNat (16 * a.val + b.val)).toNat : Nat) : Int) := by decide +kernel
 exact key ⟨a, ha⟩ ⟨b, hb⟩
section
variable {w w0 : World} {S0 : Nat → Prop} {L B : List Res} {K : Value → World → Prop} {s : Bs}
set_option maxRecDepth 100000 in
theorem b_Text {id : Bs} (hl : id.length = 32) (h : ∀ w', St w (fun _ => False) w' [] → K (sv (hex id)) w') : CK Tryz.prog 122 [.agg ⟨bys id⟩] w K := by
 have hS := St.nil w (fun _ => False)
 refine call_k Tryz.func122 k122 Tryz.ntmps122 (Nat.le_of_ble_eq_true rfl) ?_
 refine gW ?_
 refine g_ef rfl (ef_bx hS rfl fun b1 w1 hS => ?_)
 have hS : St w (fun _ => False) w1 [cel b1 (bys id) 38] := hS
 refine gW ?_
 refine g_lm rfl rfl (hS.b 0 rfl) (by show 0 + 32 ≤ (bys id).length; rw [bys_length]; omega) ?_
 rw [List.drop_zero, List.take_of_length_le (by rw [bys_length]; omega)]
 refine gW ?_
 refine g_lp (ι := Nat × Value) (fun x => [(3, x.2), (6, .agg ⟨bys id⟩), (7, .int .i64 x.1)]) (fun x w' => x.1 ≤ 32 ∧ St w (fun _ => False) w' [row x.2 5 1 (2 * x.1) (bys (hex (id.take x.1)))]) (fun x => 32 - x.1) (0, .slice none 0 0)
  ⟨rfl, rfl, rfl, trivial⟩ ⟨Nat.zero_le _, (hS.nilrow 5 1).sel [1] rfl rfl⟩ ?_
 clear hS
 rintro ⟨k, v⟩ w1 ⟨hk, hS⟩
 simp only at hk hS
 refine gW ?_
 (refine g_cd rfl (fun hc => ?_) (fun hc => ?_) <;> simp only [cmv, arv, Bool.not_eq_true', Bool.not_eq_false', decide_eq_true_eq, decide_eq_false_iff_not] at hc)
 ·have hlt : k < id.length := by omega
  have hg : (bys id).getD k undef = .int .u8 (id[k].toNat : Int) := by simp [bys, hlt]
  have hst : hex (id.take (k + 1)) = hex (id.take k) ++ hx id[k] := by
   rw [List.take_succ_eq_append_getElem hlt, hex_app]
   simp [hex]
  obtain ⟨a, c, rfl⟩ := hS.rlen 0 rfl
  refine gW ?_
  refine g_rq rfl rfl ⟨by omega, by omega, by rw [bys_length]; omega⟩ ?_
  rw [Int.toNat_natCast, Nat.mul_one, hg]
  refine gW ?_
  refine g_dr mixed ?_
  have hS := hS.drew
  refine gD ?_
  refine d_rq rfl rfl rfl (by decide) ?_
  rw [shr4]
  refine d_rq rfl rfl rfl ⟨by omega, by have := id[k].toNat_lt; show ((id[k].toNat / 16 : Nat) : Int) < 16; omega⟩ ?_
  refine gD ?_
  rw [and15]
  refine d_rq rfl rfl rfl ⟨by omega, by show ((id[k].toNat % 16 : Nat) : Int) < 16; omega⟩ ?_
  refine d_e rfl rfl ?_
  refine ef_bl (rs := bys (hx id[k])) hS rfl fun g w1 hS => ⟨rc_0, ?_⟩
  refine d_e rfl rfl ?_
  refine ef_ap (n := 2 * k) (m := 2) (ys := bys (hx id[k])) hS 0 rfl rfl rfl (.inl ⟨5, .inr ⟨g, 0, 2, _, rfl, Nat.le_refl _, Nat.le_refl _, rfl, (hS.b 1 rfl).r⟩⟩) rfl (by omega) (by omega) fun v1 w1 hS => ⟨rc_0, ?_⟩
  refine d_e rfl rfl ?_
  refine ef_qt ((pev_ok rfl).2 _) ⟨rc_0, ?_⟩
  refine d_fin ?_
  rw [← bys_append, ← hst] at hS
  refine gW ?_
  refine g_rq rfl rfl (in64 (by simp only [arv]; omega)) ?_
  refine gW ?_
  exact g_l (k + 1, v1) ⟨rfl, rfl, rfl, trivial⟩ ⟨by simp only; omega, hS.sel [0] rfl rfl⟩ (by simp only; omega)
 ·have e : id.take k = id := List.take_of_length_le (by omega)
  rw [e] at hS
  refine gW ?_
  refine g_qt rfl (qt_bsR rfl (Ow.rd (hS.ok 0 _ rfl))) ?_
  refine gW ?_
  exact g_ret (q_1 rfl (h _ (hS.sel [] rfl rfl)))
theorem b_bcmp {v u : Value} {E E' n m : Nat} {a b : Bs} (ha : Rd v E 1 n (bys a) w) (hb : Rd u E' 1 m (bys b) w) (h : K (.int .i64 (Lib.compareBytes a b)) w) : CK Tryz.prog 116 [v, u] w K := by
 refine call_k Tryz.func116 k116 Tryz.ntmps116 (Nat.le_of_ble_eq_true rfl) ?_
 refine gW ?_
 refine g_ef rfl (ef_xl (vs := [v, u]) (e := Extern.BytealgCompare.compare) Tryz.func161 (by kernel_rfl) (by kernel_rfl) rfl (run_cmpX ha hb) ?_)
 refine gW ?_
 exact g_ret (q_1 rfl h)
theorem b_Compare {a b : Bs} (ha : a.length = 32) (hb : b.length = 32) (h : ∀ w', St w (fun _ => False) w' [] → K (.int .i64 (Lib.compareBytes a b)) w') : CK Tryz.prog 84 [.agg ⟨bys a⟩, .agg ⟨bys b⟩] w K := by
 have hS := St.nil w (fun _ => False)
 refine call_k Tryz.func84 k84 Tryz.ntmps84 (Nat.le_of_ble_eq_true rfl) ?_
 refine gW ?_
 refine g_ef rfl (ef_bx hS rfl fun b1 w1 hS => ?_)
 refine gW ?_
 refine g_ef rfl (ef_bx hS rfl fun b2 w1 hS => ?_)
 have hS : St w (fun _ => False) w1 [cel b1 (bys a) 38, cel b2 (bys b) 38] := hS
 refine gW ?_
 refine g_lm rfl rfl (hS.b 0 rfl) (by show 0 + 32 ≤ (bys a).length; rw [bys_length]; omega) ?_
 refine g_lm rfl rfl (hS.b 1 rfl) (by show 0 + 32 ≤ (bys b).length; rw [bys_length]; omega) ?_
 rw [List.drop_zero, List.drop_zero, List.take_of_length_le (by rw [bys_length]; omega), List.take_of_length_le (by rw [bys_length]; omega)]
 refine g_aq a b rfl rfl rfl ha hb ?_
 refine g_r0 ?_
 refine g_cd rfl (fun hc => ?_) (fun hc => ?_)
 ·have e : a = b := by simpa [aqv] using hc
  have e0 : ∀ l : Bs, Lib.compareBytes l l = 0 := fun l => by
   induction l with
   | nil => rfl
   | cons x l ih => unfold Lib.compareBytes; rw [if_neg (UInt8.lt_irrefl x), if_neg (UInt8.lt_irrefl x)]; exact ih
  rw [e, e0] at h
  refine gW ?_
  exact g_ret (q_1 rfl (h _ (hS.sel [] rfl rfl)))
 ·refine gW ?_
  refine g_dr mixed ?_
  have hS := hS.drew
  refine d_rq rfl rfl rfl ⟨by decide, by decide, by decide⟩ ?_
  refine d_rq rfl rfl rfl ⟨by decide, by decide, by decide⟩ ?_
  refine d_cl rfl rfl rfl (b_bcmp (n := 32) (m := 32) (E := 38) (E' := 38) (.inr ⟨b1, 0, 32, _, rfl, Nat.le_refl _, by rw [bys_length]; omega, by rw [List.drop_zero, List.take_of_length_le (by rw [bys_length]; omega)], (hS.b 0 rfl).r⟩) (.inr ⟨b2, 0, 32, _, rfl, Nat.le_refl _, by rw [bys_length]; omega, by rw [List.drop_zero, List.take_of_length_le (by rw [bys_length]; omega)], (hS.b 1 rfl).r⟩) ⟨rc_0, ?_⟩)
  refine gD ?_
  refine d_fin ?_
  exact g_ret (q_1 rfl (h _ (hS.sel [] rfl rfl)))
end
end Go.Proofs.YtfffdhafbbbpcaaGreatDoor
