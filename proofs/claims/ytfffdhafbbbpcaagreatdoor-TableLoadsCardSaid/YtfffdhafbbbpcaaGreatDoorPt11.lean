/- Rx2 Oc1 Rx3 -/
import Derived.Test.YtfffdhafbbbpcaaGreatDoorPt10
import Derived.Test.YtfffdhafbbbpcaaGreatDoorCards
import Derived.Test.YtfffdhafbbbpcaaGreatDoorTie
import Derived.WalkKit
import Derived.ProofKit
import Derived.OpenShut
import Derived.Deep.DeepHandedRow
import Derived.Lib.LaidTab
set_option linter.unusedSimpArgs false
set_option linter.unusedVariables false
namespace Go.Proofs.YtfffdhafbbbpcaaGreatDoor
open Go.En
theorem tab_ok {Y : List Sb} {d : List Rec} (hP : okP (grp d)) (h : gps Y = grp d) (hd : d.length < 400000) : TabOk Y :=
 ⟨by rw [h]; exact hP, fun z hz => (grp_refs d z.g (by rw [← h]; exact List.mem_map.2 ⟨z, hz, rfl⟩)).1, by rw [flt_grp h]; exact hd⟩
section
variable {w w0 : World} {S0 : Nat → Prop} {L B : List Res} {K : Value → World → Prop} {s : Bs} {E0 E1 : Nat}
set_option maxHeartbeats 4000000 in
theorem b_TableLoads {x : List Nat} {v : Value} {n : Nat} {d : List Rec} (hg : Gl w) (hx : x.length = 16) (hxb : ∀ y ∈ x, y < 4294967296) (hd : d.length = n) (hn : n ≤ 9223372036854775807) (hr : Rd v E0 52 n (fl rc d) w) (h : ∀ w', St w (fun _ => False) w' [] → K (.bool true) w') : CK Tryz.prog 3 [.agg ⟨u4 x⟩, v] w K := by
 have hS := St.nil w (fun _ => False)
 subst hd
 have hrr : ∀ {L : List Res} {w' : World}, St w (fun _ => False) w' L → Rd v E0 52 d.length (fl rc d) w' := fun hS => hr.same fun b hb => hS.fr.kept b (hr.lt b hb) (fun h => h)
 obtain ⟨a, c, rfl⟩ := hr.form
 have lx : (u4 x).length = 16 := by rw [u4_len, hx]
 have ldx : ((u4 x).drop 0).take 16 = u4 x := by rw [List.drop_zero, List.take_of_length_le (Nat.le_of_eq lx)]
 refine call_k Tryz.func3 k3 Tryz.ntmps3 (Nat.le_of_ble_eq_true rfl) ?_
 refine gW ?_
 refine g_ef rfl (ef_bx hS rfl fun b2 w1 hS => ?_)
 replace hS : St w (fun _ => False) w1 [cel b2 (u4 x) 24] := hS
 refine gW ?_
 refine g_cl rfl rfl (b_great rfl hn (hrr hS) fun q hq => ?_)
 cases q
 rotate_left
 ·refine gW ?_
  exact g_ret (q_1 rfl (h _ (hS.sel [] rfl rfl)))
 have hn40 := hq rfl
 clear hq
 refine gW ?_
 refine g_ef rfl (ef_bl (rs := []) hS rfl fun bO w1 hS => ?_)
 replace hS : St w (fun _ => False) w1 [cel b2 (u4 x) 24, cel bO [] 40] := hS
 replace hS : St w (fun _ => False) w1 [cel b2 (u4 x) 24, row (.slice (some ⟨bO, 0, none⟩) 0 0) 40 52 0 []] := hS.close_row (n := 0) (cap := 0) (sz := 52) (xs := []) 1 rfl (Nat.le_refl _) rfl (List.prefix_refl _) rfl
 refine gW ?_
 refine g_ef rfl (ef_ap (n := 0) (m := d.length) (ys := fl rc d) hS 1 rfl rfl rfl (.inl ⟨_, hrr hS⟩) (fl_one rc_one _) (by omega) (by omega) fun vo w1 hS => ?_)
 rw [Nat.zero_add, List.nil_append] at hS
 replace hS : St w (fun _ => False) w1 [cel b2 (u4 x) 24, rowR vo d] := hS
 obtain ⟨ao, co, rfl⟩ := hS.rlen 1 rfl
 refine gW ?_
 refine g_lm rfl rfl (hS.b 0 rfl) (Nat.le_of_eq lx.symm) ?_
 rw [ldx]
 refine gW ?_
 refine g_cl rfl rfl (b_LoadT hx hxb (by omega) (hg.in hS) (Ow.rd (hS.ok 1 _ rfl)) (fun hl w1 h' => ?_) (fun hl bT bm Y w1 hY h' => ?_))
 all_goals
  replace hS := hS.call0.2 _ _ h'
  clear h'
  refine gW ?_
  refine g_lm rfl rfl (hS.b 0 rfl) (Nat.le_of_eq lx.symm) ?_
  rw [ldx]
  refine gW ?_
  refine g_cl rfl rfl (r_LoadT hx hxb (by omega) (hrr hS) (fun hl2 w1 h' => ?_) (fun hl2 bX vL Z w1 hZ h' => ?_))
 rotate_left
 ·exact absurd hl2 hl
 ·exact absurd hl hl2
 all_goals
  replace hS := hS.call0.2 _ _ h'
  clear h'
 rotate_left
 ·rw [List.append_nil, List.append_nil] at hS
  refine gW ?_
  rw [cmv_neq]
  refine gW ?_
  refine g_cl rfl rfl (r_SameR rfl rfl (by omega) (by omega) (Ow.rd (hS.ok 1 _ rfl)) (hrr hS) fun q hq w1 h' => ?_)
  rw [hq.2 rfl]
  replace hS := hS.call0.2 _ _ h'
  rw [List.append_nil] at hS
  clear h' hq
  refine gW ?_
  refine g_atx (ι := Unit) 2 (fun _ => [(9, .int .i64 210)]) (fun _ w' => St w (fun _ => False) w' []) rfl ?_ ?_
  ·refine g_lp (ι := Nat × List Value) (fun y => [(5, .slice ao d.length co), (9, .int .i64 210), (45, .int .i64 d.length), (46, .int .i64 y.1)]) (fun y w' => y.1 ≤ d.length ∧ St w (fun _ => False) w' [cel b2 (u4 x) 24, row (.slice ao d.length co) 40 52 d.length y.2]) (fun y => d.length - y.1) (0, fl rc d) ⟨rfl, rfl, rfl, rfl, trivial⟩ ⟨Nat.zero_le _, hS⟩ ?_
   clear hS
   rintro ⟨k, xs⟩ w1 ⟨hk, hS⟩
   dsimp only at hk hS ⊢
   refine gW ?_
   (generalize hlt : cmv _ _ _ = q; cases q <;> simp only [cmv, arv, Bool.not_eq_true', Bool.not_eq_false', decide_eq_true_eq, decide_eq_false_iff_not] at hlt <;> first | (exfalso; omega) | skip)
   ·refine gW ?_
    exact g_jx () ⟨rfl, trivial⟩ (hS.sel [] rfl rfl)
   obtain ⟨b, cap, rest, e, hcap, hl, hS⟩ := hS.open_row 1 rfl (hS.rowb 1 rfl (by omega))
   cases e
   have hbd : (k + 1) * 52 ≤ co * 52 := Nat.mul_le_mul_right 52 (by omega)
   have hbd2 : d.length * 52 ≤ co * 52 := Nat.mul_le_mul_right 52 hcap
   refine gW ?_
   refine g_rq rfl rfl ⟨by omega, by omega⟩ ?_
   refine gW ?_
   refine g_ef0 rfl (ef_st (u := .string ⟨#[120]⟩) hS 1 rfl rfl rfl rfl (by rw [hl, Int.toNat_natCast]; show 0 + k * 52 + 18 + 1 ≤ _; omega) rfl fun w1 hS => ?_)
   rw [Int.toNat_natCast] at hS
   have hl2 : (spl (xs ++ rest) (0 + k * 52 + 18) [.string ⟨#[120]⟩]).length = co * 52 := by rw [spl_length (by rw [hl]; show 0 + k * 52 + 18 + 1 ≤ _; omega), hl]
   replace hS := hS.close_row (n := d.length) (cap := co) (sz := 52) (xs := (spl (xs ++ rest) (0 + k * 52 + 18) [.string ⟨#[120]⟩]).take (d.length * 52)) 1 rfl hcap (by rw [List.length_take, hl2]; omega) (List.take_prefix _ _) hl2
   refine gW ?_
   refine g_rq rfl rfl (in64 (by simp only [arv]; omega)) ?_
   refine gW ?_
   exact g_l (k + 1, _) ⟨rfl, rfl, rfl, rfl, trivial⟩ ⟨by simp only; omega, hS⟩ (by simp only; omega)
  clear hS
  rintro _ T w1 hT hS
  refine g_wkc hT ?_
  refine gW ?_
  exact g_ret (q_1 rfl (h _ hS))
 ·replace hS : St w (fun _ => False) w1 ([cel b2 (u4 x) 24, rowR (.slice ao d.length co) d] ++ (TabR bT bm x Y ++ TabX bX vL x Z)) := hS
  refine gW ?_
  rw [cmv_neq]
  refine gW ?_
  refine g_cl rfl rfl (r_SameR rfl rfl (by omega) (by omega) (Ow.rd (hS.ok 1 _ rfl)) (hrr hS) fun q hq w1 h' => ?_)
  rw [hq.2 rfl]
  replace hS := hS.call0.2 _ _ h'
  rw [List.append_nil] at hS
  clear h' hq
  refine gW ?_
  refine g_atx (ι := Unit) 2 (fun _ => [(6, dp bT), (8, dp bX), (9, .int .i64 0)]) (fun _ w' => St w (fun _ => False) w' (TabR bT bm x Y ++ TabX bX vL x Z)) rfl ?_ ?_
  ·refine g_lp (ι := Nat × List Value) (fun y => [(5, .slice ao d.length co), (6, dp bT), (8, dp bX), (9, .int .i64 0), (45, .int .i64 d.length), (46, .int .i64 y.1)]) (fun y w' => y.1 ≤ d.length ∧ St w (fun _ => False) w' ([cel b2 (u4 x) 24, row (.slice ao d.length co) 40 52 d.length y.2] ++ (TabR bT bm x Y ++ TabX bX vL x Z))) (fun y => d.length - y.1) (0, fl rc d) ⟨rfl, rfl, rfl, rfl, rfl, rfl, trivial⟩ ⟨Nat.zero_le _, hS⟩ ?_
   clear hS
   rintro ⟨k, xs⟩ w1 ⟨hk, hS⟩
   dsimp only at hk hS ⊢
   refine gW ?_
   (generalize hlt : cmv _ _ _ = q; cases q <;> simp only [cmv, arv, Bool.not_eq_true', Bool.not_eq_false', decide_eq_true_eq, decide_eq_false_iff_not] at hlt <;> first | (exfalso; omega) | skip)
   ·refine gW ?_
    exact g_jx () ⟨rfl, rfl, rfl, trivial⟩ (hS.sel [2, 3, 4, 5, 6, 7] rfl rfl)
   obtain ⟨b, cap, rest, e, hcap, hl, hS⟩ := hS.open_row 1 rfl (hS.rowb 1 rfl (by omega))
   cases e
   have hbd : (k + 1) * 52 ≤ co * 52 := Nat.mul_le_mul_right 52 (by omega)
   have hbd2 : d.length * 52 ≤ co * 52 := Nat.mul_le_mul_right 52 hcap
   refine gW ?_
   refine g_rq rfl rfl ⟨by omega, by omega⟩ ?_
   refine gW ?_
   refine g_ef0 rfl (ef_st (u := .string ⟨#[120]⟩) hS 1 rfl rfl rfl rfl (by rw [hl, Int.toNat_natCast]; show 0 + k * 52 + 18 + 1 ≤ _; omega) rfl fun w1 hS => ?_)
   rw [Int.toNat_natCast] at hS
   have hl2 : (spl (xs ++ rest) (0 + k * 52 + 18) [.string ⟨#[120]⟩]).length = co * 52 := by rw [spl_length (by rw [hl]; show 0 + k * 52 + 18 + 1 ≤ _; omega), hl]
   replace hS := hS.close_row (n := d.length) (cap := co) (sz := 52) (xs := (spl (xs ++ rest) (0 + k * 52 + 18) [.string ⟨#[120]⟩]).take (d.length * 52)) 1 rfl hcap (by rw [List.length_take, hl2]; omega) (List.take_prefix _ _) hl2
   refine gW ?_
   refine g_rq rfl rfl (in64 (by simp only [arv]; omega)) ?_
   refine gW ?_
   exact g_l (k + 1, _) ⟨rfl, rfl, rfl, rfl, rfl, rfl, trivial⟩ ⟨by simp only; omega, hS⟩ (by simp only; omega)
  clear hS
  rintro _ T w1 hT hS
  refine g_wkc hT ?_
  have hv := TabV.of hS
  have hw : TabW bX vL x Z w1 := ⟨⟨_, (hS.b 3 rfl).r⟩, ⟨_, Ow.rd (hS.ok 4 _ rfl)⟩, sb_v hS (i := 5) rfl⟩
  refine gW ?_
  refine g_cl rfl rfl (b_sameT (hg.in hS) (tab_ok hl.1 hY (by omega)) (tab_ok hl.1 hZ (by omega)) (hY.trans hZ.symm) hv hw hx fun w2 h' => ?_)
  replace hS := hS.call0.2 _ _ h'
  refine gW ?_
  exact g_ret (q_1 rfl (h _ (hS.sel [] rfl rfl)))
end
open Go.En Go.ChangeShapes Go.WideShapes Go.Deep
theorem rng_i64 {n : Int} (h : (Lit.int .i64 n).wf = true) : -9223372036854775808 ≤ n ∧ n ≤ 9223372036854775807 := by
 simp only [Lit.wf, Bool.and_eq_true, decide_eq_true_eq] at h
 have h1 : IntKind.i64.min = -9223372036854775808 := by decide
 have h2 : IntKind.i64.max = 9223372036854775807 := by decide
 rw [h1, h2] at h
 exact h
theorem rng_u32 {n : Int} (h : (Lit.int .u32 n).wf = true) : 0 ≤ n ∧ n < 4294967296 := by
 simp only [Lit.wf, Bool.and_eq_true, decide_eq_true_eq] at h
 have h1 : IntKind.u32.min = 0 := by decide
 have h2 : IntKind.u32.max = 4294967295 := by decide
 rw [h1, h2] at h
 omega
theorem toN32 {k : Int} (h : 0 ≤ k) (h' : k < 4294967296) : k.toNat < 4294967296 := by
 have := Int.toNat_of_nonneg h
 omega
section
variable {H : Type} {enc : TypeId × Value → H} {W : World}
theorem u4_of {fuel t n : Nat} {cs : List Value} {x : DataW H × List MemPlace} (ht : Tryz.prog.underlying t = some (.array n 22)) (hct : Tryz.prog.cellsOf t = n) (h : DataW.trod enc Tryz.prog W 0 (fun _ => true) true fuel t cs = some x) :
  ∃ l : List Nat, l.length = n ∧ (∀ y ∈ l, y < 4294967296) ∧ cs = u4 l := by
 obtain ⟨xs, m, _, _, hcl, hxl, hi⟩ := DataW.trod_array ht h
 have hc : Tryz.prog.cellsOf 22 = 1 := by kernel_rfl
 rw [hct] at hcl
 have hget : ∀ i (hi : i < cs.length), ∃ k : Int, cs[i] = .int .u32 k ∧ 0 ≤ k ∧ k < 4294967296 := by
  intro i hl
  have h1 := hi i (by omega)
  have h2 : i < xs.length := by omega
  rw [List.getElem?_eq_getElem h2] at h1
  obtain ⟨k, hk, _, hw⟩ := DataW.trod_int Tryz.underlying22 h1
  rw [hc, Nat.mul_one] at hk
  refine ⟨k, ?_, rng_u32 hw⟩
  have h3 := congrArg (fun l : List Value => l[0]?) hk
  simp only [List.getElem?_take, List.getElem?_drop, Nat.add_zero] at h3
  rw [if_pos (by omega), List.getElem?_eq_getElem hl] at h3
  simpa using h3
 refine ⟨cs.map fun v => match v with | .int _ k => k.toNat | _ => 0, by rw [List.length_map, hcl], fun y hy => ?_, ?_⟩
 ·obtain ⟨v, hv, rfl⟩ := List.mem_map.1 hy
  obtain ⟨i, hi', rfl⟩ := List.mem_iff_getElem.1 hv
  obtain ⟨k, hk, k0, k1⟩ := hget i hi'
  rw [hk]
  have e : (match Value.int .u32 k with | .int _ k => k.toNat | _ => 0) = k.toNat := rfl
  rw [e]
  exact toN32 k0 k1
 ·refine List.ext_getElem (by simp [u4]) fun i h1 h2 => ?_
  obtain ⟨k, hk, k0, k1⟩ := hget i h1
  simp only [u4, List.getElem_map, hk]
  rw [Int.toNat_of_nonneg k0]
theorem dot_of {fuel : Nat} {cs : List Value} {x : DataW H × List MemPlace} (h : DataW.trod enc Tryz.prog W 0 (fun _ => true) true fuel 36 cs = some x) :
  ∃ a b : Int, cs = dc a b ∧ (-9223372036854775808 ≤ a ∧ a ≤ 9223372036854775807) ∧ (-9223372036854775808 ≤ b ∧ b ≤ 9223372036854775807) := by
 obtain ⟨xs, n, _, _, hlen, hxl, hf⟩ := DataW.trod_struct Tryz.underlying36 h
 have c2 : Tryz.prog.cellsOf 36 = 2 := by kernel_rfl
 have c1 : Tryz.prog.cellsOf 3 = 1 := by kernel_rfl
 rw [c2] at hlen
 have h0 : DataW.trod enc Tryz.prog W 0 (fun _ => true) true n 3 (List.take (Tryz.prog.cellsOf 3) (List.drop 0 cs)) = xs[0]? := hf 0 _ rfl
 have h1 : DataW.trod enc Tryz.prog W 0 (fun _ => true) true n 3 (List.take (Tryz.prog.cellsOf 3) (List.drop 1 cs)) = xs[1]? := hf 1 _ rfl
 have hx : xs.length = 2 := hxl
 rw [List.getElem?_eq_getElem (by omega)] at h0 h1
 rw [c1] at h0 h1
 obtain ⟨a, ha, _, wa⟩ := DataW.trod_int Tryz.underlying3 h0
 obtain ⟨b, hb, _, wb⟩ := DataW.trod_int Tryz.underlying3 h1
 refine ⟨a, b, ?_, rng_i64 wa, rng_i64 wb⟩
 have e : cs = (cs.drop 0).take 1 ++ (cs.drop 1).take 1 := by
  rw [List.drop_zero, List.take_of_length_le (l := cs.drop 1) (by rw [List.length_drop]; omega), List.take_append_drop]
 rw [e, ha, hb]
 rfl
set_option maxRecDepth 100000 in
theorem rec_of {fuel : Nat} {cs : List Value} {x : DataW H × List MemPlace} (h : DataW.trod enc Tryz.prog W 0 (fun _ => true) true fuel 40 cs = some x) : ∃ o : Rec, cs = rc o ∧ True := by
 obtain ⟨xs, n, _, _, hlen, hxl, hf⟩ := DataW.trod_struct Tryz.underlying40 h
 have c52 : Tryz.prog.cellsOf 40 = 52 := by kernel_rfl
 have cd : Tryz.prog.cellsOf 36 = 2 := by kernel_rfl
 have cx : Tryz.prog.cellsOf 24 = 16 := by kernel_rfl
 have cst : Tryz.prog.cellsOf 9 = 1 := by kernel_rfl
 have cb : Tryz.prog.cellsOf 4 = 1 := by kernel_rfl
 have ci : Tryz.prog.cellsOf 38 = 32 := by kernel_rfl
 rw [c52] at hlen
 have h0 : DataW.trod enc Tryz.prog W 0 (fun _ => true) true n 36 (List.take (Tryz.prog.cellsOf 36) (List.drop 0 cs)) = xs[0]? := hf 0 _ rfl
 have h1 : DataW.trod enc Tryz.prog W 0 (fun _ => true) true n 24 (List.take (Tryz.prog.cellsOf 24) (List.drop 2 cs)) = xs[1]? := hf 1 _ rfl
 have h2 : DataW.trod enc Tryz.prog W 0 (fun _ => true) true n 9 (List.take (Tryz.prog.cellsOf 9) (List.drop 18 cs)) = xs[2]? := hf 2 _ rfl
 have h3 : DataW.trod enc Tryz.prog W 0 (fun _ => true) true n 4 (List.take (Tryz.prog.cellsOf 4) (List.drop 19 cs)) = xs[3]? := hf 3 _ rfl
 have h4 : DataW.trod enc Tryz.prog W 0 (fun _ => true) true n 38 (List.take (Tryz.prog.cellsOf 38) (List.drop 20 cs)) = xs[4]? := hf 4 _ rfl
 have hx : xs.length = 5 := hxl
 rw [List.getElem?_eq_getElem (by omega)] at h0 h1 h2 h3 h4
 rw [cd] at h0
 rw [cx] at h1
 rw [cst] at h2
 rw [cb] at h3
 rw [ci] at h4
 obtain ⟨a, b, e0, ba, bb⟩ := dot_of h0
 obtain ⟨l, ll, lb, e1⟩ := u4_of Tryz.underlying24 cx h1
 obtain ⟨s, e2, _⟩ := DataW.trod_string Tryz.underlying9 h2
 obtain ⟨q, e3, _⟩ := DataW.trod_bool Tryz.underlying4 h3
 obtain ⟨t, tl, e4⟩ := bytes_of Tryz.underlying38 Tryz.underlying5 (by kernel_rfl) (by kernel_rfl) h4
 refine ⟨⟨a, b, l, s.data.toList, q, t, ll, tl, lb, ba, bb⟩, ?_, trivial⟩
 have k : ∀ (i m : Nat), cs.drop i = (cs.drop i).take m ++ cs.drop (i + m) := fun i m => by rw [← List.drop_drop, List.take_append_drop]
 have e : cs = (cs.drop 0).take 2 ++ ((cs.drop 2).take 16 ++ ((cs.drop 18).take 1 ++ ((cs.drop 19).take 1 ++ (cs.drop 20).take 32))) := by
  have e5 : (cs.drop 20).take 32 = cs.drop 20 := List.take_of_length_le (by rw [List.length_drop]; omega)
  rw [e5, ← k 19 1, ← k 18 1, ← k 2 16, ← k 0 2, List.drop_zero]
 rw [e, e0, e1, e2, e3, e4]
 show _ = rc _
 unfold rc
 simp only [sv_of]
 rfl
theorem recs_of {v : Value} {d : DataW H} {p : List MemPlace} (hv : ∃ a n c, v = .slice a n c) (h : DataW.Trod enc Tryz.prog W 0 (fun _ => true) true 25 v d p) : ∃ E n os, os.length = n ∧ n ≤ 9223372036854775807 ∧ Rd v E 52 n (fl rc os) W := by
 obtain ⟨E, n, os, h1, h2, h3, _⟩ := slice_of (R := fun _ => True) Tryz.underlying25 (by kernel_rfl) (by decide) default rc_len rec_of hv h
 exact ⟨E, n, os, h1, h2, h3⟩
set_option maxRecDepth 100000 in
theorem vec_of {base : Nat} {v : Value} {d : DataW H} {p : List MemPlace} (hv : Value.okWide Tryz.prog W .any base 24 v) (h : DataW.Trod enc Tryz.prog W 0 (fun _ => true) true 24 v d p) : ∃ x : List Nat, x.length = 16 ∧ (∀ y ∈ x, y < 4294967296) ∧ v = .agg ⟨u4 x⟩ := by
 obtain ⟨cs, rfl⟩ : ∃ cs, v = .agg cs := by
  simp only [Value.okWide, Tryz.underlying24] at hv
  obtain ⟨cs, h1, _⟩ := hv
  exact ⟨cs, h1⟩
 obtain ⟨fuel, hf⟩ := h
 obtain ⟨l, ll, lb, e⟩ := u4_of Tryz.underlying24 (by kernel_rfl) hf
 refine ⟨l, ll, lb, ?_⟩
 have e2 : cs.toList = u4 l := e
 rw [← e2]
set_option maxRecDepth 10000 in
theorem gl_of (h : W.ShapedOpen Tryz.prog) : Gl W :=
 Go.Proofs.cell_of_shapedOpen_int (zero := #[.int .i64 0]) (t := 3) h (of_decide_eq_true (by kernel_rfl)) (by kernel_rfl) rfl (by kernel_rfl) (by kernel_rfl) Tryz.underlying3
end
end Go.Proofs.YtfffdhafbbbpcaaGreatDoor
namespace Go.Proofs.YtfffdhafbbbpcaaGreatDoor.tableLoads
open Go.ChangeShapes Go.WideShapes Go.ChangeAt Go.RowKit Go.ChangeMaps Go.Proofs.YtfffdhafbbbpcaaGreatDoor
theorem own : ownKnob Tryz.prog.godebug = none := by kernel_rfl
theorem laidOut : laidOutB Tryz.prog = true := by kernel_rfl
set_option maxRecDepth 100000 in
theorem contract (H : Type) (enc : TypeId × Value → H) (W : World) (base : Nat) (args : Array Value) (ds gs : List (DataW H)) (before : List MemPlace)
  (hval0 : ∀ (j : Nat) t v, Tryz.f3.params[j]? = some t → args[j]? = some v → Value.okWide Tryz.prog W .any base t v)
  (hW : DataW.Whole enc Tryz.prog Tryz.f3.params.toList Rows.tableLoadsSpec.vars false W args.toList ds gs before) (hsh : W.ShapedOpen Tryz.prog) :
  Calls Tryz.prog 3 args W fun e W' => ∃ v, e = .returned v ∧ Rows.tableLoadsSpec.post enc Tryz.prog Tryz.f3 false true false false W args v W' := by
 have hval : ∀ (j : Nat) t v, Tryz.f3.params[j]? = some t → args[j]? = some v → Value.okWide Tryz.prog W .any base t v := hval0
 have hW' := hW
 obtain ⟨p, q, hA0, hV, rfl, hfz, hnd⟩ := hW
 have hA : DataW.TrodAll enc Tryz.prog W 0 (fun _ => true) true Tryz.f3.params.toList args.toList ds p := hA0
 rw [Tryz.params3] at hA hval
 obtain ⟨v0, vs0, d0, ds0, p0, q0, hargs, rfl, rfl, h0, r0⟩ := trodAll_cons hA
 obtain ⟨v1, vs1, d1, ds1, p1, q1, rfl, rfl, rfl, h1, r1⟩ := trodAll_cons r0
 obtain ⟨rfl, rfl, rfl⟩ := trodAll_nil r1
 obtain rfl : args = #[v0, v1] := by cases args; simp_all
 obtain ⟨rfl, rfl⟩ := trodVars_none hV
 have k0 := h0
 have lt0 : ∀ x ∈ p0, x.block < W.heap.size := by obtain ⟨m, hm⟩ := k0; exact DataW.trod_lt m _ _ _ hm
 obtain ⟨x0, hl0, hx0, rfl⟩ := vec_of (hval 0 24 v0 rfl rfl) h0
 have k1 := h1
 have lt1 : ∀ x ∈ p1, x.block < W.heap.size := by obtain ⟨m, hm⟩ := k1; exact DataW.trod_lt m _ _ _ hm
 obtain ⟨a1, len1, cap1, rfl⟩ := okWide_slice Tryz.underlying25 (hval 1 25 v1 rfl rfl)
 obtain ⟨E1, n1, x1, hd1, hn1, hr1⟩ := recs_of ⟨_, _, _, rfl⟩ h1
 clear hA0 hval0
 have hcall : En.CK Tryz.prog 3 [.agg ⟨u4 x0⟩, .slice a1 len1 cap1] W (fun v w' => v = .bool true ∧ En.Fr W (fun _ => False) w') := b_TableLoads (gl_of hsh) hl0 hx0 hd1 hn1 hr1 fun w' hS => ⟨rfl, hS.fr⟩
 refine Calls.mono hcall ?_
 rintro e W' ⟨v, rfl, rfl, hfr⟩
 have bel := En.below_of hfr
 exact ⟨_, rfl, _, _, _, [], _, [], hW', trodAll_mk1 (shut_bool Tryz.underlying4 _), (trodAll_cons_mk (Below.trod laidOut (by kernel_rfl) (of_decide_eq_true (by kernel_rfl)) k0 bel lt0) (trodAll_cons_mk (Below.trod laidOut (by kernel_rfl) (of_decide_eq_true (by kernel_rfl)) k1 bel lt1) trodAll_mk0)), rfl, bel.frame _, fun h => by cases h⟩
def putFirst : Go.Obj → Go.Obj
 | .cells _ t frozen => .cells #[.int .u8 240, .int .u8 240, .int .u8 240, .int .u8 240, .int .u8 240, .int .u8 240, .int .u8 240, .int .u8 240, .int .u8 240, .int .u8 240, .int .u8 240, .int .u8 240, .int .u8 240, .int .u8 240, .int .u8 240, .int .u8 240, .int .u8 240, .int .u8 240, .int .u8 240, .int .u8 240, .int .u8 240, .int .u8 240, .int .u8 240, .int .u8 240, .int .u8 240, .int .u8 240, .int .u8 240, .int .u8 240, .int .u8 240, .int .u8 240, .int .u8 240, .int .u8 240, .int .u8 240, .int .u8 240, .int .u8 240, .int .u8 240, .int .u8 240, .int .u8 240, .int .u8 240, .int .u8 240, .int .u8 240, .int .u8 240, .int .u8 240, .int .u8 240, .int .u8 240, .int .u8 240, .int .u8 240, .int .u8 240, .int .u8 240, .int .u8 240, .int .u8 240, .int .u8 240, .int .u8 240, .int .u8 240, .int .u8 240, .int .u8 240, .int .u8 240, .int .u8 240, .int .u8 240, .int .u8 240, .int .u8 240, .int .u8 240, .int .u8 240, .int .u8 240, .int .u8 240, .int .u8 240, .int .u8 240, .int .u8 240, .int .u8 240, .int .u8 240, .int .u8 240, .int .u8 240, .int .u8 240, .int .u8 240, .int .u8 240, .int .u8 240, .int .u8 240, .int .u8 240, .int .u8 240, .int .u8 240, .int .u8 240, .int .u8 240, .int .u8 240, .int .u8 240, .int .u8 240, .int .u8 240, .int .u8 240, .int .u8 240, .int .u8 240, .int .u8 240, .int .u8 240, .int .u8 240, .int .u8 240, .int .u8 240, .int .u8 240, .int .u8 240, .int .u8 240, .int .u8 240, .int .u8 240, .int .u8 240, .int .u8 240, .int .u8 240, .int .u8 240, .int .u8 240, .int .u8 240, .int .u8 240, .int .u8 240, .int .u8 240, .int .u8 240, .int .u8 240, .int .u8 240, .int .u8 240, .int .u8 240, .int .u8 240, .int .u8 240, .int .u8 240, .int .u8 240, .int .u8 240, .int .u8 240, .int .u8 240, .int .u8 240, .int .u8 240, .int .u8 240, .int .u8 240, .int .u8 240, .int .u8 240, .int .u8 240, .int .u8 240, .int .u8 241, .int .u8 241, .int .u8 241, .int .u8 241, .int .u8 241, .int .u8 241, .int .u8 241, .int .u8 241, .int .u8 241, .int .u8 241, .int .u8 241, .int .u8 241, .int .u8 241, .int .u8 241, .int .u8 241, .int .u8 241, .int .u8 241, .int .u8 241, .int .u8 241, .int .u8 241, .int .u8 241, .int .u8 241, .int .u8 241, .int .u8 241, .int .u8 241, .int .u8 241, .int .u8 241, .int .u8 241, .int .u8 241, .int .u8 241, .int .u8 241, .int .u8 241, .int .u8 241, .int .u8 241, .int .u8 241, .int .u8 241, .int .u8 241, .int .u8 241, .int .u8 241, .int .u8 241, .int .u8 241, .int .u8 241, .int .u8 241, .int .u8 241, .int .u8 241, .int .u8 241, .int .u8 241, .int .u8 241, .int .u8 241, .int .u8 241, .int .u8 241, .int .u8 241, .int .u8 241, .int .u8 241, .int .u8 241, .int .u8 241, .int .u8 241, .int .u8 241, .int .u8 241, .int .u8 241, .int .u8 241, .int .u8 241, .int .u8 241, .int .u8 241, .int .u8 241, .int .u8 241, .int .u8 2, .int .u8 2, .int .u8 2, .int .u8 2, .int .u8 2, .int .u8 2, .int .u8 2, .int .u8 2, .int .u8 2, .int .u8 2, .int .u8 2, .int .u8 2, .int .u8 2, .int .u8 2, .int .u8 2, .int .u8 2, .int .u8 2, .int .u8 2, .int .u8 2, .int .u8 2, .int .u8 2, .int .u8 2, .int .u8 2, .int .u8 2, .int .u8 2, .int .u8 2, .int .u8 2, .int .u8 2, .int .u8 2, .int .u8 2, .int .u8 19, .int .u8 3, .int .u8 3, .int .u8 3, .int .u8 3, .int .u8 3, .int .u8 3, .int .u8 3, .int .u8 3, .int .u8 3, .int .u8 3, .int .u8 3, .int .u8 3, .int .u8 35, .int .u8 3, .int .u8 3, .int .u8 52, .int .u8 4, .int .u8 4, .int .u8 4, .int .u8 68, .int .u8 241, .int .u8 241, .int .u8 241, .int .u8 241, .int .u8 241, .int .u8 241, .int .u8 241, .int .u8 241, .int .u8 241, .int .u8 241, .int .u8 241] t frozen
 | o => o
def putAcc : Go.Obj → Go.Obj
 | .cells _ t frozen => .cells #[.int .u8 128, .int .u8 191, .int .u8 160, .int .u8 191, .int .u8 128, .int .u8 159, .int .u8 144, .int .u8 191, .int .u8 128, .int .u8 143, .int .u8 0, .int .u8 0, .int .u8 0, .int .u8 0, .int .u8 0, .int .u8 0, .int .u8 0, .int .u8 0, .int .u8 0, .int .u8 0, .int .u8 0, .int .u8 0, .int .u8 0, .int .u8 0, .int .u8 0, .int .u8 0, .int .u8 0, .int .u8 0, .int .u8 0, .int .u8 0, .int .u8 0, .int .u8 0] t frozen
 | o => o
noncomputable def laidWorld (os : Os) : World :=
 { World.holding Tryz.prog os ⟨#[], #[], []⟩ with heap := ((World.holding Tryz.prog os ⟨#[], #[], []⟩).heap.modify 1 putFirst).modify 2 putAcc }
theorem laid_met (os : Os) : laidMet Tryz.prog Rows.tableLoadsRow.laid ((laidWorld os).forCall (fun _ _ => 0) ⟨#[], #[.agg #[.int .u32 0, .int .u32 0, .int .u32 0, .int .u32 0, .int .u32 0, .int .u32 0, .int .u32 0, .int .u32 0, .int .u32 0, .int .u32 0, .int .u32 0, .int .u32 0, .int .u32 0, .int .u32 0, .int .u32 0, .int .u32 0], .slice none 0 0], []⟩).memory :=
 laidMet_of_run' 8 (by kernel_rfl) (by kernel_rfl)
theorem reads (os : Os) {H : Type} (enc : TypeId × Value → H) : ∃ places, DataW.whole enc Tryz.prog ((laidWorld os).forCall (fun _ _ => 0) ⟨#[], #[.agg #[.int .u32 0, .int .u32 0, .int .u32 0, .int .u32 0, .int .u32 0, .int .u32 0, .int .u32 0, .int .u32 0, .int .u32 0, .int .u32 0, .int .u32 0, .int .u32 0, .int .u32 0, .int .u32 0, .int .u32 0, .int .u32 0], .slice none 0 0], []⟩).memory Tryz.f3.params.toList Rows.tableLoadsSpec.vars false (#[.agg #[.int .u32 0, .int .u32 0, .int .u32 0, .int .u32 0, .int .u32 0, .int .u32 0, .int .u32 0, .int .u32 0, .int .u32 0, .int .u32 0, .int .u32 0, .int .u32 0, .int .u32 0, .int .u32 0, .int .u32 0, .int .u32 0], .slice none 0 0] : Array Value).toList 8 = some ([.agg [.lit (.int .u32 0), .lit (.int .u32 0), .lit (.int .u32 0), .lit (.int .u32 0), .lit (.int .u32 0), .lit (.int .u32 0), .lit (.int .u32 0), .lit (.int .u32 0), .lit (.int .u32 0), .lit (.int .u32 0), .lit (.int .u32 0), .lit (.int .u32 0), .lit (.int .u32 0), .lit (.int .u32 0), .lit (.int .u32 0), .lit (.int .u32 0)], .nil], [], places) :=
 ⟨[], by kernel_rfl⟩
set_option maxRecDepth 100000 in
theorem lifted (os : Os) (started : os.Started) (H : Type) (enc : TypeId × Value → H) (F : Stop.Interp) :
  ReturnsInHanded {} Tryz.checked os 3 .any ((OpenSpec.ofChange Rows.tableLoadsSpec).preRow enc Tryz.prog Tryz.f3 Rows.tableLoadsRow.domain false Rows.tableLoadsRow.laid) (((OpenSpec.ofChange Rows.tableLoadsSpec).at F).post enc Tryz.prog Tryz.f3 false true false false) := by
 obtain ⟨places, hx⟩ := reads os enc
 refine returnsInHanded_of_row (C := Tryz.checked) (s := (OpenSpec.ofChange Rows.tableLoadsSpec)) own started (by kernel_rfl) Tryz.func3
  (witness_row_at (enc := enc) (C := Tryz.checked) false (laidWorld os) #[.agg #[.int .u32 0, .int .u32 0, .int .u32 0, .int .u32 0, .int .u32 0, .int .u32 0, .int .u32 0, .int .u32 0, .int .u32 0, .int .u32 0, .int .u32 0, .int .u32 0, .int .u32 0, .int .u32 0, .int .u32 0, .int .u32 0], .slice none 0 0] rfl (by kernel_rfl) (by kernel_rfl) (by kernel_rfl)
   (OpenSpec.preRow_of_cond 8 hx (by kernel_rfl) (fun k hk => by cases hk) (by kernel_rfl) (laid_met os))) ?_
 intro W base args ds gs before hval hW _ hcond _ _ hsh _
 exact contract H enc W base args ds gs before hval hW hsh
set_option maxHeartbeats 400000000 in
theorem said : Rows.TableLoadsSaid :=
 OpenClaim.holds_of_cond 3 Tryz.f3 rfl rfl rfl rfl rfl rfl rfl ⟨rfl, rfl, rfl, rfl, rfl⟩ rfl rfl rfl rfl rfl (by as_aux_lemma => kernel_rfl) Tryz.func3 (by as_aux_lemma => kernel_rfl)
  (by as_aux_lemma => exact of_decide_eq_true (by kernel_rfl)) (by as_aux_lemma => unfold Func.isWrapper; first | (rw [if_pos (by decide +kernel)]; kernel_rfl) | (rw [if_neg (by decide +kernel)]; exact ⟨rfl, rfl⟩))
  (by as_aux_lemma => exact fun os started H enc _ F => by rw [OpenClaim.pre_eq_preRow]; exact lifted os started H enc F)
theorem plain (f : FuncId) (fn : Func) (hf : Tryz.pinned.checked.prog.funcNamed "marshes/marsheslaw21.TableLoads" = some f) (hfn : Tryz.pinned.checked.prog.funcs[f]? = some fn) :
  true = Tryz.pinned.checked.prog.looks [] ∧ ∀ (j : Nat) t, fn.params[j]? = some t → Tryz.pinned.checked.prog.wantsStandIn t = false := by
 obtain rfl : f = 3 := Option.some.inj ((show Tryz.prog.funcNamed "marshes/marsheslaw21.TableLoads" = some 3 by kernel_rfl).symm.trans hf) |>.symm
 obtain rfl : fn = Tryz.f3 := (Option.some.inj (Tryz.func3.symm.trans hfn)).symm
 refine ⟨by kernel_rfl, fun j t ht => ?_⟩
 rw [Tryz.params3] at ht
 have hm : t ∈ [24, 25] := by simpa using Array.mem_of_getElem? ht
 have hall : (([24, 25] : List TypeId).all fun u => !Tryz.prog.wantsStandIn u) = true := by kernel_rfl
 exact (show Tryz.prog.wantsStandIn t = false by simpa using List.all_eq_true.1 hall t hm)
end Go.Proofs.YtfffdhafbbbpcaaGreatDoor.tableLoads
namespace Go.Proofs.YtfffdhafbbbpcaaGreatDoor
theorem tableLoads_card : Rows.TableLoadsCardSaid :=
 Claim7.holds_tied_plain_at .later [] _ _ _ _ tableLoads.said (fun _ h => by cases h) (by kernel_rfl) (fun _ h => by cases h) tableLoads_row_tie rfl ⟨rfl, rfl⟩ (by kernel_rfl) rfl tableLoads.plain (by kernel_rfl)
#print axioms tableLoads_card
end Go.Proofs.YtfffdhafbbbpcaaGreatDoor
