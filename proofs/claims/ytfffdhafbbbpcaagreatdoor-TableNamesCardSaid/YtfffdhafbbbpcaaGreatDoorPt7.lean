/- Nf2 Ra1 Rv1 Ra2 Rw1 Rw2 Qf0 Qh2 -/
import Derived.Test.YtfffdhafbbbpcaaGreatDoorPt6
import Derived.OwnWalk
import Derived.Test.YtfffdhafbbbpcaaGreatDoorChecked
import Derived.KernelRfl
set_option linter.unusedSimpArgs false
set_option linter.unusedVariables false
namespace Go.Proofs.YtfffdhafbbbpcaaGreatDoor
open Go.En
def zLi : ZZ := [(1, .string ⟨#[]⟩), (32, .int .u8 0)]
theorem info_li : (Tryz.prog.info? 59).map (fun i => (i.zero, i.size, i.bytes)) = some (some (.agg ⟨zx zLi⟩), 33, 48) := by kernel_rfl
section
variable {w w0 : World} {S0 : Nat → Prop} {L B : List Res} {K : Value → World → Prop} {s : Bs} {E0 E1 : Nat}
theorem c_Grow {n : Nat} (hn : n < 2000000) (h : ∀ v' w', St w (fun _ => False) w' [row v' 59 33 0 []] → K v' w') : CK Tryz.prog 127 [.slice none 0 0, .int .i64 n] w K := by
 by_cases h0 : n = 0
 ·subst h0
  refine (Any8.slices_Grow_room Tryz.growLi none 0 0 0 w (Nat.le_refl _) (by decide) (by decide) (Nat.le_refl _)).mono ?_
  rintro e w' ⟨rfl, rfl⟩
  exact ⟨_, rfl, h _ _ ((St.nil _ _).nilrow 59 33)⟩
 ·obtain ⟨i0, hi, hz0, hz1, hz2⟩ := info_parts info_li
  have lz : (zx zLi).length = 33 := by decide
  refine (Any8.slices_Grow_grow Tryz.growLi i0 _ hi hz0 (by omega) none 0 0 n [] w (Nat.le_refl _) (by omega) (by rw [hz2]; omega) (by omega) (by rw [Nat.zero_mul]; rfl) (fun _ => rfl) (fun a h => by cases h)).mono ?_
  rintro e w' ⟨rfl, rfl⟩
  refine ⟨_, rfl, h _ _ ?_⟩
  have hge := grownCap_ge w (0 + n) 0 59
  have e1 : ∀ k, Builtin.zeroCells (Value.agg ⟨zx zLi⟩).cells k = ⟨rep k zLi⟩ := fun k => run_zeros (z := ⟨zx zLi⟩) rfl k
  have lr : ∀ k, (rep k zLi).length = k * 33 := fun k => by
   unfold rep
   rw [flat_len (k := 33) (fun l hl => by rw [List.eq_of_mem_replicate hl]; exact lz), List.length_replicate]
  generalize hG : grownCap w (0 + n) 0 59 = G at hge
  have hS := (St.nil w (fun _ => False)).drew.alloc (rep (0 + n - 0) zLi ++ rep (G - (0 + n)) zLi) 59
  have hl : (rep (0 + n - 0) zLi ++ rep (G - (0 + n)) zLi).length = G * 33 := by
   rw [List.length_append, lr, lr]
   omega
  have e2 : (([] : List Value).toArray ++ Builtin.zeroCells (Value.agg ⟨zx zLi⟩).cells (0 + n - 0) ++ Builtin.zeroCells (Value.agg ⟨zx zLi⟩).cells (G - (0 + n)) : Array Value) = ⟨rep (0 + n - 0) zLi ++ rep (G - (0 + n)) zLi⟩ := by
   rw [e1, e1]
   simp
  have hG' : grownCap w (0 + n) 0 (Tryz.growLi_ren.t 25) = G := hG
  rw [hG', e2]
  exact hS.conv 0 rfl (fun b h => h) (.inr ⟨_, G, _, rfl, Nat.zero_le _, rfl, hl, hS.b 0 rfl⟩)
abbrev Lv1 := Value × List Li
def LvR (w : World) (p : Lv1) : Prop := ∃ E, Rd p.1 E 33 p.2.length (fl lc p.2) w
theorem LvR.in {p : Lv1} (h : LvR w0 p) (hS : St w0 (fun _ => False) w L) : LvR w p := by
 obtain ⟨E, h⟩ := h
 exact ⟨E, h.same fun b hb => hS.fr.kept b (h.lt b hb) (fun h => h)⟩
def flat (ps : List Lv1) : List Li := (ps.map (·.2)).flatten
theorem flat_app (p q : List Lv1) : flat (p ++ q) = flat p ++ flat q := by simp [flat]
theorem flat_one (p : Lv1) : flat [p] = p.2 := by simp [flat]
theorem flat_take (ps : List Lv1) (k : Nat) : (flat (ps.take k)).length ≤ (flat ps).length := by
 have := congrArg List.length (congrArg flat (List.take_append_drop k ps))
 rw [flat_app, List.length_append] at this
 omega
theorem rd_one {b off n c E k : Nat} {l : List Value} {ps : List Lv1} (hx : (l.drop off).take (n * 1) = ps.map (·.1)) (hn : ps.length = n) (hk : k < ps.length) : l[off + k * 1]? = some ps[k].1 := by
 have h1 := congrArg (fun l : List Value => l[k]?) hx
 simp only [List.getElem?_take, List.getElem?_drop, List.getElem?_map] at h1
 rw [if_pos (by omega), List.getElem?_eq_getElem hk] at h1
 rw [Nat.mul_one]
 simpa using h1
set_option maxHeartbeats 1000000 in
theorem b_Concat {v : Value} {n : Nat} {ps : List Lv1} (hd : ps.length = n) (hn : n < 2000000) (ht : (flat ps).length < 2000000) (hr : Rd v E0 1 n (ps.map (·.1)) w) (hp : ∀ p ∈ ps, LvR w p)
  (h : ∀ v' w', St w (fun _ => False) w' [row v' 59 33 (flat ps).length (fl lc (flat ps))] → K v' w') : CK Tryz.prog 91 [v] w K := by
 have hS := St.nil w (fun _ => False)
 have hrr : ∀ {L : List Res} (w' : World), St w (fun _ => False) w' L → Rd v E0 1 n (ps.map (·.1)) w' := fun w' hS => hr.same fun b hb => hS.fr.kept b (hr.lt b hb) (fun h => h)
 obtain ⟨a, c, rfl⟩ := hr.form
 refine call_k Tryz.func91 k91 Tryz.ntmps91 (Nat.le_of_ble_eq_true rfl) ?_
 refine gW ?_
 refine g_lp (ι := Nat) (fun k => [(0, .slice a n c), (3, .int .i64 (flat (ps.take k)).length), (9, .slice a n c), (10, .int .i64 n), (11, .int .i64 k)]) (fun k w' => k ≤ n ∧ St w (fun _ => False) w' []) (fun k => n - k) 0 ⟨rfl, rfl, rfl, rfl, rfl, trivial⟩ ⟨Nat.zero_le _, hS⟩ ?_
 clear hS
 rintro k w1 ⟨hk, hS⟩
 have hle := flat_take ps k
 refine gW ?_
 (refine g_cd rfl (fun hlt => ?_) (fun hlt => ?_) <;> simp only [cmv, arv, Bool.not_eq_true', Bool.not_eq_false', decide_eq_true_eq, decide_eq_false_iff_not] at hlt)
 ·have hlt : k < ps.length := by omega
  obtain ⟨b, off, cap, l, e1, hcap, hl, hx, hb⟩ := Rd.block (hrr _ hS) (by omega)
  cases e1
  refine gW ?_
  refine g_rq rfl rfl ⟨by omega, by omega⟩ ?_
  refine g_l1r rfl rfl hb (by rw [Int.toNat_natCast]; exact rd_one (b := b) (c := c) (E := E0) hx hd hlt) ?_
  have hst : flat (ps.take (k + 1)) = flat (ps.take k) ++ ps[k].2 := by rw [List.take_succ_eq_append_getElem hlt, flat_app, flat_one]
  have hle2 := flat_take ps (k + 1)
  obtain ⟨E, hpk⟩ := (hp _ (List.getElem_mem hlt)).in hS
  obtain ⟨a1, c1, e2⟩ := hpk.form
  rw [hst, List.length_append] at hle2
  rw [e2]
  refine gW ?_
  refine g_rq rfl rfl (in64 (by simp only [arv]; omega)) ?_
  refine gW ?_
  refine g_rq rfl rfl (in64 (by simp only [arv]; omega)) ?_
  refine gW ?_
  refine g_l (k + 1) ⟨rfl, ?_, rfl, rfl, rfl, trivial⟩ ⟨by omega, hS⟩ (by omega)
  show some (Value.int .i64 _) = some (Value.int .i64 _)
  congr 2
  rw [hst, List.length_append]
  simp only [arv]
  omega
 ·have ek : k = n := by omega
  subst ek
  rw [List.take_of_length_le (by omega)] at hle ⊢
  refine gW ?_
  refine g_cl rfl rfl (c_Grow ht fun v1 w1 h' => ?_)
  replace hS := hS.call0.2 _ _ h'
  replace hS : St w (fun _ => False) w1 [row v1 59 33 0 []] := hS
  refine gW ?_
  refine g_lp (ι := Nat × Value) (fun x => [(6, x.2), (25, .slice a k c), (26, .int .i64 k), (27, .int .i64 x.1)]) (fun x w' => x.1 ≤ k ∧ St w (fun _ => False) w' [row x.2 59 33 (flat (ps.take x.1)).length (fl lc (flat (ps.take x.1)))]) (fun x => k - x.1) (0, v1) ⟨rfl, rfl, rfl, rfl, trivial⟩ ⟨Nat.zero_le _, hS⟩ ?_
  clear hS
  rintro ⟨j, vo⟩ w1 ⟨hj, hS⟩
  dsimp only at hj hS ⊢
  refine gW ?_
  (refine g_cd rfl (fun hlt => ?_) (fun hlt => ?_) <;> simp only [cmv, arv, Bool.not_eq_true', Bool.not_eq_false', decide_eq_true_eq, decide_eq_false_iff_not] at hlt)
  ·have hlt : j < ps.length := by omega
   obtain ⟨b, off, cap, l, e1, hcap, hl, hx, hb⟩ := Rd.block (hrr _ hS) (by omega)
   cases e1
   refine gW ?_
   refine g_rq rfl rfl ⟨by omega, by omega⟩ ?_
   refine g_l1r rfl rfl hb (by rw [Int.toNat_natCast]; exact rd_one (b := b) (c := c) (E := E0) hx hd hlt) ?_
   have hst : flat (ps.take (j + 1)) = flat (ps.take j) ++ ps[j].2 := by rw [List.take_succ_eq_append_getElem hlt, flat_app, flat_one]
   have hle2 := flat_take ps (j + 1)
   rw [hst, List.length_append] at hle2
   obtain ⟨E, hpk⟩ := (hp _ (List.getElem_mem hlt)).in hS
   refine gW ?_
   refine g_ef rfl (ef_ap (bytes := 48) (n := (flat (ps.take j)).length) (m := ps[j].2.length) (ys := fl lc ps[j].2) hS 0 rfl rfl rfl (.inl ⟨E, hpk⟩) (fl_one lc_one _) (by omega) (by omega) fun v2 w1 hS => ?_)
   rw [← fl_app, ← List.length_append, ← hst] at hS
   refine gW ?_
   refine g_rq rfl rfl (in64 (by simp only [arv]; omega)) ?_
   refine gW ?_
   exact g_l (j + 1, v2) ⟨rfl, rfl, rfl, rfl, trivial⟩ ⟨by simp only; omega, hS⟩ (by simp only; omega)
  ·have ej : j = k := by omega
   subst ej
   rw [List.take_of_length_le (by omega)] at hS
   refine gW ?_
   exact g_ret (q_1 rfl (h _ _ hS))
end
def srtN (l : List Li) : List Li := srt (fun x : Li => x.1) l
theorem srtN_perm (l : List Li) : (srtN l).Perm l := srt_perm _ l
theorem srtN_sorted (l : List Li) : (srtN l).Pairwise fun x y => ble x.1 y.1 = true := srt_sorted _ l
theorem srtN_len (l : List Li) : (srtN l).length = l.length := srt_len _ l
theorem chk_nbr {d : List Li} (h : chk d = true) : d.Pairwise nbr := by
 unfold chk at h
 simp only [Bool.and_eq_true, decide_eq_true_eq] at h
 exact h.1
theorem nbr_inj {d : List Li} (h : d.Pairwise nbr) : ∀ x y, x ∈ d → y ∈ d → x.1 = y.1 → x = y := by
 intro x y hx hy e
 obtain ⟨i, hi, rfl⟩ := List.getElem_of_mem hx
 obtain ⟨j, hj, rfl⟩ := List.getElem_of_mem hy
 rw [List.pairwise_iff_getElem] at h
 rcases Nat.lt_trichotomy i j with hij | rfl | hij
 ·exact absurd e (h i j hi hj hij).2
 ·rfl
 ·exact absurd e.symm (h j i hj hi hij).2
theorem chk_srt {l d : List Li} (hp : d.Perm l) (hs : d.Pairwise fun x y => ble x.1 y.1 = true) : chk d = chk (srtN l) ∧ (chk d = true → d = srtN l) := by
 have key : chk d = true → d = srtN l := fun h => (sorted_unique (nbr_inj (chk_nbr h)) ((srtN_perm l).trans hp.symm) (srtN_sorted l) hs).symm
 refine ⟨?_, key⟩
 cases h1 : chk d
 ·cases h2 : chk (srtN l)
  ·rfl
  ·have := sorted_unique (nbr_inj (chk_nbr h2)) (hp.trans (srtN_perm l).symm) hs (srtN_sorted l)
   rw [this, h2] at h1
   cases h1
 ·rw [← key h1, h1]
def joinS (ls : List (List Li)) : Option (List Li) := if ls.all chk = true ∧ chk (srtN ls.flatten) = true then some (srtN ls.flatten) else none
def jnE (ls : List (List Li)) : Int := if (joinS ls).isSome then 0 else 200
def jnL (ls : List (List Li)) : List Li := (joinS ls).getD []
section
variable {w w0 : World} {S0 : Nat → Prop} {L B : List Res} {K : Value → World → Prop} {s : Bs} {E0 E1 : Nat}
theorem flat_mem {ps : List Lv1} {p : Lv1} (h : p ∈ ps) {x : Li} (hx : x ∈ p.2) : x ∈ flat ps := List.mem_flatten.2 ⟨p.2, List.mem_map.2 ⟨p, h, rfl⟩, hx⟩
theorem flat_len {ps : List Lv1} {p : Lv1} (h : p ∈ ps) : p.2.length ≤ (flat ps).length := by
 obtain ⟨a, b, rfl⟩ := List.append_of_mem h
 have : flat (a ++ p :: b) = flat a ++ (p.2 ++ flat b) := by simp [flat]
 rw [this, List.length_append, List.length_append]
 omega
set_option maxHeartbeats 1000000 in
theorem b_Join {v : Value} {n : Nat} {ps : List Lv1} (hd : ps.length = n) (hn : n < 2000000) (ht : (flat ps).length < 2000000) (hlen : ∀ x ∈ flat ps, x.1.length < 4294967281) (hg : Gl w) (hr : Rd v E0 1 n (ps.map (·.1)) w) (hp : ∀ p ∈ ps, LvR w p)
  (h : ∀ v' w', St w (fun _ => False) w' [row v' 59 33 (jnL (ps.map (·.2))).length (fl lc (jnL (ps.map (·.2))))] → K (.tuple ⟨[v', .int .i64 (jnE (ps.map (·.2)))]⟩) w') : CK Tryz.prog 51 [v] w K := by
 have hS := St.nil w (fun _ => False)
 have hrr : ∀ {L : List Res} (w' : World), St w (fun _ => False) w' L → Rd v E0 1 n (ps.map (·.1)) w' := fun w' hS => hr.same fun b hb => hS.fr.kept b (hr.lt b hb) (fun h => h)
 have bad : joinS (ps.map (·.2)) = none → ∀ w', St w (fun _ => False) w' [] → K (.tuple ⟨[.slice none 0 0, .int .i64 200]⟩) w' := fun e w' hS => by
  have e1 : jnE (ps.map (·.2)) = 200 := by unfold jnE; rw [e]; rfl
  have e2 : jnL (ps.map (·.2)) = [] := by unfold jnL; rw [e]; rfl
  rw [e1, e2] at h
  exact h _ _ (hS.nilrow 59 33)
 obtain ⟨a, c, rfl⟩ := hr.form
 refine call_k Tryz.func51 k51 Tryz.ntmps51 (Nat.le_of_ble_eq_true rfl) ?_
 refine gW ?_
 refine g_lp (ι := Nat) (fun k => [(0, .slice a n c), (9, .slice a n c), (10, .int .i64 n), (11, .int .i64 k)]) (fun k w' => k ≤ n ∧ (∀ j (hj : j < ps.length), j < k → chk ps[j].2 = true) ∧ St w (fun _ => False) w' []) (fun k => n - k) 0 ⟨rfl, rfl, rfl, rfl, trivial⟩ ⟨Nat.zero_le _, fun j _ h => absurd h (Nat.not_lt_zero j), hS⟩ ?_
 clear hS
 rintro k w1 ⟨hk, hC, hS⟩
 refine gW ?_
 (refine g_cd rfl (fun hlt => ?_) (fun hlt => ?_) <;> simp only [cmv, arv, Bool.not_eq_true', Bool.not_eq_false', decide_eq_true_eq, decide_eq_false_iff_not] at hlt)
 ·have hlt : k < ps.length := by omega
  obtain ⟨b, off, cap, l, e1, hcap, hl, hx, hb⟩ := Rd.block (hrr _ hS) (by omega)
  cases e1
  refine gW ?_
  refine g_rq rfl rfl ⟨by omega, by omega⟩ ?_
  refine g_l1r rfl rfl hb (by rw [Int.toNat_natCast]; exact rd_one (b := b) (c := c) (E := E0) hx hd hlt) ?_
  obtain ⟨E, hpk⟩ := (hp _ (List.getElem_mem hlt)).in hS
  have hkl := flat_len (List.getElem_mem hlt : ps[k] ∈ ps)
  refine gW ?_
  refine g_cl rfl rfl (b_CheckL rfl (by omega) (fun x hx => hlen x (flat_mem (List.getElem_mem hlt) hx)) (hg.in hS) hpk fun w1 h' => ?_)
  replace hS := hS.call0.2 _ _ h'
  rw [List.append_nil] at hS
  cases hck : chk ps[k].2
  ·have e1 : eE ps[k].2 = 200 := by unfold eE; rw [if_neg (by rw [hck]; decide)]
   rw [e1]
   refine gW ?_
   refine g_ret (q_2 rfl rfl (bad ?_ _ hS))
   unfold joinS
   rw [if_neg]
   intro h1
   have := List.all_eq_true.1 h1.1 ps[k].2 (List.mem_map.2 ⟨_, List.getElem_mem hlt, rfl⟩)
   rw [hck] at this
   cases this
  ·have e1 : eE ps[k].2 = 0 := by unfold eE; rw [if_pos hck]
   rw [e1]
   refine gW ?_
   refine g_rq rfl rfl (in64 (by simp only [arv]; omega)) ?_
   refine gW ?_
   refine g_l (k + 1) ⟨rfl, rfl, rfl, rfl, trivial⟩ ⟨by omega, fun j hj hjk => ?_, hS⟩ (by omega)
   by_cases e : j = k
   ·subst e; exact hck
   ·exact hC j hj (by omega)
 ·have ek : k = n := by omega
  subst ek
  have hall : (ps.map (·.2)).all chk = true := List.all_eq_true.2 fun l hl => by
   obtain ⟨p, hp, rfl⟩ := List.mem_map.1 hl
   obtain ⟨j, hj, rfl⟩ := List.getElem_of_mem hp
   exact hC j hj (by omega)
  refine gW ?_
  refine g_cl rfl rfl (b_Concat hd hn ht (hrr _ hS) (fun p hp' => (hp p hp').in hS) fun v1 w1 h' => ?_)
  replace hS := hS.call0.2 _ _ h'
  replace hS : St w (fun _ => False) w1 [row v1 59 33 (flat ps).length (fl lc (flat ps))] := hS
  refine gW ?_
  refine g_cl rfl rfl (b_SortL rfl ht hS fun d' w1 hpm hsr hS => ?_)
  have hdl : d'.length = (flat ps).length := hpm.length_eq
  obtain ⟨hc1, hc2⟩ := chk_srt hpm hsr
  refine gW ?_
  refine g_cl rfl rfl (b_CheckL hdl (by omega) (fun x hx => hlen x (hpm.mem_iff.1 hx)) (hg.in hS) (Ow.rd (hS.ok 0 _ rfl)) fun w1 h' => ?_)
  replace hS := hS.call0.2 _ _ h'
  rw [List.append_nil] at hS
  have eF : (ps.map (·.2)).flatten = flat ps := rfl
  cases hck : chk d'
  ·have e1 : eE d' = 200 := by unfold eE; rw [if_neg (by rw [hck]; decide)]
   rw [e1]
   refine gW ?_
   refine g_ret (q_2 rfl rfl (bad ?_ _ (hS.sel [] rfl rfl)))
   unfold joinS
   rw [if_neg]
   intro h1
   rw [eF, ← hc1, hck] at h1
   cases h1.2
  ·have e1 : eE d' = 0 := by unfold eE; rw [if_pos hck]
   have e2 : joinS (ps.map (·.2)) = some d' := by
    unfold joinS
    rw [if_pos ⟨hall, by rw [eF, ← hc1]; exact hck⟩, eF, ← hc2 hck]
   have e3 : jnE (ps.map (·.2)) = 0 := by unfold jnE; rw [e2]; rfl
   have e4 : jnL (ps.map (·.2)) = d' := by unfold jnL; rw [e2]; rfl
   rw [e3, e4, hdl] at h
   rw [e1]
   obtain ⟨a1, c1, rfl⟩ := hS.rlen 0 rfl
   refine gW ?_
   exact g_ret (q_2 rfl rfl (h _ _ hS))
end
instance : Inhabited Rec := ⟨⟨0, 0, List.replicate 16 0, [], false, List.replicate 32 0, rfl, rfl, fun x hx => by rw [List.eq_of_mem_replicate hx]; decide, by decide, by decide⟩⟩
def hasV (v : List Nat) (a b : Int) : Bool := dotB a b && decide (b ≤ ((v.getD a.toNat 0 : Nat) : Int))
def atm (a b : List Nat) : Prop := ∀ i, i < 16 → a.getD i 0 ≤ b.getD i 0
instance (a b : List Nat) : Decidable (atm a b) := by unfold atm; infer_instance
def mx (a b : List Nat) : List Nat := List.zipWith max a b
theorem mx_len {a b : List Nat} (ha : a.length = 16) (hb : b.length = 16) : (mx a b).length = 16 := by unfold mx; rw [List.length_zipWith, ha, hb]; rfl
theorem mx_at {a b : List Nat} (ha : a.length = 16) (hb : b.length = 16) {i : Nat} (h : i < 16) : (mx a b)[i]'(by rw [mx_len ha hb]; exact h) = max (a[i]'(by omega)) (b[i]'(by omega)) := by
 unfold mx
 rw [List.getElem_zipWith]
theorem mx_eq {a b : List Nat} (ha : a.length = 16) (hb : b.length = 16) : mx a b = b ↔ atm a b := by
 constructor
 ·intro h i hi
  have := mx_at ha hb hi
  simp only [h] at this
  rw [List.getD_eq_getElem?_getD, List.getD_eq_getElem?_getD, List.getElem?_eq_getElem (by omega), List.getElem?_eq_getElem (by omega)]
  simp only [Option.getD_some]
  omega
 ·intro h
  apply List.ext_getElem (by rw [mx_len ha hb, hb])
  intro i h1 h2
  rw [hb] at h2
  rw [mx_at ha hb h2]
  have := h i h2
  rw [List.getD_eq_getElem?_getD, List.getD_eq_getElem?_getD, List.getElem?_eq_getElem (by omega), List.getElem?_eq_getElem (by omega)] at this
  simp only [Option.getD_some] at this
  omega
def outd (a b : Rec) : Bool := decide (a.ref = b.ref) && hasV a.ctx b.site b.cnt
def idR (r : Rec) : Id := ⟨r.tip, r.l32⟩
def sibB (s : Bs) (l : List Rec) : Prop := ldB l ∧ (∀ x ∈ l, x.ref = s) ∧ ∀ x ∈ l, ∀ y ∈ l, outd x y = false
def tipR (l : List Rec) : List Id := iset ((l.filter (·.has)).map idR)
abbrev Gp := Bs × List Rec
def grp : List Rec → List Gp
 | [] => []
 | a :: l => match grp l with
  | [] => [(a.ref, [a])]
  | (s, g) :: gs => if s = a.ref then (s, a :: g) :: gs else (a.ref, [a]) :: (s, g) :: gs
def run (s : Bs) : List Rec → Nat
 | [] => 0
 | a :: l => if a.ref = s then run s l + 1 else 0
theorem run_is {s : Bs} : ∀ {l : List Rec} {n : Nat}, n ≤ l.length → (∀ i (hi : i < l.length), i < n → l[i].ref = s) → (∀ h : n < l.length, l[n].ref ≠ s) → run s l = n
 | [], n, hn, _, _ => by
  have : n = 0 := by simpa using hn
  rw [this]; rfl
 | a :: l, 0, _, _, h => by rw [run, if_neg (show ¬ a.ref = s from h (by simp))]
 | a :: l, n + 1, hn, h1, h2 => by
  rw [run, if_pos (show a.ref = s from h1 0 (by simp) (by omega)), run_is (n := n) (by rw [List.length_cons] at hn; omega) (fun i hi hin => h1 (i + 1) (by rw [List.length_cons]; omega) (by omega)) (fun h => h2 (by rw [List.length_cons]; omega))]
theorem grp_run (a : Rec) : ∀ l : List Rec, grp (a :: l) = (a.ref, a :: l.take (run a.ref l)) :: grp (l.drop (run a.ref l))
 | [] => rfl
 | b :: l => by
  rw [grp, grp_run b l]
  by_cases e : b.ref = a.ref
  ·rw [run, if_pos e, List.take_succ_cons, List.drop_succ_cons]
   simp only [if_pos e]
   rw [e]
  ·rw [run, if_neg e, List.take_zero, List.drop_zero, grp_run b l]
   simp only [if_neg e]
theorem grp_pre {l : List Rec} {m : Nat} {s : Bs} (h0 : 0 < m) (hm : m ≤ l.length) (h1 : ∀ x ∈ l.take m, x.ref = s) (h2 : ∀ h : m < l.length, l[m].ref ≠ s) : grp l = (s, l.take m) :: grp (l.drop m) := by
 cases l with
 | nil => simp only [List.length_nil] at hm; omega
 | cons a l =>
  obtain ⟨m, rfl⟩ : ∃ k, m = k + 1 := ⟨m - 1, by omega⟩
  have ha : a.ref = s := h1 a (by rw [List.take_succ_cons]; exact List.mem_cons_self)
  subst ha
  have hr : run a.ref l = m := run_is (by rw [List.length_cons] at hm; omega) (fun i hi him => h1 _ (by
   rw [List.take_succ_cons]
   exact List.mem_cons_of_mem _ (List.mem_take_iff_getElem.2 ⟨i, by omega, rfl⟩))) (fun h => h2 (by rw [List.length_cons]; omega))
  rw [grp_run, hr, List.take_succ_cons, List.drop_succ_cons]
theorem grp_seg {l : List Rec} {k i : Nat} (h : k ≤ i) (hi : i < l.length) (hs : ∀ j (hj : j < l.length), k ≤ j → j ≤ i → l[j].ref = l[i].ref) (hn : ∀ h : i + 1 < l.length, l[i + 1].ref ≠ l[i].ref) : grp (l.drop k) = (l[i].ref, (l.drop k).take (i + 1 - k)) :: grp (l.drop (i + 1)) := by
 have := grp_pre (l := l.drop k) (m := i + 1 - k) (s := l[i].ref) (by omega) (by rw [List.length_drop]; omega) (fun x hx => by
  obtain ⟨j, hj, rfl⟩ := List.mem_take_iff_getElem.1 hx
  rw [List.length_drop] at hj
  rw [List.getElem_drop]
  exact hs _ (by omega) (by omega) (by omega)) (fun h => by
  rw [List.getElem_drop]
  have e : k + (i + 1 - k) = i + 1 := by omega
  simp only [e]
  exact hn (by rw [List.length_drop] at h; omega))
 rw [this, List.drop_drop]
 have e : k + (i + 1 - k) = i + 1 := by omega
 rw [e]
theorem grp_flat : ∀ l : List Rec, ((grp l).map (·.2)).flatten = l
 | [] => rfl
 | a :: l => by
  have := grp_flat l
  rw [grp]
  split
  ·rename_i h; rw [h] at this; rw [← this]; rfl
  ·rename_i s g gs h
   rw [h] at this
   split
   ·simp only [List.map_cons, List.flatten_cons] at this ⊢; rw [← this]; rfl
   ·simp only [List.map_cons, List.flatten_cons] at this ⊢; rw [← this]; rfl
theorem grp_refs : ∀ (l : List Rec), ∀ g ∈ grp l, g.2 ≠ [] ∧ ∀ x ∈ g.2, x.ref = g.1
 | [], g, hg => nomatch hg
 | a :: l, g, hg => by
  have ih := grp_refs l
  rw [grp] at hg
  split at hg
  ·rw [List.mem_singleton.1 hg]
   exact ⟨by simp, fun x hx => by rw [List.mem_singleton.1 hx]⟩
  ·rename_i s g' gs h
   rw [h] at ih
   split at hg
   ·rename_i e
    rcases List.mem_cons.1 hg with rfl | hg
    ·refine ⟨by simp, fun x hx => ?_⟩
     rcases List.mem_cons.1 hx with rfl | hx
     ·exact e.symm
     ·exact (ih _ List.mem_cons_self).2 x hx
    ·exact ih _ (List.mem_cons_of_mem _ hg)
   ·rcases List.mem_cons.1 hg with rfl | hg
    ·exact ⟨by simp, fun x hx => by rw [List.mem_singleton.1 hx]⟩
    ·exact ih _ hg
theorem grp_len (l : List Rec) : (grp l).length ≤ l.length := by
 induction l with
 | nil => exact Nat.le_refl _
 | cons a l ih =>
  rw [grp]
  split
  ·simp
  ·rename_i h
   rw [h, List.length_cons] at ih
   split <;> simp only [List.length_cons] <;> omega
def blt (a b : Bs) : Bool := !ble b a
theorem blt_iff {a b : Bs} : blt a b = true ↔ Lib.compareBytes a b < 0 := by
 unfold blt ble
 have := cb_neg a b
 simp only [Bool.not_eq_true', decide_eq_false_iff_not]
 omega
theorem blt_trans {a b c : Bs} (h : blt a b = true) (k : blt b c = true) : blt a c = true := by
 unfold blt at *
 rw [Bool.not_eq_true'] at *
 have h1 : ble a b = true := by have := ble_total a b; rw [h, Bool.or_false] at this; exact this
 cases e : ble c a with
 | false => rfl
 | true => rw [ble_trans e h1] at k; cases k
def okP (G : List Gp) : Prop := (∀ g ∈ G, sibB g.1 g.2) ∧ G.Pairwise fun x y => blt x.1 y.1 = true
def okV (v : List Nat) (l : List Rec) : Prop := ∀ r ∈ l, hasV v r.site r.cnt = true ∧ atm r.ctx v
def okT (v : List Nat) (l : List Rec) : Prop := okP (grp l) ∧ okV v l
def lastR (D : List Gp) : Bs := (D.getLast?.map (·.1)).getD []
theorem lastR_app (D : List Gp) (g : Gp) : lastR (D ++ [g]) = g.1 := by unfold lastR; simp
theorem okP_app {D : List Gp} {g : Gp} (h : okP D) (hg : sibB g.1 g.2) (hb : D = [] ∨ blt (lastR D) g.1 = true) : okP (D ++ [g]) := by
 refine ⟨fun x hx => ?_, ?_⟩
 ·rcases List.mem_append.1 hx with hx | hx
  ·exact h.1 x hx
  ·rw [List.mem_singleton.1 hx]; exact hg
 ·rw [List.pairwise_append]
  refine ⟨h.2, List.pairwise_singleton _ _, fun x hx y hy => ?_⟩
  rw [List.mem_singleton.1 hy]
  rcases hb with rfl | hb
  ·cases hx
  ·rcases List.eq_nil_or_concat D with rfl | ⟨D', z, rfl⟩
   ·cases hx
   ·rw [List.concat_eq_append] at *
    rw [lastR_app] at hb
    rcases List.mem_append.1 hx with hx | hx
    ·exact blt_trans ((List.pairwise_append.1 h.2).2.2 x hx z (List.mem_singleton.2 rfl)) hb
    ·rw [List.mem_singleton.1 hx]; exact hb
theorem okP_ord {D R : List Gp} {g : Gp} (hD : D ≠ []) (hb : ¬ blt (lastR D) g.1 = true) : ¬ okP (D ++ g :: R) := fun h => by
 rcases List.eq_nil_or_concat D with rfl | ⟨D', z, rfl⟩
 ·exact hD rfl
 ·rw [List.concat_eq_append] at *
  rw [lastR_app] at hb
  exact hb ((List.pairwise_append.1 h.2).2.2 z (by simp) g (by simp))
theorem okP_sib {D R : List Gp} {g : Gp} (hb : ¬ sibB g.1 g.2) : ¬ okP (D ++ g :: R) := fun h => hb (h.1 g (by simp))
theorem sib_ne {s : Bs} {l : List Rec} (h : sibB s l) (hl : l ≠ []) : brk s = 0 ∧ s ≠ [] := by
 cases l with
 | nil => exact absurd rfl hl
 | cons a l =>
  have h1 := h.1.1 a List.mem_cons_self
  have h2 := h.2.1 a List.mem_cons_self
  unfold recB at h1
  rw [Bool.and_eq_true, Bool.and_eq_true, Bool.and_eq_true, decide_eq_true_eq] at h1
  have h3 := h1.2.2.1
  rw [h2] at h3
  rw [decide_eq_true_eq] at h3
  have hb : brk s = 0 := by
   unfold nmE at h3
   split at h3
   ·assumption
   ·omega
  refine ⟨hb, fun e => ?_⟩
  subst e
  have : brk [] ≠ 0 := by decide
  exact this hb
theorem tipR_len (l : List Rec) : (tipR l).length ≤ l.length := Nat.le_trans (kset_len (fun x : Id => x.1) _) (by rw [List.length_map]; exact List.length_filter_le _ _)
def sibT (G : List Gp) (s : Bs) : List Rec := ((G.find? fun g => decide (g.1 = s)).map (·.2)).getD []
def alvT (G : List Gp) : List Id := iset (G.map fun g => tipR g.2).flatten
noncomputable def lstT (G : List Gp) : List Li := jnL (G.map fun g => nmL g.1 (tipR g.2))
theorem blt_ne {a b : Bs} (h : blt a b = true) : a ≠ b := fun e => by
 subst e
 unfold blt at h
 have := ble_total a a
 rw [Bool.or_self] at this
 rw [this] at h
 cases h
theorem tipR_iset (l : List Rec) : iset (tipR l) = tipR l := kset_self _ id_inj (kset_sorted _ id_inj _)
theorem u4_one (l : List Nat) : (u4 l).all (·.oneCell') = true := List.all_eq_true.2 fun v hv => by
 unfold u4 at hv
 obtain ⟨n, _, rfl⟩ := List.mem_map.1 hv
 rfl
theorem u4_at {l : List Nat} {i : Nat} (h : i < l.length) : (u4 l)[0 + i * 1]? = some (.int .u32 (l[i] : Int)) := by
 unfold u4
 rw [Nat.zero_add, Nat.mul_one, List.getElem?_map, List.getElem?_eq_getElem h]
 rfl
theorem u4_set (l : List Nat) (i x : Nat) (h : i < l.length) : spl (u4 l) (0 + i * 1) [.int .u32 (x : Int)] = u4 (l.set i x) := by
 have e : 0 + i * 1 = i := by omega
 rw [e]
 unfold spl u4
 rw [List.map_set, List.set_eq_take_append_cons_drop, if_pos (by rw [List.length_map]; exact h), List.append_assoc]
 rfl
theorem u16 {l : List Nat} (h : l.length = 16) : (u4 l).length = 16 := by rw [u4_len, h]
theorem evcs_2 {T : TT} {a b : Operand} {sz : Nat} {cs ds : List Value} (ha : ev T a = some (.agg ⟨cs⟩)) (hl : cs.length = sz) (hb : ev T b = some (.agg ⟨ds⟩)) (hm : ds.length = sz) : evcs T sz [a, b] = some (cs ++ ds) := by
 subst hl
 have e : Nat.beq cs.length cs.length = true := Nat.beq_refl _
 have e2 : Nat.beq ds.length cs.length = true := by rw [hm]; exact Nat.beq_refl _
 unfold evcs evcs evcs
 simp [ha, hb, Value.cells, e, e2]
section
variable {w w0 : World} {S0 : Nat → Prop} {L B : List Res} {K : Value → World → Prop} {s : Bs} {E0 E1 : Nat}
set_option maxHeartbeats 2000000 in
theorem b_vHas {x : List Nat} {a b : Int} (hx : x.length = 16) (hb : ∀ y ∈ x, y < 4294967296) (h : ∀ w', St w (fun _ => False) w' [] → K (.bool (hasV x a b)) w') : CK Tryz.prog 26 [.agg ⟨u4 x⟩, .agg ⟨dc a b⟩] w K := by
 have hS := St.nil w (fun _ => False)
 refine call_k Tryz.func26 k26 Tryz.ntmps26 (Nat.le_of_ble_eq_true rfl) ?_
 refine gW ?_
 refine g_ef rfl (ef_bx hS rfl fun b2 w1 hS => ?_)
 refine gW ?_
 refine g_ef rfl (ef_bx hS rfl fun b3 w1 hS => ?_)
 replace hS : St w (fun _ => False) w1 [cel b2 (u4 x) 24, cel b3 (dc a b) 36] := hS
 refine gW ?_
 refine g_dr mixed ?_
 replace hS := hS.drew
 refine gD ?_
 refine d_lm rfl rfl rfl (hS.b 1 rfl) (Nat.le_of_ble_eq_true rfl) ?_
 refine d_cl rfl rfl rfl (b_dotCheck (a := a) (b := b) fun w1 h' => ?_)
 replace hS := hS.call0.2 _ _ h'
 rw [List.append_nil] at hS
 clear h'
 refine ⟨rc_0, ?_⟩
 cases hd : dotB a b
 ·have e1 : hasV x a b = false := by unfold hasV; rw [hd]; rfl
  rw [dotE_no hd]
  rw [e1] at h
  refine gD ?_
  refine d_fin ?_
  refine gW ?_
  exact g_ret (q_1 rfl (h _ (hS.sel [] rfl rfl)))
 ·rw [dotE_ok hd]
  obtain ⟨s0, s15, c1, c2⟩ := dotB_in hd
  obtain ⟨n, rfl⟩ := Int.eq_ofNat_of_zero_le s0
  have hk : n < x.length := by omega
  have hc32 := hb _ (List.getElem_mem hk)
  have e1 : hasV x (n : Int) b = decide (b ≤ (x[n] : Int)) := by
   unfold hasV
   rw [hd, Bool.true_and, Int.toNat_natCast, List.getD_eq_getElem?_getD, List.getElem?_eq_getElem hk]
   rfl
  rw [e1] at h
  have hx1 := u4_at hk
  generalize x[n] = X at h hc32 hx1
  refine gD ?_
  refine d_l1 rfl rfl rfl (hS.b 1 rfl) (v := .int .i64 b) rfl ?_
  refine gD ?_
  refine d_l1 rfl rfl rfl (hS.b 1 rfl) (v := .int .i64 (n : Int)) rfl ?_
  refine gD ?_
  refine d_rq rfl rfl rfl ⟨by omega, by omega⟩ ?_
  refine d_l1 rfl rfl rfl (hS.b 0 rfl) (v := .int .u32 (X : Int)) (by rw [Int.toNat_natCast]; exact hx1) ?_
  refine gD ?_
  rw [show IntKind.i64.wrap (X : Int) = (X : Int) from wrap_in (in64 (by omega))]
  refine gD ?_
  refine d_fin ?_
  refine gW ?_
  exact g_ret (q_1 rfl (h _ (hS.sel [] rfl rfl)))
set_option maxHeartbeats 2000000 in
theorem r_vHas {x : List Nat} {a b : Int} (hx : x.length = 16) (hb : ∀ y ∈ x, y < 4294967296) (h : ∀ w', St w (fun _ => False) w' [] → K (.bool (hasV x a b)) w') : CK Tryz.prog 29 [.agg ⟨u4 x⟩, .agg ⟨dc a b⟩] w K := by
 have hS := St.nil w (fun _ => False)
 refine call_k Tryz.func29 k29 Tryz.ntmps29 (Nat.le_of_ble_eq_true rfl) ?_
 refine gW ?_
 refine g_ef rfl (ef_bx hS rfl fun b2 w1 hS => ?_)
 refine gW ?_
 refine g_ef rfl (ef_bx hS rfl fun b3 w1 hS => ?_)
 replace hS : St w (fun _ => False) w1 [cel b2 (u4 x) 24, cel b3 (dc a b) 36] := hS
 refine gW ?_
 refine g_dr mixed ?_
 replace hS := hS.drew
 refine gD ?_
 refine d_lm rfl rfl rfl (hS.b 1 rfl) (Nat.le_of_ble_eq_true rfl) ?_
 refine d_cl rfl rfl rfl (r_dotCheck (a := a) (b := b) fun w1 h' => ?_)
 replace hS := hS.call0.2 _ _ h'
 rw [List.append_nil] at hS
 clear h'
 refine ⟨rc_0, ?_⟩
 cases hd : dotB a b
 ·have e1 : hasV x a b = false := by unfold hasV; rw [hd]; rfl
  rw [dotE_no hd]
  rw [e1] at h
  refine gD ?_
  refine d_fin ?_
  refine gW ?_
  exact g_ret (q_1 rfl (h _ (hS.sel [] rfl rfl)))
 ·rw [dotE_ok hd]
  obtain ⟨s0, s15, c1, c2⟩ := dotB_in hd
  obtain ⟨n, rfl⟩ := Int.eq_ofNat_of_zero_le s0
  have hk : n < x.length := by omega
  have hc32 := hb _ (List.getElem_mem hk)
  have e1 : hasV x (n : Int) b = decide (b ≤ (x[n] : Int)) := by
   unfold hasV
   rw [hd, Bool.true_and, Int.toNat_natCast, List.getD_eq_getElem?_getD, List.getElem?_eq_getElem hk]
   rfl
  rw [e1] at h
  have hx1 := u4_at hk
  generalize x[n] = X at h hc32 hx1
  refine gD ?_
  refine d_l1 rfl rfl rfl (hS.b 1 rfl) (v := .int .i64 b) rfl ?_
  refine gD ?_
  refine d_l1 rfl rfl rfl (hS.b 1 rfl) (v := .int .i64 (n : Int)) rfl ?_
  refine gD ?_
  refine d_rq rfl rfl rfl ⟨by omega, by omega⟩ ?_
  refine d_l1 rfl rfl rfl (hS.b 0 rfl) (v := .int .u32 (X : Int)) (by rw [Int.toNat_natCast]; exact hx1) ?_
  refine gD ?_
  rw [show IntKind.i64.wrap (X : Int) = (X : Int) from wrap_in (in64 (by omega))]
  refine gD ?_
  refine d_fin ?_
  refine gW ?_
  exact g_ret (q_1 rfl (h _ (hS.sel [] rfl rfl)))
theorem b_max {a b : Nat} (h : K (.int .u32 ((max a b : Nat) : Int)) w) : CK Tryz.prog 98 [.int .u32 (a : Int), .int .u32 (b : Int)] w K := by
 refine call_k Tryz.func98 k98 Tryz.ntmps98 (Nat.le_of_ble_eq_true rfl) ?_
 refine gW ?_
 have e : (((max a b : Nat) : Int)) = max (a : Int) (b : Int) := by omega
 rw [e] at h
 exact g_ret (q_1 rfl h)
set_option maxHeartbeats 4000000 in
theorem b_fold {a b : List Nat} {g E : Nat} (ha : a.length = 16) (hb : b.length = 16) (hg : Blr w g (u4 a ++ u4 b) E) (h : ∀ w', St w (fun _ => False) w' [] → K (.agg ⟨u4 (mx a b)⟩) w') : CK Tryz.prog 97 [.func (.func 98) ⟨[]⟩ ⟨[]⟩, .slice (some ⟨g, 0, none⟩) 2 2] w K := by
 have hS := St.nil w (fun _ => False)
 have hgr : ∀ {L : List Res} {w' : World}, St w (fun _ => False) w' L → Blr w' g (u4 a ++ u4 b) E := fun hS => hg.same (hS.fr.kept _ hg.lt fun h => h)
 have hsl : ∀ k, k < 2 → ((u4 a ++ u4 b).drop (0 + k * 16)).take 16 = u4 (if k = 0 then a else b) := fun k hk => by
  have : k = 0 ∨ k = 1 := by omega
  rcases this with rfl | rfl
  ·rw [if_pos rfl]
   exact List.take_left' (by rw [u4_len, ha])
  ·rw [if_neg (by decide)]
   show ((u4 a ++ u4 b).drop 16).take 16 = _
   rw [List.drop_left' (by rw [u4_len, ha]), List.take_of_length_le (by rw [u4_len, hb]; exact Nat.le_refl _)]
 have haa : mx a a = a := (mx_eq ha ha).2 fun i _ => Nat.le_refl _
 have lz : (zx [(16, Value.int .u32 0)]).length = 16 := by decide
 refine call_k Tryz.func97 k97 Tryz.ntmps97 (Nat.le_of_ble_eq_true rfl) ?_
 refine gW ?_
 refine g_ef rfl (ef_al hS fun b4 w1 hS => ?_)
 refine gW ?_
 refine g_ef rfl (ef_al hS fun b5 w1 hS => ?_)
 replace hS : St w (fun _ => False) w1 [cel b4 (u4 (List.replicate 16 0)) 24, cel b5 (u4 (List.replicate 16 0)) 24] := hS
 refine gW ?_
 refine g_lp (ι := Nat × List Nat) (fun y => [(0, .func (.func 98) ⟨[]⟩ ⟨[]⟩), (4, dp b4), (5, dp b5), (9, .slice (some ⟨g, 0, none⟩) 2 2), (10, .int .i64 2), (11, .int .i64 y.1)])
  (fun y w' => y.1 ≤ 2 ∧ y.2.length = 16 ∧ (y.1 = 1 → y.2 = a) ∧ (y.1 = 2 → y.2 = mx a b) ∧ St w (fun _ => False) w' [cel b4 (u4 (List.replicate 16 0)) 24, cel b5 (u4 y.2) 24]) (fun y => 2 - y.1) (0, List.replicate 16 0) ⟨rfl, rfl, rfl, rfl, rfl, rfl, trivial⟩ ⟨Nat.zero_le _, by simp, nofun, nofun, hS⟩ ?_
 clear hS
 rintro ⟨k, o⟩ w1 ⟨hk, ho, h1, h2, hS⟩
 dsimp only at hk ho h1 h2 hS ⊢
 refine gW ?_
 (generalize hlt : cmv _ _ _ = q; cases q <;> simp only [cmv, arv, Bool.not_eq_true', Bool.not_eq_false', decide_eq_true_eq, decide_eq_false_iff_not] at hlt <;> first | (exfalso; omega) | skip)
 ·have ek : k = 2 := by omega
  rw [h2 ek] at hS
  have lm := mx_len ha hb
  refine gW ?_
  refine g_lm rfl rfl (hS.b 1 rfl) (by rw [u4_len, lm]; decide) ?_
  rw [List.drop_zero, List.take_of_length_le (by rw [u4_len, lm]; exact Nat.le_refl _)]
  refine g_ef0 rfl (ef_st hS 0 rfl rfl rfl (u16 lm) (by rw [u4_len]; decide) (u4_one _) fun w1 hS => ?_)
  replace hS := hS.ceq (l' := u4 (mx a b)) 0 rfl (spl_full' _ _ (by show (u4 (mx a b)).length = (u4 _).length; rw [u4_len, u4_len, lm]; rfl))
  refine gW ?_
  refine g_ret (q_c1 (n := 16) rfl (by kernel_rfl) (hS.b 0 rfl) (by rw [u4_len, lm]; decide) ?_)
  rw [List.drop_zero, List.take_of_length_le (by rw [u4_len, lm]; exact Nat.le_refl _)]
  exact h _ (hS.sel [] rfl rfl)
 have hlt : k < 2 := by omega
 have hx := hsl k hlt
 have hvl : (if k = 0 then a else b).length = 16 := by split <;> assumption
 have hmm : mx a (if k = 0 then a else b) = if k = 0 then a else mx a b := by split <;> simp [haa]
 generalize hv : (if k = 0 then a else b) = v at hx hvl hmm
 refine gW ?_
 refine g_rq rfl rfl ⟨by omega, by omega⟩ ?_
 refine g_lmr rfl rfl (hgr hS) (by rw [Int.toNat_natCast, List.length_append, u4_len, u4_len, ha, hb]; omega) ?_
 rw [Int.toNat_natCast, hx]
 refine g_ef rfl (ef_al hS fun b7 w1 hS => ?_)
 refine gW ?_
 refine g_ef0 rfl (ef_st hS 2 rfl rfl rfl (u16 hvl) (by rw [lz]; decide) (u4_one _) fun w1 hS => ?_)
 replace hS : St w (fun _ => False) w1 [cel b4 (u4 (List.replicate 16 0)) 24, cel b5 (u4 o) 24, cel b7 (u4 v) 24] := hS.ceq (l' := u4 v) 2 rfl (spl_full' _ _ (by show (u4 v).length = _; rw [u4_len, hvl, lz]))
 refine gW ?_
 refine g_atx (ι := Unit) 1 (fun _ => [(0, .func (.func 98) ⟨[]⟩ ⟨[]⟩), (4, dp b4), (5, dp b5), (7, dp b7), (9, .slice (some ⟨g, 0, none⟩) 2 2), (10, .int .i64 2), (11, .int .i64 k)]) (fun _ w' => St w (fun _ => False) w' [cel b4 (u4 (List.replicate 16 0)) 24, cel b5 (u4 a) 24, cel b7 (u4 v) 24]) rfl ?_ ?_
 ·by_cases e0 : k = 0
  ·subst e0
   have hva : v = a := hv.symm
   subst hva
   refine gW ?_
   refine g_lm rfl rfl (hS.b 2 rfl) (by rw [u4_len, hvl]; decide) ?_
   rw [List.drop_zero, List.take_of_length_le (by rw [u4_len, hvl]; exact Nat.le_refl _)]
   refine g_ef0 rfl (ef_st hS 1 rfl rfl rfl (u16 hvl) (by rw [u4_len, ho]; decide) (u4_one _) fun w1 hS => ?_)
   replace hS := hS.ceq (l' := u4 v) 1 rfl (spl_full' _ _ (by show (u4 v).length = (u4 o).length; rw [u4_len, u4_len, hvl, ho]))
   refine gW ?_
   exact g_jx () ⟨rfl, rfl, rfl, rfl, rfl, rfl, rfl, trivial⟩ hS
  ·have e1 : cmv BinOp.eql (k : Int) 0 = false := by simp only [cmv]; exact decide_eq_false (by omega)
   rw [h1 (by omega)] at hS
   refine gW ?_
   rw [e1]
   refine gW ?_
   exact g_jx () ⟨rfl, rfl, rfl, rfl, rfl, rfl, rfl, trivial⟩ hS
 clear hS
 rintro _ T w1 hT hS
 refine g_wkc hT ?_
 clear hT
 have lm := mx_len ha hvl
 refine gW ?_
 refine g_atx (ι := Unit) 2 (fun _ => [(0, .func (.func 98) ⟨[]⟩ ⟨[]⟩), (4, dp b4), (5, dp b5), (9, .slice (some ⟨g, 0, none⟩) 2 2), (10, .int .i64 2), (11, .int .i64 k)]) (fun _ w' => St w (fun _ => False) w' [cel b4 (u4 (List.replicate 16 0)) 24, cel b5 (u4 (mx a v)) 24]) rfl ?_ ?_
 ·refine g_lp (ι := Nat × List Nat) (fun y => [(0, .func (.func 98) ⟨[]⟩ ⟨[]⟩), (4, dp b4), (5, dp b5), (7, dp b7), (9, .slice (some ⟨g, 0, none⟩) 2 2), (10, .int .i64 2), (11, .int .i64 k), (19, .int .i64 y.1)])
   (fun y w' => y.1 ≤ 16 ∧ y.2.length = 16 ∧ y.2.take y.1 = (mx a v).take y.1 ∧ y.2.drop y.1 = a.drop y.1 ∧ St w (fun _ => False) w' [cel b4 (u4 (List.replicate 16 0)) 24, cel b5 (u4 y.2) 24, cel b7 (u4 v) 24]) (fun y => 16 - y.1) (0, a) ⟨rfl, rfl, rfl, rfl, rfl, rfl, rfl, rfl, trivial⟩ ⟨Nat.zero_le _, ha, rfl, rfl, hS⟩ ?_
  clear hS
  rintro ⟨i, o⟩ w1 ⟨hi, ho, ht, hd, hS⟩
  dsimp only at hi ho ht hd hS ⊢
  refine gW ?_
  (generalize hli : cmv _ _ _ = q; cases q <;> simp only [cmv, arv, Bool.not_eq_true', Bool.not_eq_false', decide_eq_true_eq, decide_eq_false_iff_not] at hli <;> first | (exfalso; omega) | skip)
  ·have ei : i = 16 := by omega
   subst ei
   rw [List.take_of_length_le (by omega), List.take_of_length_le (by omega)] at ht
   rw [ht] at hS
   refine gW ?_
   exact g_jx () ⟨rfl, rfl, rfl, rfl, rfl, rfl, trivial⟩ (hS.sel [0, 1] rfl rfl)
  have hli : i < 16 := by omega
  have hoi : o[i]'(by omega) = a[i]'(by omega) := by
   have e1 : (o.drop i)[0]? = (a.drop i)[0]? := by rw [hd]
   rw [List.getElem?_drop, List.getElem?_drop, Nat.add_zero, List.getElem?_eq_getElem (by omega), List.getElem?_eq_getElem (by omega)] at e1
   exact Option.some.inj e1
  have hmi := mx_at ha hvl hli
  refine gW ?_
  refine g_dr mixed ?_
  replace hS := hS.drew
  refine gD ?_
  refine d_rq rfl rfl rfl ⟨by omega, by omega⟩ ?_
  refine d_l1 rfl rfl rfl (hS.b 1 rfl) (v := .int .u32 ((o[i]'(by omega) : Nat) : Int)) (by rw [Int.toNat_natCast]; exact u4_at (by omega)) ?_
  refine gD ?_
  refine d_rq rfl rfl rfl ⟨by omega, by omega⟩ ?_
  refine d_l1 rfl rfl rfl (hS.b 2 rfl) (v := .int .u32 ((v[i]'(by omega) : Nat) : Int)) (by rw [Int.toNat_natCast]; exact u4_at (by omega)) ?_
  refine d_e rfl rfl (ef_cv (first := []) (cap := []) rfl rfl (callFunc_of Tryz.func98 rfl rfl) (b_max ⟨rc_0, ?_⟩))
  refine gD ?_
  refine d_rq rfl rfl rfl ⟨by omega, by omega⟩ ?_
  refine d_e0 rfl rfl (ef_st hS 1 rfl rfl rfl rfl (by rw [u4_len, ho, Int.toNat_natCast]; show 0 + i * 1 + 1 ≤ 16; omega) rfl fun w2 hS => ⟨rc_0, ?_⟩)
  rw [Int.toNat_natCast] at hS
  replace hS := hS.ceq (l' := u4 (o.set i (max (o[i]'(by omega)) (v[i]'(by omega))))) 1 rfl (u4_set o i _ (by omega))
  refine d_fin ?_
  refine gW ?_
  refine g_rq rfl rfl (in64 (by simp only [arv]; omega)) ?_
  refine gW ?_
  refine g_l (i + 1, o.set i (max (o[i]'(by omega)) (v[i]'(by omega)))) ⟨rfl, rfl, rfl, rfl, rfl, rfl, rfl, rfl, trivial⟩ ⟨hli, by simp [ho], ?_, ?_, hS⟩ (by simp only; omega)
  ·show (o.set i _).take (i + 1) = (mx a v).take (i + 1)
   rw [List.take_succ_eq_append_getElem (by rw [List.length_set]; omega), List.getElem_set_self, List.take_set_of_le (Nat.le_refl _), ht, List.take_succ_eq_append_getElem (by omega), hmi, hoi]
  ·show (o.set i _).drop (i + 1) = a.drop (i + 1)
   rw [List.drop_set_of_lt (by omega)]
   have := congrArg (List.drop 1) hd
   rwa [List.drop_drop, List.drop_drop] at this
 clear hS
 rintro _ T w1 hT hS
 refine g_wkc hT ?_
 refine gW ?_
 refine g_rq rfl rfl (in64 (by simp only [arv]; omega)) ?_
 refine gW ?_
 refine g_l (k + 1, mx a v) ⟨rfl, rfl, rfl, rfl, rfl, rfl, trivial⟩ ⟨by simp only; omega, lm, fun e => ?_, fun e => ?_, hS⟩ (by simp only; omega)
 ·have e : k = 0 := by simp only at e; omega
  show mx a v = a
  rw [hmm, if_pos e]
 ·have e : k ≠ 0 := by simp only at e; omega
  show mx a v = mx a b
  rw [hmm, if_neg e]
theorem b_Merge {a b : List Nat} {g E : Nat} (ha : a.length = 16) (hb : b.length = 16) (hg : Blr w g (u4 a ++ u4 b) E) (h : ∀ w', St w (fun _ => False) w' [] → K (.agg ⟨u4 (mx a b)⟩) w') : CK Tryz.prog 60 [.slice (some ⟨g, 0, none⟩) 2 2] w K := by
 have hS := St.nil w (fun _ => False)
 have lm := mx_len ha hb
 have lz : (zx [(16, Value.int .u32 0)]).length = 16 := by decide
 refine call_k Tryz.func60 k60 Tryz.ntmps60 (Nat.le_of_ble_eq_true rfl) ?_
 refine gW ?_
 refine g_ef rfl (ef_al hS fun b2 w1 hS => ?_)
 refine gW ?_
 refine g_cl rfl rfl (b_fold ha hb (hg.same (hS.fr.kept _ hg.lt fun h => h)) fun w2 h' => ?_)
 replace hS := hS.call0.2 _ _ h'
 refine g_ef0 rfl (ef_st hS 0 rfl rfl rfl (u16 lm) (by rw [lz]; decide) (u4_one _) fun w1 hS => ?_)
 replace hS := hS.ceq (l' := u4 (mx a b)) 0 rfl (spl_full' _ _ (by show (u4 (mx a b)).length = _; rw [u4_len, lm, lz]))
 refine gW ?_
 refine g_ret (q_c1 (n := 16) rfl (by kernel_rfl) (hS.b 0 rfl) (by rw [u4_len, lm]; decide) ?_)
 rw [List.drop_zero, List.take_of_length_le (by rw [u4_len, lm]; exact Nat.le_refl _)]
 exact h _ (hS.sel [] rfl rfl)
theorem u4_fit {l : List Nat} (h : l.length = 16) : Fits (List.replicate 16 (.i .u32)) (u4 l) := by have := u4_fits l; rwa [h] at this
set_option maxHeartbeats 2000000 in
theorem b_AtMost {a b : List Nat} (ha : a.length = 16) (hb : b.length = 16) (h : ∀ w', St w (fun _ => False) w' [] → K (.bool (decide (atm a b))) w') : CK Tryz.prog 27 [.agg ⟨u4 a⟩, .agg ⟨u4 b⟩] w K := by
 have hS := St.nil w (fun _ => False)
 have la : (u4 a).length = 16 := by rw [u4_len, ha]
 have lb : (u4 b).length = 16 := by rw [u4_len, hb]
 have lda : ((u4 a).drop 0).take 16 = u4 a := by rw [List.drop_zero, List.take_of_length_le (Nat.le_of_eq la)]
 have ldb : ((u4 b).drop 0).take 16 = u4 b := by rw [List.drop_zero, List.take_of_length_le (Nat.le_of_eq lb)]
 have he : eqdv .eql (deqv (u4 (mx a b)) (u4 b)) = decide (atm a b) := by
  show deqv _ _ = _
  refine deqv_eq ?_
  rw [decide_eq_true_eq, ← mx_eq ha hb]
  exact ⟨fun h => by rw [h], fun h => u4_inj h⟩
 refine call_k Tryz.func27 k27 Tryz.ntmps27 (Nat.le_of_ble_eq_true rfl) ?_
 refine gW ?_
 refine g_ef rfl (ef_bx hS rfl fun b2 w1 hS => ?_)
 refine gW ?_
 refine g_ef rfl (ef_bx hS rfl fun b3 w1 hS => ?_)
 replace hS : St w (fun _ => False) w1 [cel b2 (u4 a) 24, cel b3 (u4 b) 24] := hS
 refine gW ?_
 refine g_dr mixed ?_
 replace hS := hS.drew
 refine d_lm rfl rfl rfl (hS.b 0 rfl) (Nat.le_of_eq la.symm) ?_
 rw [lda]
 refine d_lm rfl rfl rfl (hS.b 1 rfl) (Nat.le_of_eq lb.symm) ?_
 rw [ldb]
 refine d_lm rfl rfl rfl (hS.b 1 rfl) (Nat.le_of_eq lb.symm) ?_
 rw [ldb]
 refine d_e rfl rfl (ef_bl (rs := u4 a ++ u4 b) hS (evcs_2 rfl la rfl lb) fun g w2 hS => ⟨rc_m rfl rfl rfl rfl (hS.b 1 rfl) (Nat.le_of_eq lb.symm) ldb rc_0, ?_⟩)
 refine d_cl rfl rfl rfl (b_Merge ha hb (hS.b 2 rfl).r fun w3 h' => ?_)
 replace hS := hS.call0.2 _ _ h'
 clear h'
 refine ⟨rc_m rfl rfl rfl rfl (hS.b 1 rfl) (Nat.le_of_eq lb.symm) ldb rc_0, ?_⟩
 refine d_qt rfl rfl rfl (qt_eqd (a := u4 (mx a b)) (b := u4 b) rfl rfl (u4_fit (mx_len ha hb)) (u4_fit hb)) ?_
 rw [he]
 refine gD ?_
 refine d_fin ?_
 refine gW ?_
 exact g_ret (q_1 rfl (h _ (hS.sel [] rfl rfl)))
set_option maxHeartbeats 2000000 in
theorem r_AtMost {a b : List Nat} (ha : a.length = 16) (hb : b.length = 16) (h : ∀ w', St w (fun _ => False) w' [] → K (.bool (decide (atm a b))) w') : CK Tryz.prog 30 [.agg ⟨u4 a⟩, .agg ⟨u4 b⟩] w K := by
 have hS := St.nil w (fun _ => False)
 refine call_k Tryz.func30 k30 Tryz.ntmps30 (Nat.le_of_ble_eq_true rfl) ?_
 refine gW ?_
 refine g_ef rfl (ef_bx hS rfl fun b2 w1 hS => ?_)
 refine gW ?_
 refine g_ef rfl (ef_bx hS rfl fun b3 w1 hS => ?_)
 replace hS : St w (fun _ => False) w1 [cel b2 (u4 a) 24, cel b3 (u4 b) 24] := hS
 refine gW ?_
 refine g_lp (ι := Nat) (fun i => [(2, dp b2), (3, dp b3), (5, .int .i64 i)]) (fun i w' => i ≤ 16 ∧ (∀ j, j < i → a.getD j 0 ≤ b.getD j 0) ∧ St w (fun _ => False) w' [cel b2 (u4 a) 24, cel b3 (u4 b) 24]) (fun i => 16 - i) 0 ⟨rfl, rfl, rfl, trivial⟩ ⟨Nat.zero_le _, nofun, hS⟩ ?_
 clear hS
 rintro i w1 ⟨hi, hI, hS⟩
 refine gW ?_
 (generalize hli : cmv _ _ _ = q; cases q <;> simp only [cmv, arv, Bool.not_eq_true', Bool.not_eq_false', decide_eq_true_eq, decide_eq_false_iff_not] at hli <;> first | (exfalso; omega) | skip)
 ·have ei : i = 16 := by omega
  subst ei
  have := h _ (hS.sel [] rfl rfl)
  rw [decide_eq_true (show atm a b from hI)] at this
  refine gW ?_
  exact g_ret (q_1 rfl this)
 have hli : i < 16 := by omega
 have e1 : a.getD i 0 = a[i]'(by omega) := by rw [List.getD_eq_getElem?_getD, List.getElem?_eq_getElem (by omega)]; rfl
 have e2 : b.getD i 0 = b[i]'(by omega) := by rw [List.getD_eq_getElem?_getD, List.getElem?_eq_getElem (by omega)]; rfl
 refine gW ?_
 refine g_dr mixed ?_
 replace hS := hS.drew
 refine gD ?_
 refine d_rq rfl rfl rfl ⟨by omega, by omega⟩ ?_
 refine d_l1 rfl rfl rfl (hS.b 0 rfl) (v := .int .u32 ((a[i]'(by omega) : Nat) : Int)) (by rw [Int.toNat_natCast]; exact u4_at (by omega)) ?_
 refine gD ?_
 refine d_rq rfl rfl rfl ⟨by omega, by omega⟩ ?_
 refine d_l1 rfl rfl rfl (hS.b 1 rfl) (v := .int .u32 ((b[i]'(by omega) : Nat) : Int)) (by rw [Int.toNat_natCast]; exact u4_at (by omega)) ?_
 refine gD ?_
 refine d_fin ?_
 refine gW ?_
 (generalize hc : cmv _ _ _ = q; cases q <;> simp only [cmv, arv, Bool.not_eq_true', Bool.not_eq_false', decide_eq_true_eq, decide_eq_false_iff_not] at hc <;> first | (exfalso; omega) | skip)
 ·refine gW ?_
  refine g_rq rfl rfl (in64 (by simp only [arv]; omega)) ?_
  refine gW ?_
  refine g_l (i + 1) ⟨rfl, rfl, rfl, trivial⟩ ⟨hli, fun j hj => ?_, hS⟩ (by omega)
  by_cases e : j = i
  ·subst e
   rw [e1, e2]
   omega
  ·exact hI j (by omega)
 ·have := h _ (hS.sel [] rfl rfl)
  rw [decide_eq_false (fun hc2 : atm a b => by have := hc2 i hli; rw [e1, e2] at this; omega)] at this
  refine gW ?_
  exact g_ret (q_1 rfl this)
end
structure Sb where
 b : Nat
 v : Value
 s : Bs
 l : List Rec
def Sb.g (z : Sb) : Gp := (z.s, z.l)
def gps (Y : List Sb) : List Gp := Y.map Sb.g
def sbR (T : Nat) (z : Sb) : Res := (cel z.b [sv z.s, z.v] T).and (row z.v 40 52 z.l.length (fl rc z.l))
def SbV (z : Sb) (w : World) : Prop := (∃ E, Blr w z.b [sv z.s, z.v] E) ∧ ∃ E, Rd z.v E 52 z.l.length (fl rc z.l) w
section
variable {w w0 : World} {S0 : Nat → Prop} {L B : List Res}
theorem SbV.in {z : Sb} (h : SbV z w0) (hS : St w0 (fun _ => False) w L) : SbV z w := by
 obtain ⟨⟨E, h1⟩, E', h2⟩ := h
 exact ⟨⟨E, h1.same (hS.fr.kept _ h1.lt fun h => h)⟩, E', h2.same fun b hb => hS.fr.kept b (h2.lt b hb) fun h => h⟩
theorem SbV.drew {z : Sb} (h : SbV z w) : SbV z w.drew := by
 obtain ⟨⟨E, h1⟩, E', h2⟩ := h
 exact ⟨⟨E, h1.same rfl⟩, E', h2.same fun _ _ => rfl⟩
theorem sbR_v {T : Nat} {z : Sb} (h : (sbR T z).ok w) : SbV z w := ⟨⟨T, h.1.r⟩, 40, Ow.rd h.2.1⟩
theorem sb_v {T i : Nat} {Y : List Sb} (hS : St w0 S0 w L) (hi : L[i]? = some (ows (sbR T) Y)) : ∀ z ∈ Y, SbV z w := fun z hz => sbR_v (ows_mem (hS.ok i _ hi) hz)
end
def tE (Y : List Sb) : List MapEntry := Y.mapIdx fun i z => ⟨sv z.s, dp z.b, i⟩
theorem tE_app (Y : List Sb) (z : Sb) : tE (Y ++ [z]) = tE Y ++ [⟨sv z.s, dp z.b, Y.length⟩] := by
 unfold tE
 rw [List.mapIdx_append]
 simp
theorem tE_get {Y : List Sb} {e : MapEntry} (h : e ∈ tE Y) : ∃ (i : Nat) (hi : i < Y.length), e = ⟨sv Y[i].s, dp Y[i].b, i⟩ := by
 unfold tE at h
 obtain ⟨i, hi, rfl⟩ := List.mem_mapIdx.1 h
 exact ⟨i, hi, rfl⟩
theorem tE_key {Y : List Sb} : ∀ e ∈ tE Y, ∃ s, e.key = .string s := fun e he => by
 obtain ⟨i, hi, rfl⟩ := tE_get he
 exact ⟨_, rfl⟩
theorem tE_born (Y : List Sb) : (tE Y).map (·.born) = List.range Y.length := List.ext_getElem (by simp [tE]) fun i h1 h2 => by simp [tE]
theorem tE_at (Y : List Sb) {i : Nat} (hi : i < Y.length) : (⟨sv Y[i].s, dp Y[i].b, i⟩ : MapEntry) ∈ tE Y := by
 unfold tE
 exact List.mem_mapIdx.2 ⟨i, hi, rfl⟩
def tldS (o : List Sb) (seen : Array Nat) : List Sb := seen.toList.filterMap fun i => o[i]?
theorem tldS_push {o : List Sb} {seen : Array Nat} {i : Nat} (hi : i < o.length) : tldS o (seen.push i) = tldS o seen ++ [o[i]] := by
 unfold tldS
 simp [hi]
theorem tldS_len (o : List Sb) (seen : Array Nat) : (tldS o seen).length ≤ seen.size := by
 unfold tldS
 have := List.length_filterMap_le (fun i => o[i]?) seen.toList
 rwa [Array.length_toList] at this
theorem fmS_range (o : List Sb) : ∀ k, k ≤ o.length → (List.range k).filterMap (fun i => o[i]?) = o.take k
 | 0, _ => by simp
 | k + 1, h => by
  rw [List.range_succ, List.filterMap_append, fmS_range o k (by omega), List.take_succ_eq_append_getElem (by omega)]
  simp [show k < o.length by omega]
theorem tldS_all {o : List Sb} {seen : Array Nat} (hn : seen.toList.Nodup) (hb : ∀ i ∈ seen.toList, i < o.length) (h : (leftOf ⟨tE o⟩ seen).size = 0) : (tldS o seen).Perm o := by
 have hp : seen.toList.Perm (List.range o.length) := by
  rw [List.perm_ext_iff_of_nodup hn List.nodup_range]
  intro i
  rw [List.mem_range]
  refine ⟨hb i, fun hi => ?_⟩
  have := all_seen _ _ h _ (tE_at o hi)
  simpa using this
 have h1 := hp.filterMap (fun i => o[i]?)
 rw [fmS_range o _ (Nat.le_refl _), List.take_length] at h1
 exact h1
theorem leftS_get {o : List Sb} {seen : Array Nat} {e : MapEntry} (h : e ∈ (leftOf ⟨tE o⟩ seen).toList) : ∃ (i : Nat) (hi : i < o.length), e = ⟨sv o[i].s, dp o[i].b, i⟩ ∧ i ∉ seen.toList := by
 obtain ⟨h1, h2⟩ := mem_left h
 obtain ⟨i, hi, rfl⟩ := tE_get h1
 exact ⟨i, hi, rfl, by simpa using h2⟩
def TabR (bT bm : Nat) (x : List Nat) (Y : List Sb) : List Res := [cel bT (u4 x ++ [.map (some bm)]) 45, obj bm (.map ⟨tE Y⟩ Y.length), ows (sbR 109) Y]
def e1p (z : Sb) : List Value := [dp z.b]
theorem e1p_len (z : Sb) : (e1p z).length = 1 := rfl
def TabX (bX : Nat) (vL : Value) (x : List Nat) (Y : List Sb) : List Res := [cel bX (u4 x ++ [vL]) 76, row vL 77 1 Y.length (fl e1p Y), ows (sbR 116) Y]
theorem dlt_C' (x y : Rec) : dlt' x y ↔ dotC x.site x.cnt y.site y.cnt < 0 := by
 unfold dlt'
 rw [dotC_R]
 rcases dotR_3 x.site x.cnt y.site y.cnt with h | h | h <;> omega
theorem rc_c16 (r : Rec) : ((rc r).drop 2).take 16 = u4 r.ctx := by
 show (u4 r.ctx ++ (sv r.ref :: .bool r.has :: bys r.tip)).take 16 = _
 exact List.take_left' (by rw [u4_len, r.l16])
theorem sv_dec (s : Bs) : decide ((⟨s.toArray⟩ : ByteArray).data.toList = (⟨s.toArray⟩ : ByteArray).data.toList) = true := decide_eq_true rfl
theorem dec_svr (a b : Bs) : decide ((⟨a.toArray⟩ : ByteArray).data.toList = (⟨b.toArray⟩ : ByteArray).data.toList) = decide (a = b) := rfl
theorem sib_rec {s : Bs} {d : List Rec} {k : Nat} (hk : k < d.length) (h : recB d[k] = false) : ¬ sibB s d := fun hl => ldB_bad hk h hl.1
theorem sib_ord {s : Bs} {d : List Rec} {k : Nat} (h0 : 0 < k) (hk : k < d.length) (h : ¬ dlt' (d[k - 1]'(by omega)) d[k]) : ¬ sibB s d := fun hl => ldB_ord h0 hk h hl.1
theorem sib_out {s : Bs} {d : List Rec} {x y : Rec} (hx : x ∈ d) (hy : y ∈ d) (h : outd x y = true) : ¬ sibB s d := fun hl => by
 rw [hl.2.2 x hx y hy] at h
 cases h
theorem out_next {d : List Rec} {k : Nat} (hk : k < d.length) (h : ∀ x ∈ d.take k, ∀ y ∈ d, outd x y = false) (h2 : ∀ y ∈ d, outd d[k] y = false) : ∀ x ∈ d.take (k + 1), ∀ y ∈ d, outd x y = false := fun x hx => by
 rw [List.take_succ_eq_append_getElem hk] at hx
 rcases List.mem_append.1 hx with hx | hx
 ·exact h x hx
 ·rw [List.mem_singleton.1 hx]; exact h2
section
variable {w w0 : World} {S0 : Nat → Prop} {L B : List Res} {K : Value → World → Prop} {s : Bs} {E0 E1 : Nat}
theorem b_Ahead (a b : Rec) (h : ∀ w', St w (fun _ => False) w' [] → K (.bool (hasV b.ctx a.site a.cnt)) w') : CK Tryz.prog 140 [.agg ⟨rc a⟩, .agg ⟨rc b⟩] w K := by
 have hS := St.nil w (fun _ => False)
 refine call_k Tryz.func140 k140 Tryz.ntmps140 (Nat.le_of_ble_eq_true rfl) ?_
 refine gW ?_
 refine g_ef rfl (ef_bx hS rfl fun b2 w1 hS => ?_)
 refine gW ?_
 refine g_ef rfl (ef_bx hS rfl fun b3 w1 hS => ?_)
 replace hS : St w (fun _ => False) w1 [cel b2 (rc a) 40, cel b3 (rc b) 40] := hS
 refine gW ?_
 refine g_lm rfl rfl (hS.b 1 rfl) (by rw [rc_len]; decide) ?_
 rw [show ((rc b).drop (0 + 2)).take 16 = u4 b.ctx from rc_c16 b]
 refine gW ?_
 refine g_lm rfl rfl (hS.b 0 rfl) (by rw [rc_len]; decide) ?_
 rw [show ((rc a).drop (0 + 0)).take 2 = dc a.site a.cnt from rc_dot a]
 refine g_cl rfl rfl (b_vHas b.l16 b.b32 fun w1 h' => ?_)
 replace hS := hS.call0.2 _ _ h'
 refine gW ?_
 exact g_ret (q_1 rfl (h _ (hS.sel [] rfl rfl)))
theorem r_Ahead (a b : Rec) (h : ∀ w', St w (fun _ => False) w' [] → K (.bool (hasV b.ctx a.site a.cnt)) w') : CK Tryz.prog 100 [.agg ⟨rc a⟩, .agg ⟨rc b⟩] w K := by
 have hS := St.nil w (fun _ => False)
 refine call_k Tryz.func100 k100 Tryz.ntmps100 (Nat.le_of_ble_eq_true rfl) ?_
 refine gW ?_
 refine g_ef rfl (ef_bx hS rfl fun b2 w1 hS => ?_)
 refine gW ?_
 refine g_ef rfl (ef_bx hS rfl fun b3 w1 hS => ?_)
 replace hS : St w (fun _ => False) w1 [cel b2 (rc a) 40, cel b3 (rc b) 40] := hS
 refine gW ?_
 refine g_lm rfl rfl (hS.b 1 rfl) (by rw [rc_len]; decide) ?_
 rw [show ((rc b).drop (0 + 2)).take 16 = u4 b.ctx from rc_c16 b]
 refine gW ?_
 refine g_lm rfl rfl (hS.b 0 rfl) (by rw [rc_len]; decide) ?_
 rw [show ((rc a).drop (0 + 0)).take 2 = dc a.site a.cnt from rc_dot a]
 refine g_cl rfl rfl (r_vHas b.l16 b.b32 fun w1 h' => ?_)
 replace hS := hS.call0.2 _ _ h'
 refine gW ?_
 exact g_ret (q_1 rfl (h _ (hS.sel [] rfl rfl)))
theorem b_Outdoes (a b : Rec) (h : ∀ w', St w (fun _ => False) w' [] → K (.bool (outd a b)) w') : CK Tryz.prog 96 [.agg ⟨rc a⟩, .agg ⟨rc b⟩] w K := by
 have hS := St.nil w (fun _ => False)
 unfold outd at h
 refine call_k Tryz.func96 k96 Tryz.ntmps96 (Nat.le_of_ble_eq_true rfl) ?_
 refine gW ?_
 refine g_ef rfl (ef_bx hS rfl fun b2 w1 hS => ?_)
 refine gW ?_
 refine g_ef rfl (ef_bx hS rfl fun b3 w1 hS => ?_)
 replace hS : St w (fun _ => False) w1 [cel b2 (rc a) 40, cel b3 (rc b) 40] := hS
 refine gW ?_
 refine g_l1 rfl rfl (hS.b 0 rfl) (v := sv a.ref) (rc_18 a) ?_
 refine gW ?_
 refine g_l1 rfl rfl (hS.b 1 rfl) (v := sv b.ref) (rc_18 b) ?_
 refine gW ?_
 generalize hq : decide ((⟨a.ref.toArray⟩ : ByteArray).data.toList = (⟨b.ref.toArray⟩ : ByteArray).data.toList) = q
 rw [dec_svr] at hq
 rw [hq] at h
 cases q
 ·refine gW ?_
  exact g_ret (q_1 rfl (h _ (hS.sel [] rfl rfl)))
 ·refine gW ?_
  refine g_lm rfl rfl (hS.b 1 rfl) (Nat.le_of_eq (by rw [rc_len])) ?_
  rw [List.drop_zero, List.take_of_length_le (Nat.le_of_eq (rc_len _))]
  refine g_lm rfl rfl (hS.b 0 rfl) (Nat.le_of_eq (by rw [rc_len])) ?_
  rw [List.drop_zero, List.take_of_length_le (Nat.le_of_eq (rc_len _))]
  refine g_cl rfl rfl (b_Ahead b a fun w1 h' => ?_)
  replace hS := hS.call0.2 _ _ h'
  refine gW ?_
  exact g_ret (q_1 rfl (h _ (hS.sel [] rfl rfl)))
theorem r_Outdoes (a b : Rec) (h : ∀ w', St w (fun _ => False) w' [] → K (.bool (outd a b)) w') : CK Tryz.prog 64 [.agg ⟨rc a⟩, .agg ⟨rc b⟩] w K := by
 have hS := St.nil w (fun _ => False)
 unfold outd at h
 rw [Bool.and_comm] at h
 refine call_k Tryz.func64 k64 Tryz.ntmps64 (Nat.le_of_ble_eq_true rfl) ?_
 refine gW ?_
 refine g_ef rfl (ef_bx hS rfl fun b2 w1 hS => ?_)
 refine gW ?_
 refine g_ef rfl (ef_bx hS rfl fun b3 w1 hS => ?_)
 replace hS : St w (fun _ => False) w1 [cel b2 (rc a) 40, cel b3 (rc b) 40] := hS
 refine gW ?_
 refine g_lm rfl rfl (hS.b 1 rfl) (Nat.le_of_eq (by rw [rc_len])) ?_
 rw [List.drop_zero, List.take_of_length_le (Nat.le_of_eq (rc_len _))]
 refine g_lm rfl rfl (hS.b 0 rfl) (Nat.le_of_eq (by rw [rc_len])) ?_
 rw [List.drop_zero, List.take_of_length_le (Nat.le_of_eq (rc_len _))]
 refine g_cl rfl rfl (r_Ahead b a fun w1 h' => ?_)
 replace hS := hS.call0.2 _ _ h'
 cases hq : hasV a.ctx b.site b.cnt
 ·rw [hq] at h
  refine gW ?_
  exact g_ret (q_1 rfl (h _ (hS.sel [] rfl rfl)))
 ·rw [hq] at h
  refine gW ?_
  refine g_l1 rfl rfl (hS.b 0 rfl) (v := sv a.ref) (rc_18 a) ?_
  refine gW ?_
  refine g_l1 rfl rfl (hS.b 1 rfl) (v := sv b.ref) (rc_18 b) ?_
  refine gW ?_
  exact g_ret (q_1 rfl (h _ (hS.sel [] rfl rfl)))
theorem b_outdone (a b : Rec) (h : ∀ w', St w (fun _ => False) w' [] → K (.bool (outd a b)) w') : CK Tryz.prog 57 [.agg ⟨rc a⟩, .agg ⟨rc b⟩] w K := by
 have hS := St.nil w (fun _ => False)
 refine call_k Tryz.func57 k57 Tryz.ntmps57 (Nat.le_of_ble_eq_true rfl) ?_
 refine gW ?_
 refine g_ef rfl (ef_bx hS rfl fun b2 w1 hS => ?_)
 refine gW ?_
 refine g_ef rfl (ef_bx hS rfl fun b3 w1 hS => ?_)
 replace hS : St w (fun _ => False) w1 [cel b2 (rc a) 106, cel b3 (rc b) 40] := hS
 refine gW ?_
 refine g_lm rfl rfl (hS.b 0 rfl) (Nat.le_of_eq (by rw [rc_len])) ?_
 rw [List.drop_zero, List.take_of_length_le (Nat.le_of_eq (rc_len _))]
 refine g_lm rfl rfl (hS.b 1 rfl) (Nat.le_of_eq (by rw [rc_len])) ?_
 rw [List.drop_zero, List.take_of_length_le (Nat.le_of_eq (rc_len _))]
 refine g_cl rfl rfl (b_Outdoes a b fun w1 h' => ?_)
 replace hS := hS.call0.2 _ _ h'
 refine gW ?_
 exact g_ret (q_1 rfl (h _ (hS.sel [] rfl rfl)))
theorem p_outdone (x : Rec) (M : List Res) : PrdS w0 S0 57 [.agg ⟨rc x⟩] [] M (outd x) := fun y {w K} hS h => b_outdone x y fun w' h' => h w' (by have := hS.call0.2 _ _ h'; rwa [List.append_nil] at this)
end
section
variable {w w0 : World} {S0 : Nat → Prop} {L B : List Res} {K : Value → World → Prop} {s : Bs} {E0 E1 : Nat}
set_option maxHeartbeats 4000000 in
theorem b_LoadSb {d : List Rec} {v : Value} {n : Nat} (hd : d.length = n) (hn : n < 2000000) (h0 : d ≠ []) (hs : ∀ x ∈ d, x.ref = s) (hg : Gl w) (hr : Rd v E0 52 n (fl rc d) w)
  (h1 : ¬ sibB s d → ∀ w', St w (fun _ => False) w' [] → K (.tuple ⟨[.pointer none, .int .i64 190]⟩) w')
  (h2 : sibB s d → ∀ b v' w', St w (fun _ => False) w' [cel b [sv s, v'] 109, rowR v' d] → K (.tuple ⟨[dp b, .int .i64 0]⟩) w') : CK Tryz.prog 24 [v] w K := by
 have hS := St.nil w (fun _ => False)
 subst hd
 have hp0 : 0 < d.length := List.length_pos_iff.2 h0
 have hrr : ∀ {L : List Res} (w' : World), St w (fun _ => False) w' L → Rd v E0 52 d.length (fl rc d) w' := fun w' hS => hr.same fun b hb => hS.fr.kept b (hr.lt b hb) (fun h => h)
 obtain ⟨a, c, rfl⟩ := hr.form
 have step : ∀ {L : List Res} {w1 : World}, St w (fun _ => False) w1 L → ∃ b off l, a = some ⟨b, off, none⟩ ∧ d.length ≤ c ∧ off + c * 52 ≤ l.length ∧ (l.drop off).take (d.length * 52) = fl rc d ∧ Blr w1 b l E0 := fun {L} {w1} hS => by
  obtain ⟨b, off, cap, l, e1, hcap, hl, hx, hb⟩ := Rd.block (hrr _ hS) hp0
  cases e1
  exact ⟨b, off, l, rfl, hcap, hl, hx, hb⟩
 obtain ⟨b, off, l0, rfl, hcap, _⟩ := step hS
 refine call_k Tryz.func24 k24 Tryz.ntmps24 (Nat.le_of_ble_eq_true rfl) ?_
 refine gW ?_
 (generalize hc : cmv _ _ _ = q; cases q <;> simp only [cmv, arv, Bool.not_eq_true', Bool.not_eq_false', decide_eq_true_eq, decide_eq_false_iff_not] at hc <;> first | (exfalso; omega) | skip)
 refine gW ?_
 refine g_lp (ι := Nat) (fun k => [(0, .slice (some ⟨b, off, none⟩) d.length c), (9, .slice (some ⟨b, off, none⟩) d.length c), (10, .int .i64 d.length), (11, .int .i64 k)]) (fun k w' => k ≤ d.length ∧ ldB (d.take k) ∧ (∀ x ∈ d.take k, ∀ y ∈ d, outd x y = false) ∧ St w (fun _ => False) w' []) (fun k => d.length - k) 0
  ⟨rfl, rfl, rfl, rfl, trivial⟩ ⟨Nat.zero_le _, ⟨fun x hx => absurd hx List.not_mem_nil, List.Pairwise.nil⟩, fun x hx => absurd hx List.not_mem_nil, hS⟩ ?_
 clear hS
 rintro k w1 ⟨hk, hI, hO, hS⟩
 refine gW ?_
 (generalize hlt : cmv _ _ _ = q; cases q <;> simp only [cmv, arv, Bool.not_eq_true', Bool.not_eq_false', decide_eq_true_eq, decide_eq_false_iff_not] at hlt <;> first | (exfalso; omega) | skip)
 ·have ek : k = d.length := by omega
  subst ek
  rw [List.take_length] at hI hO
  obtain ⟨b2, off2, l2, e2, _, hl2, hx2, hb2⟩ := step hS.drew
  cases e2
  refine gW ?_
  refine g_dr mixed ?_
  replace hS := hS.drew
  refine gD ?_
  refine d_rq rfl rfl rfl ⟨by omega, by omega⟩ ?_
  have hr0 : l2[off + Int.toNat 0 * 52 + 18]? = some (sv s) := by rw [show Int.toNat 0 = 0 from rfl, rd_cel rc_len hx2 rfl hp0 (by decide), rc_18, hs _ (List.getElem_mem hp0)]
  refine gD ?_
  refine d_l1r rfl rfl rfl hb2 (v := sv s) hr0 ?_
  refine gD ?_
  refine d_cl rfl rfl rfl (b_CloneR rfl hn (hrr _ hS) fun v1 w2 h' => ?_)
  replace hS := hS.call0.2 _ _ h'
  obtain ⟨a1, c1, rfl⟩ := hS.rlen 0 rfl
  obtain ⟨b3, off3, l3, e3, _, hl3, hx3, hb3⟩ := step hS
  cases e3
  have hr1 : l3[off + Int.toNat 0 * 52 + 18]? = some (sv s) := by rw [show Int.toNat 0 = 0 from rfl, rd_cel rc_len hx3 rfl hp0 (by decide), rc_18, hs _ (List.getElem_mem hp0)]
  refine ⟨rc_1r rfl rfl rfl rfl hb3 hr1 rc_0, ?_⟩
  refine gD ?_
  refine d_e rfl rfl (ef_bx hS rfl fun b4 w2 hS => ⟨rc_0, ?_⟩)
  replace hS : St w (fun _ => False) w2 [rowR (.slice a1 d.length c1) d, cel b4 [sv s, .slice a1 d.length c1] 109] := hS
  refine gD ?_
  refine d_fin ?_
  refine gW ?_
  exact g_ret (q_2 rfl rfl (h2 ⟨hI, hs, hO⟩ _ _ _ (hS.sel [1, 0] rfl rfl)))
 have hlt : k < d.length := by omega
 obtain ⟨b2, off2, l2, e2, _, hl2, hx2, hb2⟩ := step hS
 cases e2
 have hbd : off + k * 52 + 52 ≤ l2.length := by have : (k + 1) * 52 ≤ c * 52 := Nat.mul_le_mul_right 52 (by omega); omega
 have lz : (zx zRc).length = 52 := by decide
 refine gW ?_
 refine g_rq rfl rfl ⟨by omega, by omega⟩ ?_
 refine g_lmr rfl rfl hb2 hbd ?_
 rw [Int.toNat_natCast, rd_at rc_len hx2 rfl hlt]
 refine g_ef rfl (ef_al hS fun b6 w1 hS => ?_)
 refine gW ?_
 refine g_ef0 rfl (ef_st hS 0 rfl rfl rfl (rc_len _) (by rw [lz]; decide) (List.all_eq_true.2 (rc_one _)) fun w1 hS => ?_)
 replace hS := hS.ceq (l' := rc d[k]) 0 rfl (spl_full' _ _ (by show (rc d[k]).length = _; rw [rc_len, lz]))
 replace hS : St w (fun _ => False) w1 [cel b6 (rc d[k]) 40] := hS
 refine gW ?_
 refine g_dr mixed ?_
 replace hS := hS.drew
 refine gD ?_
 refine d_lm rfl rfl rfl (hS.b 0 rfl) (Nat.le_of_eq (by rw [rc_len])) ?_
 rw [List.drop_zero, List.take_of_length_le (Nat.le_of_eq (rc_len _))]
 refine d_cl rfl rfl rfl (b_recCheck (hg.in hS) fun w1 h' => ⟨rc_0, ?_⟩)
 replace hS := hS.call0.2 _ _ h'
 rw [List.append_nil] at hS
 clear h'
 cases hb : recB d[k]
 ·rw [recE_no hb]
  refine gD ?_
  refine d_en rfl rfl rc_0 ?_
  refine gD ?_
  refine d_en rfl rfl rc_0 ?_
  refine gD ?_
  refine d_fin ?_
  refine gW ?_
  exact g_ret (q_2 rfl rfl (h1 (sib_rec hlt hb) _ (hS.sel [] rfl rfl)))
 rw [recE_ok hb]
 refine gD ?_
 refine d_l1 rfl rfl rfl (hS.b 0 rfl) (v := sv s) (by rw [← hs _ (List.getElem_mem hlt)]; exact rc_18 _) ?_
 obtain ⟨b3, off3, l3, e3, _, hl3, hx3, hb3⟩ := step hS
 cases e3
 have hr1 : l3[off + Int.toNat 0 * 52 + 18]? = some (sv s) := by rw [show Int.toNat 0 = 0 from rfl, rd_cel rc_len hx3 rfl hp0 (by decide), rc_18, hs _ (List.getElem_mem hp0)]
 refine gD ?_
 refine d_rq rfl rfl rfl ⟨by omega, by omega⟩ ?_
 refine gD ?_
 refine d_l1r rfl rfl rfl hb3 (v := sv s) hr1 ?_
 refine gD ?_
 rw [sv_dec]
 refine gD ?_
 by_cases hk0 : k = 0
 ·rw [show cmv BinOp.gtr (k : Int) 0 = false from decide_eq_false (by omega)]
  refine gD ?_
  refine d_en rfl rfl rc_0 ?_
  refine gD ?_
  refine d_lm rfl rfl rfl (hS.b 0 rfl) (Nat.le_of_eq (by rw [rc_len])) ?_
  rw [List.drop_zero, List.take_of_length_le (Nat.le_of_eq (rc_len _))]
  refine gD ?_
  refine d_cl rfl rfl rfl (b_ConR (callFunc_of Tryz.func57 rfl rfl) hn (p_outdone d[k] _) (fun hS => hrr _ hS) hS fun w1 hS => ⟨rc_0, ?_⟩)
  cases hany : d.any (outd d[k])
  ·refine gD ?_
   refine d_fin ?_
   refine gW ?_
   refine g_rq rfl rfl (in64 (by simp only [arv]; omega)) ?_
   refine gW ?_
   exact g_l (k + 1) ⟨rfl, rfl, rfl, rfl, trivial⟩ ⟨hlt, ldB_next hI hlt hb (fun h0 => by omega), out_next hlt hO (fun y hy => by have := List.any_eq_false.1 hany y hy; simpa using this), hS.sel [] rfl rfl⟩ (by omega)
  ·obtain ⟨y, hy, hxy⟩ := List.any_eq_true.1 hany
   refine gD ?_
   refine d_fin ?_
   refine gW ?_
   exact g_ret (q_2 rfl rfl (h1 (sib_out (List.getElem_mem hlt) hy hxy) _ (hS.sel [] rfl rfl)))
 ·rw [show cmv BinOp.gtr (k : Int) 0 = true from decide_eq_true (by omega)]
  have ek1 : (arv BinOp.sub (k : Int) 1) = ((k - 1 : Nat) : Int) := by simp only [arv]; omega
  obtain ⟨b4, off4, l4, e4, _, hl4, hx4, hb4⟩ := step hS
  cases e4
  have hbd1 : off + (k - 1) * 52 + 52 ≤ l4.length := by have : (k - 1 + 1) * 52 ≤ c * 52 := Nat.mul_le_mul_right 52 (by omega); omega
  have hk1 : k - 1 < d.length := by omega
  refine gD ?_
  refine d_rq rfl rfl rfl (in64 (by rw [ek1]; omega)) ?_
  refine gD ?_
  rw [ek1]
  refine d_rq rfl rfl rfl ⟨by omega, by omega⟩ ?_
  refine gD ?_
  refine d_qt rfl rfl rfl (qt_ldmr rfl hb4 (by rw [Int.toNat_natCast]; omega)) ?_
  rw [Int.toNat_natCast, show (l4.drop (off + (k - 1) * 52 + 0)).take 2 = dc d[k - 1].site d[k - 1].cnt from rd_dot hx4 rfl hk1]
  refine gD ?_
  refine d_lm rfl rfl rfl (hS.b 0 rfl) (by rw [rc_len]; decide) ?_
  rw [show ((rc d[k]).drop (0 + 0)).take 2 = dc d[k].site d[k].cnt from rc_dot _]
  refine d_cl rfl rfl rfl (b_dotCmp fun w1 h' => ⟨rc_0, ?_⟩)
  replace hS := hS.call0.2 _ _ h'
  rw [List.append_nil] at hS
  clear h'
  refine gD ?_
  by_cases hlt' : dlt' d[k - 1] d[k]
  ·rw [show cmv BinOp.geq (dotC d[k - 1].site d[k - 1].cnt d[k].site d[k].cnt) 0 = false from decide_eq_false (by have := (dlt_C' _ _).1 hlt'; omega)]
   refine gD ?_
   refine d_lm rfl rfl rfl (hS.b 0 rfl) (Nat.le_of_eq (by rw [rc_len])) ?_
   rw [List.drop_zero, List.take_of_length_le (Nat.le_of_eq (rc_len _))]
   refine gD ?_
   refine d_cl rfl rfl rfl (b_ConR (callFunc_of Tryz.func57 rfl rfl) hn (p_outdone d[k] _) (fun hS => hrr _ hS) hS fun w1 hS => ⟨rc_0, ?_⟩)
   cases hany : d.any (outd d[k])
   ·refine gD ?_
    refine d_fin ?_
    refine gW ?_
    refine g_rq rfl rfl (in64 (by simp only [arv]; omega)) ?_
    refine gW ?_
    exact g_l (k + 1) ⟨rfl, rfl, rfl, rfl, trivial⟩ ⟨hlt, ldB_next hI hlt hb (fun h0 => hlt'), out_next hlt hO (fun y hy => by have := List.any_eq_false.1 hany y hy; simpa using this), hS.sel [] rfl rfl⟩ (by omega)
   ·obtain ⟨y, hy, hxy⟩ := List.any_eq_true.1 hany
    refine gD ?_
    refine d_fin ?_
    refine gW ?_
    exact g_ret (q_2 rfl rfl (h1 (sib_out (List.getElem_mem hlt) hy hxy) _ (hS.sel [] rfl rfl)))
  ·rw [show cmv BinOp.geq (dotC d[k - 1].site d[k - 1].cnt d[k].site d[k].cnt) 0 = true from decide_eq_true (by have := mt (dlt_C' d[k - 1] d[k]).2 hlt'; omega)]
   refine gD ?_
   refine d_en rfl rfl rc_0 ?_
   refine gD ?_
   refine d_fin ?_
   refine gW ?_
   exact g_ret (q_2 rfl rfl (h1 (sib_ord (by omega) hlt hlt') _ (hS.sel [] rfl rfl)))
set_option maxHeartbeats 4000000 in
theorem r_LoadSb {d : List Rec} {v : Value} {n : Nat} (hd : d.length = n) (hn : n < 2000000) (h0 : d ≠ []) (hs : ∀ x ∈ d, x.ref = s) (hr : Rd v E0 52 n (fl rc d) w)
  (h1 : ¬ sibB s d → ∀ w', St w (fun _ => False) w' [] → K (.tuple ⟨[.pointer none, .int .i64 190]⟩) w')
  (h2 : sibB s d → ∀ b v' w', St w (fun _ => False) w' [cel b [sv s, v'] 116, rowR v' d] → K (.tuple ⟨[dp b, .int .i64 0]⟩) w') : CK Tryz.prog 31 [v] w K := by
 have hS := St.nil w (fun _ => False)
 subst hd
 have hp0 : 0 < d.length := List.length_pos_iff.2 h0
 have hrr : ∀ {L : List Res} (w' : World), St w (fun _ => False) w' L → Rd v E0 52 d.length (fl rc d) w' := fun w' hS => hr.same fun b hb => hS.fr.kept b (hr.lt b hb) (fun h => h)
 obtain ⟨a, c, rfl⟩ := hr.form
 have step : ∀ {L : List Res} {w1 : World}, St w (fun _ => False) w1 L → ∃ b off l, a = some ⟨b, off, none⟩ ∧ d.length ≤ c ∧ off + c * 52 ≤ l.length ∧ (l.drop off).take (d.length * 52) = fl rc d ∧ Blr w1 b l E0 := fun {L} {w1} hS => by
  obtain ⟨b, off, cap, l, e1, hcap, hl, hx, hb⟩ := Rd.block (hrr _ hS) hp0
  cases e1
  exact ⟨b, off, l, rfl, hcap, hl, hx, hb⟩
 obtain ⟨b, off, l0, rfl, hcap, _⟩ := step hS
 have mul : ∀ k, k < d.length → off + k * 52 + 52 ≤ off + c * 52 := fun k hk => by have : (k + 1) * 52 ≤ c * 52 := Nat.mul_le_mul_right 52 (by omega); omega
 refine call_k Tryz.func31 k31 Tryz.ntmps31 (Nat.le_of_ble_eq_true rfl) ?_
 refine gW ?_
 (generalize hc : cmv _ _ _ = q; cases q <;> simp only [cmv, arv, Bool.not_eq_true', Bool.not_eq_false', decide_eq_true_eq, decide_eq_false_iff_not] at hc <;> first | (exfalso; omega) | skip)
 refine gW ?_
 refine g_lp (ι := Nat) (fun k => [(0, .slice (some ⟨b, off, none⟩) d.length c), (4, .int .i64 k)]) (fun k w' => k ≤ d.length ∧ ldB (d.take k) ∧ (∀ x ∈ d.take k, ∀ y ∈ d, outd x y = false) ∧ St w (fun _ => False) w' []) (fun k => d.length - k) 0
  ⟨rfl, rfl, trivial⟩ ⟨Nat.zero_le _, ⟨fun x hx => absurd hx List.not_mem_nil, List.Pairwise.nil⟩, fun x hx => absurd hx List.not_mem_nil, hS⟩ ?_
 clear hS
 rintro k w1 ⟨hk, hI, hO, hS⟩
 refine gW ?_
 (generalize hlt : cmv _ _ _ = q; cases q <;> simp only [cmv, arv, Bool.not_eq_true', Bool.not_eq_false', decide_eq_true_eq, decide_eq_false_iff_not] at hlt <;> first | (exfalso; omega) | skip)
 ·have ek : k = d.length := by omega
  subst ek
  rw [List.take_length] at hI hO
  obtain ⟨b2, off2, l2, e2, _, hl2, hx2, hb2⟩ := step hS
  cases e2
  have hr0 : l2[off + Int.toNat 0 * 52 + 18]? = some (sv s) := by rw [show Int.toNat 0 = 0 from rfl, rd_cel rc_len hx2 rfl hp0 (by decide), rc_18, hs _ (List.getElem_mem hp0)]
  refine gW ?_
  refine g_rq rfl rfl ⟨by omega, by omega⟩ ?_
  refine gW ?_
  refine g_l1r rfl rfl hb2 (v := sv s) hr0 ?_
  refine gW ?_
  refine g_ef rfl (ef_bx hS rfl fun b4 w2 hS => ?_)
  replace hS : St w (fun _ => False) w2 [cel b4 [sv s, .slice none 0 0] 116] := hS
  replace hS := hS.nilrow 40 52
  refine gW ?_
  refine g_l1 rfl rfl (hS.b  0 rfl) rfl ?_
  refine gW ?_
  refine g_ef rfl (ef_ap (n := 0) (m := d.length) (ys := fl rc d) hS 1 rfl rfl rfl (.inl ⟨_, hrr _ hS⟩) (fl_one rc_one _) (by omega) (by omega) fun vo w1 hS => ?_)
  rw [Nat.zero_add, List.nil_append] at hS
  obtain ⟨ao, co, rfl⟩ := hS.rlen 1 rfl
  refine gW ?_
  refine g_ef0 rfl (ef_st hS 0 rfl rfl rfl rfl (Nat.le_of_ble_eq_true rfl) rfl fun w2 hS => ?_)
  refine gW ?_
  exact g_ret (q_2 rfl rfl (h2 ⟨hI, hs, hO⟩ _ _ _ hS))
 have hlt : k < d.length := by omega
 obtain ⟨b2, off2, l2, e2, _, hl2, hx2, hb2⟩ := step hS.drew
 cases e2
 have m1 := mul k hlt
 refine gW ?_
 refine g_dr mixed ?_
 replace hS := hS.drew
 refine gD ?_
 refine d_rq rfl rfl rfl ⟨by omega, by omega⟩ ?_
 refine gD ?_
 refine d_qt rfl rfl rfl (qt_ldmr rfl hb2 (by rw [Int.toNat_natCast]; omega)) ?_
 rw [Int.toNat_natCast, rd_at rc_len hx2 rfl hlt]
 refine d_cl rfl rfl rfl (r_recCheck fun w1 h' => ⟨rc_0, ?_⟩)
 replace hS := hS.call0.2 _ _ h'
 rw [List.append_nil] at hS
 clear h'
 cases hb : recB d[k]
 ·rw [recE_no hb]
  refine gD ?_
  refine d_fin ?_
  refine gW ?_
  exact g_ret (q_2 rfl rfl (h1 (sib_rec hlt hb) _ hS))
 rw [recE_ok hb]
 obtain ⟨b3, off3, l3, e3, _, hl3, hx3, hb3⟩ := step hS
 cases e3
 have hr1 : ∀ i, i < d.length → l3[off + i * 52 + 18]? = some (sv s) := fun i hi => by rw [rd_cel rc_len hx3 rfl hi (by decide), rc_18, hs _ (List.getElem_mem hi)]
 refine gD ?_
 refine d_rq rfl rfl rfl ⟨by omega, by omega⟩ ?_
 refine gD ?_
 refine d_l1r rfl rfl rfl hb3 (v := sv s) (by rw [Int.toNat_natCast]; exact hr1 k hlt) ?_
 refine gD ?_
 refine d_rq rfl rfl rfl ⟨by omega, by omega⟩ ?_
 refine gD ?_
 refine d_l1r rfl rfl rfl hb3 (v := sv s) (hr1 0 hp0) ?_
 refine gD ?_
 rw [sv_dec]
 refine gD ?_
 refine d_fin ?_
 refine gW ?_
 refine g_atx (ι := Unit) 2 (fun _ => [(0, .slice (some ⟨b, off, none⟩) d.length c), (4, .int .i64 k)]) (fun _ w' => (∀ h0 : 0 < k, dlt' (d[k - 1]'(by omega)) d[k]) ∧ St w (fun _ => False) w' []) rfl ?_ ?_
 ·refine g_dr mixed ?_
  replace hS := hS.drew
  refine gD ?_
  by_cases hk0 : k = 0
  ·rw [show cmv BinOp.gtr (k : Int) 0 = false from decide_eq_false (by omega)]
   refine gD ?_
   refine d_en rfl rfl rc_0 ?_
   refine gD ?_
   refine d_fin ?_
   refine gW ?_
   exact g_jx () ⟨rfl, rfl, trivial⟩ ⟨fun h => by omega, hS⟩
  ·rw [show cmv BinOp.gtr (k : Int) 0 = true from decide_eq_true (by omega)]
   have ek1 : (arv BinOp.sub (k : Int) 1) = ((k - 1 : Nat) : Int) := by simp only [arv]; omega
   obtain ⟨b4, off4, l4, e4, _, hl4, hx4, hb4⟩ := step hS
   cases e4
   have hk1 : k - 1 < d.length := by omega
   have m2 := mul _ hk1
   refine gD ?_
   refine d_rq rfl rfl rfl (in64 (by rw [ek1]; omega)) ?_
   refine gD ?_
   rw [ek1]
   refine d_rq rfl rfl rfl ⟨by omega, by omega⟩ ?_
   refine gD ?_
   refine d_qt rfl rfl rfl (qt_ldmr rfl hb4 (by rw [Int.toNat_natCast]; omega)) ?_
   rw [Int.toNat_natCast, show (l4.drop (off + (k - 1) * 52 + 0)).take 2 = dc d[k - 1].site d[k - 1].cnt from rd_dot hx4 rfl hk1]
   refine gD ?_
   refine d_rq rfl rfl rfl ⟨by omega, by omega⟩ ?_
   refine gD ?_
   refine d_qt rfl rfl rfl (qt_ldmr rfl hb4 (by rw [Int.toNat_natCast]; omega)) ?_
   rw [Int.toNat_natCast, show (l4.drop (off + k * 52 + 0)).take 2 = dc d[k].site d[k].cnt from rd_dot hx4 rfl hlt]
   refine d_cl rfl rfl rfl (r_dotCmp fun w1 h' => ⟨rc_0, ?_⟩)
   replace hS := hS.call0.2 _ _ h'
   rw [List.append_nil] at hS
   clear h'
   refine gD ?_
   by_cases hlt' : dlt' d[k - 1] d[k]
   ·rw [show cmv BinOp.neq (dotR d[k - 1].site d[k - 1].cnt d[k].site d[k].cnt) (-1) = false from by unfold dlt' at hlt'; rw [hlt']; exact cmv_neq _]
    refine gD ?_
    refine d_fin ?_
    refine gW ?_
    exact g_jx () ⟨rfl, rfl, trivial⟩ ⟨fun _ => hlt', hS⟩
   ·rw [show cmv BinOp.neq (dotR d[k - 1].site d[k - 1].cnt d[k].site d[k].cnt) (-1) = true from cmv_ye hlt']
    refine gD ?_
    refine d_fin ?_
    refine gW ?_
    exact g_ret (q_2 rfl rfl (h1 (sib_ord (by omega) hlt hlt') _ hS))
 clear hS
 rintro _ T w1 hT ⟨hlt', hS⟩
 refine g_wkc hT ?_
 refine gW ?_
 refine g_atx (ι := Unit) 2 (fun _ => [(0, .slice (some ⟨b, off, none⟩) d.length c), (4, .int .i64 k)]) (fun _ w' => (∀ y ∈ d, outd d[k] y = false) ∧ St w (fun _ => False) w' []) rfl ?_ ?_
 ·refine g_lp (ι := Nat) (fun j => [(0, .slice (some ⟨b, off, none⟩) d.length c), (4, .int .i64 k), (5, .int .i64 j)]) (fun j w' => j ≤ d.length ∧ (∀ y ∈ d.take j, outd d[k] y = false) ∧ St w (fun _ => False) w' []) (fun j => d.length - j) 0 ⟨rfl, rfl, rfl, trivial⟩ ⟨Nat.zero_le _, fun x hx => absurd hx List.not_mem_nil, hS⟩ ?_
  clear hS
  rintro j w1 ⟨hj, hJ, hS⟩
  refine gW ?_
  (generalize hlj : cmv _ _ _ = q; cases q <;> simp only [cmv, arv, Bool.not_eq_true', Bool.not_eq_false', decide_eq_true_eq, decide_eq_false_iff_not] at hlj <;> first | (exfalso; omega) | skip)
  ·have ej : j = d.length := by omega
   subst ej
   rw [List.take_length] at hJ
   refine gW ?_
   exact g_jx () ⟨rfl, rfl, trivial⟩ ⟨hJ, hS⟩
  have hlj : j < d.length := by omega
  obtain ⟨b4, off4, l4, e4, _, hl4, hx4, hb4⟩ := step hS.drew
  cases e4
  have m2 := mul _ hlj
  refine gW ?_
  refine g_dr mixed ?_
  replace hS := hS.drew
  refine gD ?_
  refine d_rq rfl rfl rfl ⟨by omega, by omega⟩ ?_
  refine gD ?_
  refine d_qt rfl rfl rfl (qt_ldmr rfl hb4 (by rw [Int.toNat_natCast]; omega)) ?_
  rw [Int.toNat_natCast, rd_at rc_len hx4 rfl hlt]
  refine gD ?_
  refine d_rq rfl rfl rfl ⟨by omega, by omega⟩ ?_
  refine gD ?_
  refine d_qt rfl rfl rfl (qt_ldmr rfl hb4 (by rw [Int.toNat_natCast]; omega)) ?_
  rw [Int.toNat_natCast, rd_at rc_len hx4 rfl hlj]
  refine d_cl rfl rfl rfl (r_Outdoes d[k] d[j] fun w1 h' => ⟨rc_0, ?_⟩)
  replace hS := hS.call0.2 _ _ h'
  rw [List.append_nil] at hS
  clear h'
  refine gD ?_
  refine d_fin ?_
  refine gW ?_
  cases ho : outd d[k] d[j]
  ·refine gW ?_
   refine g_rq rfl rfl (in64 (by simp only [arv]; omega)) ?_
   refine gW ?_
   refine g_l (j + 1) ⟨rfl, rfl, rfl, trivial⟩ ⟨hlj, fun y hy => ?_, hS⟩ (by omega)
   rw [List.take_succ_eq_append_getElem hlj] at hy
   rcases List.mem_append.1 hy with hy | hy
   ·exact hJ y hy
   ·rw [List.mem_singleton.1 hy]; exact ho
  ·refine gW ?_
   exact g_ret (q_2 rfl rfl (h1 (sib_out (List.getElem_mem hlt) (List.getElem_mem hlj) ho) _ hS))
 clear hS
 rintro _ T w1 hT ⟨hJ, hS⟩
 refine g_wkc hT ?_
 refine gW ?_
 refine g_rq rfl rfl (in64 (by simp only [arv]; omega)) ?_
 refine gW ?_
 exact g_l (k + 1) ⟨rfl, rfl, trivial⟩ ⟨hlt, ldB_next hI hlt hb hlt', out_next hlt hO hJ, hS⟩ (by omega)
end
def m117 : MC := .sq (.rg [.c 2 (.pointer none)]) (.sq (.rg [.t 3 0, .o 4 (.mkm), .o 5 (.bd [(1, .pointer none), (1, .map none)] [(0, 1, .tmp 3), (1, 1, .tmp 4)]), .o 6 (.bx 213 (.tmp 5)), .t 2 6]) (.rt))
theorem k117 : Tryz.f117.body.any (fun c => chkC Tryz.prog c m117 && allD (dlt 7) m117) = true := by kernel_rfl
def m86 : MC := .sq (.rg [.c 4 (.slice none 0 0)]) (.sq (.rg [.t 11 0, .o 12 (.cl 117 [.tmp 11]), .t 5 12]) (.sq (.rg [.t 13 1, .o 14 (.cl 46 [.tmp 13]), .t 6 14]) (.sq (.rg [.c 7 (.slice none 0 0)]) (.sq (.sq (.rg [.t 15 6, .o 16 (.ln false (.tmp 15)), .c 17 (.int .i64 0)]) (.bk 0 (.lp (.sq (.rg [.o 18 (.cm .lss (.tmp 17) (.tmp 16))]) (.sq (.cd (.tmp 18) (.sk) (.xt 0)) (.sq (.bk 1 (.sq (.rg [.o 19 (.ias (.tmp 15) (.tmp 17) 32), .o 20 (.ld (.tmp 19) (some 32)), .o 9 (.al [(32, .int .u8 0)] 38), .e (.st (.tmp 9) (.tmp 20) 32)]) (.rg [.t 21 7, .t 22 5, .o 23 (.ld (.tmp 9) (some 32)), .o 24 (.cl 118 [.tmp 22, .tmp 23]), .o 25 (.ap 38 32 32 [(32, .int .u8 0)] (.tmp 21) (.tmp 24)), .t 7 25]))) (.rg [.o 26 (.ar .add .i64 (.tmp 17) (.const (.int .i64 1)) true), .t 17 26]))))))) (.sq (.rg [.t 27 5, .t 28 7, .o 29 (.cl 120 [.tmp 27, .tmp 28]), .o 30 (.cl 119 [.tmp 29]), .o 31 (.cl 46 [.tmp 30]), .t 10 31]) (.sq (.rg [.t 32 6, .t 33 10, .o 34 (.cl 121 [.tmp 32, .tmp 33]), .t 4 34]) (.rt)))))))
theorem k86 : Tryz.f86.body.any (fun c => chkC Tryz.prog c m86 && allD (dlt 35) m86) = true := by kernel_rfl
def m118 : MC := .sq (.rg [.o 2 (.bx 160 (.tmp 0)), .o 3 (.bx 38 (.tmp 1)), .c 4 (.slice none 0 0)]) (.sq (.dr [.o 8 (.ld (.tmp 2) none), .o 9 (.nc (.tmp 8)), .o 10 (.fa (.tmp 9) 0), .o 11 (.ld (.tmp 10) none), .o 12 (.ld (.tmp 3) (some 32)), .o 13 (.cl 162 [.tmp 11, .tmp 12]), .t 7 13, .o 14 (.ex (.tmp 7) 0), .o 15 (.ex (.tmp 7) 1), .o 5 (.al [(1, .int .i64 0), (2, .slice none 0 0), (32, .int .u8 0), (1, .slice none 0 0), (1, .int .i64 0), (32, .int .u8 0), (1, .string ⟨#[]⟩)] 218), .e (.st (.tmp 5) (.tmp 14) 70), .t 6 15] [0, 1, 3, 7, 0, 31, 63, 127, 127, 0, 767, 2047] (.q 0 (.q 1 (.q 2 (.q 3 (.q 4 (.alt [.e 5 [] (.q 6 (.q 7 (.q 8 (.e 9 [] (.e 10 [] (.q 11 (.fin))))))), .e 9 [0, 3, 4] (.e 5 [] (.q 6 (.q 7 (.q 8 (.e 10 [] (.q 11 (.fin)))))))]))))))) (.sq (.sq (.rg [.t 16 6, .o 17 (.nt (.tmp 16)), .t 18 17, .q 19 18 false (.fa (.tmp 5) 0), .q 20 18 false (.ld (.tmp 19) none), .q 21 18 false (.cm .neq (.tmp 20) (.const (.int .i64 3))), .o 22 (.pk (.tmp 18) (.const (.bool true)) (.tmp 21))]) (.cd (.tmp 22) (.sq (.rg [.c 4 (.slice none 0 0)]) (.rt)) (.sk))) (.sq (.rg [.o 23 (.fa (.tmp 5) 35), .o 24 (.ld (.tmp 23) none), .o 25 (.mf 164 [] [.tmp 2]), .o 26 (.cl 163 [.tmp 24, .tmp 25]), .t 4 26]) (.rt))))
theorem k118 : Tryz.f118.body.any (fun c => chkC Tryz.prog c m118 && allD (dlt 27) m118) = true := by kernel_rfl
def m120 : MC := .sq (.rg [.o 2 (.bx 160 (.tmp 0)), .o 3 (.bx 51 (.tmp 1)), .c 4 (.nilFunc)]) (.sq (.rg [.o 9 (.bd [(1, .slice none 0 0)] []), .o 10 (.bx 229 (.tmp 9)), .t 5 10]) (.sq (.rg [.t 11 5, .o 12 (.mi 224 (.tmp 11)), .o 6 (.al [(1, .nilIface)] 231), .e (.st (.tmp 6) (.tmp 12) 1)]) (.sq (.rg [.o 13 (.mkm), .o 7 (.al [(1, .map none)] 211), .e (.st (.tmp 7) (.tmp 13) 1)]) (.sq (.rg [.o 14 (.mf 167 [] [.tmp 7, .tmp 2, .tmp 6]), .o 8 (.al [(1, .nilFunc)] 236), .e (.st (.tmp 8) (.tmp 14) 1)]) (.sq (.rg [.o 15 (.mf 170 [] [.tmp 8, .tmp 3, .tmp 6, .tmp 2]), .t 4 15]) (.rt))))))
theorem k120 : Tryz.f120.body.any (fun c => chkC Tryz.prog c m120 && allD (dlt 16) m120) = true := by kernel_rfl
def m167 : MC := .sq (.rg [.t 7 0, .o 8 (.ln false (.tmp 7)), .c 9 (.int .i64 0)]) (.bk 0 (.lp (.sq (.rg [.o 10 (.cm .lss (.tmp 9) (.tmp 8))]) (.sq (.cd (.tmp 10) (.sk) (.xt 0)) (.sq (.bk 1 (.sq (.rg [.o 11 (.ias (.tmp 7) (.tmp 9) 32), .o 12 (.ld (.tmp 11) (some 32)), .o 6 (.al [(32, .int .u8 0)] 38), .e (.st (.tmp 6) (.tmp 12) 32)]) (.sq (.dr [.o 13 (.ld (.tmp 1) none), .o 14 (.ld (.tmp 6) (some 32)), .o 15 (.mlk 38 false [(1, .int .i64 0)] false (.tmp 13) (.tmp 14)), .o 16 (.ar .add .i64 (.tmp 15) (.const (.int .i64 1)) true), .o 17 (.me 38 false [(1, .int .i64 0)] (.tmp 13) (.tmp 14)), .o 18 (.ex (.tmp 17) 1), .e (.es (.tmp 13) (.tmp 18) (.tmp 16))] [0, 0, 3, 7, 3, 19, 63] (.q 0 (.q 1 (.alt [.e 2 [] (.q 3 (.e 4 [] (.q 5 (.e 6 [] (.fin))))), .e 4 [] (.q 5 (.e 2 [] (.q 3 (.e 6 [] (.fin)))))])))) (.sq (.rg [.o 19 (.ld (.tmp 1) none), .o 20 (.ld (.tmp 6) (some 32)), .o 21 (.mlk 38 false [(1, .int .i64 0)] false (.tmp 19) (.tmp 20)), .o 22 (.cm .eql (.tmp 21) (.const (.int .i64 1))), .t 23 22, .q 24 23 true (.ld (.tmp 2) none), .q 25 23 true (.ld (.tmp 6) (some 32)), .q 26 23 true (.cl 165 [.tmp 24, .tmp 25]), .o 27 (.pk (.tmp 23) (.tmp 26) (.const (.bool false)))]) (.cd (.tmp 27) (.dr [.o 28 (.ld (.tmp 3) none), .o 29 (.ld (.tmp 6) (some 32)), .o 30 (.ld (.tmp 2) none), .o 31 (.ld (.tmp 6) (some 32)), .o 32 (.cl 169 [.tmp 30, .tmp 31]), .o 33 (.bd [(32, .int .u8 0), (1, .int .i64 0)] [(0, 32, .tmp 29), (32, 1, .tmp 32)]), .o 34 (.mi 235 (.tmp 33)), .o 35 (.cl 168 [.tmp 28, .tmp 34])] [0, 0, 0, 0, 12, 30, 62, 127] (.q 0 (.q 1 (.q 2 (.q 3 (.e 4 [0, 1] (.q 5 (.q 6 (.e 7 [] (.fin)))))))))) (.sk)))))) (.rg [.o 36 (.ar .add .i64 (.tmp 9) (.const (.int .i64 1)) true), .t 9 36]))))))
theorem k167 : Tryz.f167.body.any (fun c => chkC Tryz.prog c m167 && allD (dlt 37) m167) = true := by kernel_rfl
def m170 : MC := .sq (.rg [.o 8 (.ld (.tmp 1) none), .o 9 (.ld (.tmp 2) none), .o 10 (.cv (.tmp 8) [.tmp 9])]) (.bk 0 (.lp (.sq (.sq (.rg [.o 11 (.ld (.tmp 3) none), .o 12 (.iv (.tmp 11) "Len" []), .o 13 (.cm .gtr (.tmp 12) (.const (.int .i64 0)))]) (.cd (.tmp 13) (.sk) (.xt 0))) (.bk 1 (.sq (.rg [.o 15 (.ld (.tmp 3) none), .o 16 (.cl 171 [.tmp 15]), .o 17 (.ta 235 true [(32, .int .u8 0), (1, .int .i64 0)] (.tmp 16)), .t 14 17, .o 18 (.ex (.tmp 14) 0), .o 19 (.ex (.tmp 14) 1), .o 6 (.al [(32, .int .u8 0), (1, .int .i64 0)] 235), .e (.st (.tmp 6) (.tmp 18) 33), .t 7 19]) (.sq (.sq (.rg [.t 20 7, .o 21 (.nt (.tmp 20)), .t 22 21, .q 23 22 false (.mv (.tmp 0)), .q 24 22 false (.fa (.tmp 6) 0), .q 25 22 false (.ld (.tmp 24) (some 32)), .q 26 22 false (.cv (.tmp 23) [.tmp 25]), .q 27 22 false (.nt (.tmp 26)), .o 28 (.pk (.tmp 22) (.const (.bool true)) (.tmp 27))]) (.cd (.tmp 28) (.rt) (.sk))) (.dr [.o 29 (.ld (.tmp 1) none), .o 30 (.ld (.tmp 4) none), .o 31 (.fa (.tmp 6) 0), .o 32 (.ld (.tmp 31) (some 32)), .o 33 (.cl 118 [.tmp 30, .tmp 32]), .o 34 (.cv (.tmp 29) [.tmp 33])] [0, 0, 0, 4, 14, 31] (.q 0 (.q 1 (.q 2 (.q 3 (.e 4 [0] (.e 5 [] (.fin))))))))))))))
theorem k170 : Tryz.f170.body.any (fun c => chkC Tryz.prog c m170 && allD (dlt 35) m170) = true := by kernel_rfl
def m324 : MC := .sq (.rg [.c 2 (.int .i64 0)]) (.sq (.rg [.t 3 0, .o 4 (.nc (.tmp 3)), .o 5 (.fa (.tmp 4) 0), .o 6 (.ld (.tmp 5) none), .o 7 (.ln false (.tmp 6)), .t 2 7]) (.rt))
theorem k324 : Tryz.f324.body.any (fun c => chkC Tryz.prog c m324 && allD (dlt 8) m324) = true := by kernel_rfl
def m121 : MC := .sq (.rg [.c 4 (.slice none 0 0)]) (.sq (.rg [.c 5 (.slice none 0 0)]) (.sq (.sq (.rg [.t 8 0, .o 9 (.ln false (.tmp 8)), .c 10 (.int .i64 0)]) (.bk 0 (.lp (.sq (.rg [.o 11 (.cm .lss (.tmp 10) (.tmp 9))]) (.sq (.cd (.tmp 11) (.sk) (.xt 0)) (.sq (.bk 1 (.sq (.rg [.o 12 (.ias (.tmp 8) (.tmp 10) 32), .o 13 (.ld (.tmp 12) (some 32)), .o 7 (.al [(32, .int .u8 0)] 38), .e (.st (.tmp 7) (.tmp 13) 32)]) (.sq (.rg [.t 14 1, .o 15 (.ld (.tmp 7) (some 32)), .o 16 (.cl 172 [.tmp 14, .tmp 15]), .o 17 (.nt (.tmp 16))]) (.cd (.tmp 17) (.rg [.t 18 5, .o 19 (.ld (.tmp 7) (some 32)), .o 20 (.bl 38 32 [.tmp 19]), .o 21 (.ap 38 32 32 [(32, .int .u8 0)] (.tmp 18) (.tmp 20)), .t 5 21]) (.sk))))) (.rg [.o 22 (.ar .add .i64 (.tmp 10) (.const (.int .i64 1)) true), .t 10 22]))))))) (.sq (.rg [.t 23 5, .t 4 23]) (.rt))))
theorem k121 : Tryz.f121.body.any (fun c => chkC Tryz.prog c m121 && allD (dlt 24) m121) = true := by kernel_rfl
def m172 : MC := .sq (.rg [.o 3 (.bx 38 (.tmp 1)), .c 4 (.bool false)]) (.sq (.rg [.t 8 0, .o 9 (.ld (.tmp 3) (some 32)), .o 10 (.cl 218 [.tmp 8, .tmp 9, .func 84]), .t 7 10, .o 11 (.ex (.tmp 7) 0), .o 12 (.ex (.tmp 7) 1), .t 5 11, .t 6 12]) (.sq (.rg [.t 13 6, .t 4 13]) (.rt)))
theorem k172 : Tryz.f172.body.any (fun c => chkC Tryz.prog c m172 && allD (dlt 14) m172) = true := by kernel_rfl
def m218 : MC := .sq (.rg [.o 4 (.bx 38 (.tmp 1)), .c 6 (.int .i64 0), .c 7 (.bool false)]) (.sq (.rg [.t 12 0, .o 13 (.ln false (.tmp 12)), .t 8 13]) (.sq (.rg [.t 14 8, .c 9 (.int .i64 0), .t 10 14]) (.sq (.bk 0 (.lp (.sq (.sq (.rg [.t 15 9, .t 16 10, .o 17 (.cm .lss (.tmp 15) (.tmp 16))]) (.cd (.tmp 17) (.sk) (.xt 0))) (.bk 1 (.sq (.rg [.t 18 9, .t 19 10, .o 20 (.ar .add .i64 (.tmp 18) (.tmp 19) true), .o 21 (.ci .u64 (.tmp 20)), .o 22 (.sh .shr .u64 (.tmp 21) (.const (.int .u64 1))), .o 23 (.ci .i64 (.tmp 22)), .t 11 23]) (.sq (.dr [.t 24 2, .t 25 0, .t 26 11, .o 27 (.ias (.tmp 25) (.tmp 26) 32), .o 28 (.ld (.tmp 27) (some 32)), .o 29 (.ld (.tmp 4) (some 32)), .o 30 (.cv (.tmp 24) [.tmp 28, .tmp 29]), .o 31 (.cm .lss (.tmp 30) (.const (.int .i64 0)))] [0, 0, 0, 6, 14, 0, 63, 127] (.q 0 (.q 1 (.q 2 (.q 3 (.q 4 (.q 5 (.e 6 [] (.q 7 (.fin)))))))))) (.cd (.tmp 31) (.rg [.t 32 11, .o 33 (.ar .add .i64 (.tmp 32) (.const (.int .i64 1)) true), .t 9 33]) (.rg [.t 34 11, .t 10 34])))))))) (.sq (.dr [.t 35 9, .t 36 9, .t 37 8, .o 38 (.cm .lss (.tmp 36) (.tmp 37)), .t 39 38, .q 40 39 true (.mv (.tmp 2)), .q 41 39 true (.mv (.tmp 0)), .q 42 39 true (.mv (.tmp 9)), .q 43 39 true (.ias (.tmp 41) (.tmp 42) 32), .q 44 39 true (.ld (.tmp 43) (some 32)), .q 45 39 true (.ld (.tmp 4) (some 32)), .q 46 39 true (.cv (.tmp 40) [.tmp 44, .tmp 45]), .q 47 39 true (.cm .eql (.tmp 46) (.const (.int .i64 0))), .o 48 (.pk (.tmp 39) (.tmp 47) (.const (.bool false))), .t 6 35, .t 7 48] [0, 0, 0, 6, 14, 30, 30, 30, 222, 478, 30, 2046, 4094, 8190, 4095, 32767] (.q 0 (.q 1 (.q 2 (.q 3 (.q 4 (.q 5 (.q 6 (.q 7 (.q 8 (.q 9 (.q 10 (.e 11 [] (.q 12 (.q 13 (.q 14 (.q 15 (.fin)))))))))))))))))) (.rt)))))
theorem k218 : Tryz.f218.body.any (fun c => chkC Tryz.prog c m218 && allD (dlt 49) m218) = true := by kernel_rfl
def m119 : MC := .sq (.rg [.c 2 (.slice none 0 0)]) (.sq (.rg [.t 3 0, .o 4 (.cl 166 [.const (.slice none 0 0), .tmp 3]), .t 2 4]) (.rt))
theorem k119 : Tryz.f119.body.any (fun c => chkC Tryz.prog c m119 && allD (dlt 5) m119) = true := by kernel_rfl
def m166u0 : MC := .rg [.o 5 (.al [(32, .int .u8 0)] 38), .e (.st (.tmp 5) (.tmp 7) 32)]
def m166v0 : MC := .bk 1 (.rg [.o 8 (.ld (.tmp 2) none), .o 9 (.ld (.tmp 5) (some 32)), .o 10 (.bl 38 32 [.tmp 9]), .o 11 (.ap 38 32 32 [(32, .int .u8 0)] (.tmp 8) (.tmp 10)), .e (.st (.tmp 2) (.tmp 11) 1)])
def m166 : MC := .sq (.rg [.o 2 (.bx 51 (.tmp 0)), .c 4 (.slice none 0 0)]) (.sq (.sq (.rg [.t 6 1]) (.bk 0 (.rf (.tmp 6) [7] m166u0 m166v0))) (.sq (.rg [.o 12 (.ld (.tmp 2) none), .t 4 12]) (.rt)))
theorem k166 : Tryz.f166.body.any (fun c => chkC Tryz.prog c m166 && allD (dlt 13) m166) = true := by kernel_rfl
def m101 : MC := .sq (.rg [.c 4 (.slice none 0 0)]) (.sq (.rg [.t 11 1, .o 12 (.cl 68 [.tmp 11]), .t 5 12]) (.sq (.rg [.c 6 (.slice none 0 0)]) (.sq (.sq (.rg [.c 7 (.int .i64 0)]) (.bk 0 (.lp (.sq (.sq (.rg [.t 13 7, .t 14 5, .o 15 (.ln false (.tmp 14)), .o 16 (.cm .lss (.tmp 13) (.tmp 15))]) (.cd (.tmp 16) (.sk) (.xt 0))) (.sq (.bk 1 (.sq (.rg [.c 8 (.bool false)]) (.sq (.sq (.rg [.c 9 (.int .i64 0)]) (.bk 2 (.lp (.sq (.sq (.rg [.t 19 9, .t 20 5, .o 21 (.ln false (.tmp 20)), .o 22 (.cm .lss (.tmp 19) (.tmp 21))]) (.cd (.tmp 22) (.sk) (.xt 2))) (.sq (.bk 3 (.sq (.dr [.t 25 0, .t 26 5, .t 27 7, .o 28 (.ias (.tmp 26) (.tmp 27) 32), .o 29 (.ld (.tmp 28) (some 32)), .t 30 5, .t 31 9, .o 32 (.ias (.tmp 30) (.tmp 31) 32), .o 33 (.ld (.tmp 32) (some 32)), .o 34 (.cl 142 [.tmp 25, .tmp 29, .tmp 33]), .t 10 34] [0, 0, 0, 6, 14, 0, 0, 96, 224, 511, 1023] (.q 0 (.q 1 (.q 2 (.q 3 (.q 4 (.q 5 (.q 6 (.q 7 (.q 8 (.e 9 [] (.q 10 (.fin))))))))))))) (.rg [.t 35 8, .t 36 35, .q 37 36 false (.mv (.tmp 10)), .o 38 (.pk (.tmp 36) (.const (.bool true)) (.tmp 37)), .t 8 38]))) (.rg [.t 23 9, .o 24 (.ar .add .i64 (.tmp 23) (.const (.int .i64 1)) true), .t 9 24])))))) (.sq (.rg [.t 39 8, .o 40 (.nt (.tmp 39))]) (.cd (.tmp 40) (.rg [.t 41 6, .t 42 5, .t 43 7, .o 44 (.ias (.tmp 42) (.tmp 43) 32), .o 45 (.ld (.tmp 44) (some 32)), .o 46 (.bl 38 32 [.tmp 45]), .o 47 (.ap 38 32 32 [(32, .int .u8 0)] (.tmp 41) (.tmp 46)), .t 6 47]) (.sk)))))) (.rg [.t 17 7, .o 18 (.ar .add .i64 (.tmp 17) (.const (.int .i64 1)) true), .t 7 18])))))) (.sq (.rg [.t 48 6, .t 4 48]) (.rt)))))
theorem k101 : Tryz.f101.body.any (fun c => chkC Tryz.prog c m101 && allD (dlt 49) m101) = true := by kernel_rfl
def m142 : MC := .sq (.rg [.o 4 (.bx 38 (.tmp 1)), .o 5 (.bx 38 (.tmp 2)), .c 6 (.bool false)]) (.sq (.dr [.t 7 0, .o 8 (.ld (.tmp 5) (some 32)), .o 9 (.cl 192 [.tmp 7, .tmp 8]), .o 10 (.ld (.tmp 4) (some 32)), .o 11 (.cl 191 [.tmp 9, .tmp 10]), .t 6 11] [0, 0, 3, 0, 15, 31] (.q 0 (.q 1 (.q 3 (.e 2 [3] (.e 4 [] (.q 5 (.fin)))))))) (.rt))
theorem k142 : Tryz.f142.body.any (fun c => chkC Tryz.prog c m142 && allD (dlt 12) m142) = true := by kernel_rfl
def m192 : MC := .sq (.rg [.o 3 (.bx 38 (.tmp 1)), .c 4 (.slice none 0 0)]) (.sq (.rg [.t 10 0, .o 11 (.ld (.tmp 3) (some 32)), .o 12 (.cl 225 [.tmp 10, .tmp 11]), .t 5 12]) (.sq (.sq (.rg [.c 6 (.int .i64 0)]) (.bk 0 (.lp (.sq (.sq (.rg [.t 13 6, .t 14 5, .o 15 (.ln false (.tmp 14)), .o 16 (.cm .lss (.tmp 13) (.tmp 15))]) (.cd (.tmp 16) (.sk) (.xt 0))) (.sq (.bk 1 (.sq (.rg [.t 19 0, .t 20 5, .t 21 6, .o 22 (.ias (.tmp 20) (.tmp 21) 32), .o 23 (.ld (.tmp 22) (some 32)), .o 24 (.cl 225 [.tmp 19, .tmp 23]), .t 7 24]) (.sq (.rg [.c 8 (.int .i64 0)]) (.bk 2 (.lp (.sq (.sq (.rg [.t 25 8, .t 26 7, .o 27 (.ln false (.tmp 26)), .o 28 (.cm .lss (.tmp 25) (.tmp 27))]) (.cd (.tmp 28) (.sk) (.xt 2))) (.sq (.bk 3 (.sq (.rg [.t 31 5, .t 32 7, .t 33 8, .o 34 (.ias (.tmp 32) (.tmp 33) 32), .o 35 (.ld (.tmp 34) (some 32)), .o 36 (.cl 191 [.tmp 31, .tmp 35]), .t 9 36]) (.sq (.rg [.t 37 9, .o 38 (.nt (.tmp 37))]) (.cd (.tmp 38) (.rg [.t 39 5, .t 40 7, .t 41 8, .o 42 (.ias (.tmp 40) (.tmp 41) 32), .o 43 (.ld (.tmp 42) (some 32)), .o 44 (.bl 38 32 [.tmp 43]), .o 45 (.ap 38 32 32 [(32, .int .u8 0)] (.tmp 39) (.tmp 44)), .t 5 45]) (.sk))))) (.rg [.t 29 8, .o 30 (.ar .add .i64 (.tmp 29) (.const (.int .i64 1)) true), .t 8 30])))))))) (.rg [.t 17 6, .o 18 (.ar .add .i64 (.tmp 17) (.const (.int .i64 1)) true), .t 6 18])))))) (.sq (.rg [.t 46 5, .t 4 46]) (.rt))))
theorem k192 : Tryz.f192.body.any (fun c => chkC Tryz.prog c m192 && allD (dlt 47) m192) = true := by kernel_rfl
def m225 : MC := .sq (.rg [.o 3 (.bx 38 (.tmp 1)), .c 4 (.slice none 0 0)]) (.sq (.rg [.t 11 0, .o 12 (.ld (.tmp 3) (some 32)), .o 13 (.cl 251 [.tmp 11, .tmp 12]), .t 5 13]) (.sq (.sq (.rg [.t 14 5, .o 15 (.nt (.tmp 14))]) (.cd (.tmp 15) (.sq (.rg [.c 4 (.slice none 0 0)]) (.rt)) (.sk))) (.sq (.rg [.t 17 0, .o 18 (.ld (.tmp 3) (some 32)), .o 19 (.cl 252 [.tmp 17, .tmp 18]), .t 16 19, .o 20 (.ex (.tmp 16) 0), .o 21 (.ex (.tmp 16) 1), .o 6 (.al [(1, .int .i64 0), (2, .slice none 0 0), (32, .int .u8 0), (1, .slice none 0 0), (1, .int .i64 0), (32, .int .u8 0), (1, .string ⟨#[]⟩)] 218), .e (.st (.tmp 6) (.tmp 20) 70), .t 7 21]) (.sq (.rg [.c 8 (.slice none 0 0)]) (.sq (.sq (.rg [.c 9 (.int .i64 0)]) (.bk 0 (.lp (.sq (.sq (.rg [.t 22 9, .o 23 (.fa (.tmp 6) 35), .o 24 (.ld (.tmp 23) none), .o 25 (.ln false (.tmp 24)), .o 26 (.cm .lss (.tmp 22) (.tmp 25))]) (.cd (.tmp 26) (.sk) (.xt 0))) (.sq (.bk 1 (.sq (.rg [.t 29 0, .o 30 (.fa (.tmp 6) 35), .o 31 (.ld (.tmp 30) none), .t 32 9, .o 33 (.ias (.tmp 31) (.tmp 32) 32), .o 34 (.ld (.tmp 33) (some 32)), .o 35 (.cl 251 [.tmp 29, .tmp 34]), .t 10 35]) (.sq (.rg [.t 36 10]) (.cd (.tmp 36) (.rg [.t 37 8, .o 38 (.fa (.tmp 6) 35), .o 39 (.ld (.tmp 38) none), .t 40 9, .o 41 (.ias (.tmp 39) (.tmp 40) 32), .o 42 (.ld (.tmp 41) (some 32)), .o 43 (.bl 38 32 [.tmp 42]), .o 44 (.ap 38 32 32 [(32, .int .u8 0)] (.tmp 37) (.tmp 43)), .t 8 44]) (.sk))))) (.rg [.t 27 9, .o 28 (.ar .add .i64 (.tmp 27) (.const (.int .i64 1)) true), .t 9 28])))))) (.sq (.rg [.t 45 8, .t 4 45]) (.rt)))))))
theorem k225 : Tryz.f225.body.any (fun c => chkC Tryz.prog c m225 && allD (dlt 46) m225) = true := by kernel_rfl
def m251 : MC := .sq (.rg [.o 3 (.bx 38 (.tmp 1)), .c 4 (.bool false)]) (.sq (.rg [.t 5 0, .o 6 (.pn .neq (.tmp 5)), .t 7 6, .q 8 7 true (.mv (.tmp 0)), .q 9 7 true (.ld (.tmp 3) (some 32)), .q 10 7 true (.cl 265 [.tmp 8, .tmp 9]), .q 11 7 true (.cm .eql (.tmp 10) (.const (.int .i64 3))), .o 12 (.pk (.tmp 7) (.tmp 11) (.const (.bool false))), .t 4 12]) (.rt))
theorem k251 : Tryz.f251.body.any (fun c => chkC Tryz.prog c m251 && allD (dlt 13) m251) = true := by kernel_rfl
def m191 : MC := .sq (.rg [.o 3 (.bx 38 (.tmp 1)), .c 4 (.bool false)]) (.sq (.sq (.rg [.c 5 (.int .i64 0)]) (.bk 0 (.lp (.sq (.sq (.rg [.t 6 5, .t 7 0, .o 8 (.ln false (.tmp 7)), .o 9 (.cm .lss (.tmp 6) (.tmp 8))]) (.cd (.tmp 9) (.sk) (.xt 0))) (.sq (.bk 1 (.sq (.dr [.t 12 0, .t 13 5, .o 14 (.ias (.tmp 12) (.tmp 13) 32), .o 15 (.ld (.tmp 14) (some 32)), .o 16 (.ld (.tmp 3) (some 32)), .o 17 (.aq .eql 32 (.tmp 15) (.tmp 16))] [0, 0, 3, 7, 0, 31] (.q 0 (.q 1 (.q 2 (.q 3 (.q 4 (.q 5 (.fin)))))))) (.cd (.tmp 17) (.sq (.rg [.c 4 (.bool true)]) (.rt)) (.sk)))) (.rg [.t 10 5, .o 11 (.ar .add .i64 (.tmp 10) (.const (.int .i64 1)) true), .t 5 11])))))) (.sq (.rg [.c 4 (.bool false)]) (.rt)))
theorem k191 : Tryz.f191.body.any (fun c => chkC Tryz.prog c m191 && allD (dlt 18) m191) = true := by kernel_rfl
def rowI (v : Value) (l : List Id) : Res := row v 38 32 l.length (fl ic l)
end Go.Proofs.YtfffdhafbbbpcaaGreatDoor
