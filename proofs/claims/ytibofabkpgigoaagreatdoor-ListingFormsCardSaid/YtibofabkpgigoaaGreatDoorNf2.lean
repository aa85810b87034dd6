/- slices.Concat of lists of names. -/
import Derived.Test.YtibofabkpgigoaaGreatDoorNb2
import Derived.Test.YtibofabkpgigoaaGreatDoorSf
import Derived.OwnWalk
import Derived.Test.YtibofabkpgigoaaGreatDoorNb6
set_option linter.unusedSimpArgs false
set_option linter.unusedVariables false
namespace Go.Proofs.YtibofabkpgigoaaGreatDoor
open Go.En

def zLi : ZZ := [(1, .string ⟨#[]⟩), (32, .int .u8 0)]
theorem info_li : (Tryz.prog.info? 41).map (fun i => (i.zero, i.size, i.bytes)) = some (some (.agg ⟨zx zLi⟩), 33, 48) := by kernel_rfl
section
variable {w w0 : World} {S0 : Nat → Prop} {L B : List Res} {K : Value → World → Prop} {s : Bs} {E0 E1 : Nat}
theorem c_Grow {n : Nat} (hn : n < 2000000) (h : ∀ v' w', St w (fun _ => False) w' [row v' 41 33 0 []] → K v' w') : CK Tryz.prog 74 [.slice none 0 0, .int .i64 n] w K := by
  by_cases h0 : n = 0
  · subst h0
    refine (Any8.slices_Grow_room Tryz.growLi none 0 0 0 w (Nat.le_refl _) (by decide) (by decide) (Nat.le_refl _)).mono ?_
    rintro e w' ⟨rfl, rfl⟩
    exact ⟨_, rfl, h _ _ ((St.nil _ _).nilrow 41 33)⟩
  · obtain ⟨i0, hi, hz0, hz1, hz2⟩ := info_parts info_li
    have lz : (zx zLi).length = 33 := by decide
    refine (Any8.slices_Grow_grow Tryz.growLi i0 _ hi hz0 (by omega) none 0 0 n [] w (Nat.le_refl _) (by omega) (by rw [hz2]; omega) (by omega) (by rw [Nat.zero_mul]; rfl) (fun _ => rfl) (fun a h => by cases h)).mono ?_
    rintro e w' ⟨rfl, rfl⟩
    refine ⟨_, rfl, h _ _ ?_⟩
    have hge := grownCap_ge w (0 + n) 0 41
    have e1 : ∀ k, Builtin.zeroCells (Value.agg ⟨zx zLi⟩).cells k = ⟨rep k zLi⟩ := fun k => run_zeros (z := ⟨zx zLi⟩) rfl k
    have lr : ∀ k, (rep k zLi).length = k * 33 := fun k => by
      unfold rep
      rw [flat_len (k := 33) (fun l hl => by rw [List.eq_of_mem_replicate hl]; exact lz), List.length_replicate]
    generalize hG : grownCap w (0 + n) 0 41 = G at hge
    have hS := (St.nil w (fun _ => False)).drew.alloc (rep (0 + n - 0) zLi ++ rep (G - (0 + n)) zLi) 41
    have hl : (rep (0 + n - 0) zLi ++ rep (G - (0 + n)) zLi).length = G * 33 := by
      rw [List.length_append, lr, lr]
      omega
    have e2 : (([] : List Value).toArray ++ Builtin.zeroCells (Value.agg ⟨zx zLi⟩).cells (0 + n - 0) ++ Builtin.zeroCells (Value.agg ⟨zx zLi⟩).cells (G - (0 + n)) : Array Value) = ⟨rep (0 + n - 0) zLi ++ rep (G - (0 + n)) zLi⟩ := by
      rw [e1, e1]
      simp
    have hG' : grownCap w (0 + n) 0 (Tryz.growLi_ren.t 25) = G := hG
    rw [hG', e2]
    exact hS.conv 0 rfl (fun b h => h) (.inr ⟨_, G, _, rfl, Nat.zero_le _, rfl, hl, hS.b 0 rfl⟩)
/-- lists of names, each in a slice of its own -/
abbrev Lv1 := Value × List Li
/-- each can be read -/
def LvR (w : World) (p : Lv1) : Prop := ∃ E, Rd p.1 E 33 p.2.length (fl lc p.2) w
theorem LvR.in {p : Lv1} (h : LvR w0 p) (hS : St w0 (fun _ => False) w L) : LvR w p := by
  obtain ⟨E, h⟩ := h
  exact ⟨E, h.same fun b hb => hS.fr.kept b (h.lt b hb) (fun h => h)⟩
def flat (ps : List Lv1) : List Li := (ps.map (·.2)).flatten
theorem flat_app (p q : List Lv1) : flat (p ++ q) = flat p ++ flat q := by simp [flat]
theorem flat_one (p : Lv1) : flat [p] = p.2 := by simp [flat]
theorem flat_take (ps : List Lv1) (k : Nat) : (flat (ps.take k)).length ≤ (flat ps).length := by
  have := congrArg List.length (congrArg flat (List.take_append_drop k ps))
  rw [flat_app, List.length_append] at this
  omega
theorem rd_one {b off n c E k : Nat} {l : List Value} {ps : List Lv1} (hx : (l.drop off).take (n * 1) = ps.map (·.1)) (hn : ps.length = n) (hk : k < ps.length) : l[off + k * 1]? = some ps[k].1 := by
  have h1 := congrArg (fun l : List Value => l[k]?) hx
  simp only [List.getElem?_take, List.getElem?_drop, List.getElem?_map] at h1
  rw [if_pos (by omega), List.getElem?_eq_getElem hk] at h1
  rw [Nat.mul_one]
  simpa using h1
set_option maxHeartbeats 1000000 in
theorem b_Concat {v : Value} {n : Nat} {ps : List Lv1} (hd : ps.length = n) (hn : n < 2000000) (ht : (flat ps).length < 2000000) (hr : Rd v E0 1 n (ps.map (·.1)) w) (hp : ∀ p ∈ ps, LvR w p)
    (h : ∀ v' w', St w (fun _ => False) w' [row v' 41 33 (flat ps).length (fl lc (flat ps))] → K v' w') : CK Tryz.prog 54 [v] w K := by
  have hS := St.nil w (fun _ => False)
  have hrr : ∀ {L : List Res} (w' : World), St w (fun _ => False) w' L → Rd v E0 1 n (ps.map (·.1)) w' := fun w' hS => hr.same fun b hb => hS.fr.kept b (hr.lt b hb) (fun h => h)
  obtain ⟨a, c, rfl⟩ := hr.form
  refine call_k Tryz.func54 k54 Tryz.ntmps54 (Nat.le_of_ble_eq_true rfl) ?_
  (repeat (first | refine g_sq ?_ | refine g_rg ?_ | refine g_r0 ?_ | refine g_ok rfl rfl ?_ | refine g_no rfl ?_ | refine g_no0 rfl ?_ | refine g_bk ?_ | refine g_b ?_ | refine g_sk ?_ | refine g_cT rfl ?_ | refine g_cF rfl ?_ | refine g_x rfl ?_ | refine g_lb ?_))
  refine g_lp (ι := Nat) (fun k => [(0, .slice a n c), (3, .int .i64 (flat (ps.take k)).length), (9, .slice a n c), (10, .int .i64 n), (11, .int .i64 k)]) (fun k w' => k ≤ n ∧ St w (fun _ => False) w' []) (fun k => n - k) 0 ⟨rfl, rfl, rfl, rfl, rfl, trivial⟩ ⟨Nat.zero_le _, hS⟩ ?_
  clear hS
  rintro k w1 ⟨hk, hS⟩
  have hle := flat_take ps k
  (repeat (first | refine g_sq ?_ | refine g_rg ?_ | refine g_r0 ?_ | refine g_ok rfl rfl ?_ | refine g_no rfl ?_ | refine g_no0 rfl ?_ | refine g_bk ?_ | refine g_b ?_ | refine g_sk ?_ | refine g_cT rfl ?_ | refine g_cF rfl ?_ | refine g_x rfl ?_ | refine g_lb ?_))
  (refine g_cd rfl (fun hlt => ?_) (fun hlt => ?_) <;> simp only [cmv, arv, Bool.not_eq_true', Bool.not_eq_false', decide_eq_true_eq, decide_eq_false_iff_not] at hlt)
  · have hlt : k < ps.length := by omega
    obtain ⟨b, off, cap, l, e1, hcap, hl, hx, hb⟩ := Rd.block (hrr _ hS) (by omega)
    cases e1
    (repeat (first | refine g_sq ?_ | refine g_rg ?_ | refine g_r0 ?_ | refine g_ok rfl rfl ?_ | refine g_no rfl ?_ | refine g_no0 rfl ?_ | refine g_bk ?_ | refine g_b ?_ | refine g_sk ?_ | refine g_cT rfl ?_ | refine g_cF rfl ?_ | refine g_x rfl ?_ | refine g_lb ?_))
    refine g_rq rfl rfl ⟨by omega, by omega⟩ ?_
    refine g_l1r rfl rfl hb (by rw [Int.toNat_natCast]; exact rd_one (b := b) (c := c) (E := E0) hx hd hlt) ?_
    have hst : flat (ps.take (k + 1)) = flat (ps.take k) ++ ps[k].2 := by rw [List.take_succ_eq_append_getElem hlt, flat_app, flat_one]
    have hle2 := flat_take ps (k + 1)
    obtain ⟨E, hpk⟩ := (hp _ (List.getElem_mem hlt)).in hS
    obtain ⟨a1, c1, e2⟩ := hpk.form
    rw [hst, List.length_append] at hle2
    rw [e2]
    (repeat (first | refine g_sq ?_ | refine g_rg ?_ | refine g_r0 ?_ | refine g_ok rfl rfl ?_ | refine g_no rfl ?_ | refine g_no0 rfl ?_ | refine g_bk ?_ | refine g_b ?_ | refine g_sk ?_ | refine g_cT rfl ?_ | refine g_cF rfl ?_ | refine g_x rfl ?_ | refine g_lb ?_))
    refine g_rq rfl rfl (in64 (by simp only [arv]; omega)) ?_
    (repeat (first | refine g_sq ?_ | refine g_rg ?_ | refine g_r0 ?_ | refine g_ok rfl rfl ?_ | refine g_no rfl ?_ | refine g_no0 rfl ?_ | refine g_bk ?_ | refine g_b ?_ | refine g_sk ?_ | refine g_cT rfl ?_ | refine g_cF rfl ?_ | refine g_x rfl ?_ | refine g_lb ?_))
    refine g_rq rfl rfl (in64 (by simp only [arv]; omega)) ?_
    (repeat (first | refine g_sq ?_ | refine g_rg ?_ | refine g_r0 ?_ | refine g_ok rfl rfl ?_ | refine g_no rfl ?_ | refine g_no0 rfl ?_ | refine g_bk ?_ | refine g_b ?_ | refine g_sk ?_ | refine g_cT rfl ?_ | refine g_cF rfl ?_ | refine g_x rfl ?_ | refine g_lb ?_))
    refine g_l (k + 1) ⟨rfl, ?_, rfl, rfl, rfl, trivial⟩ ⟨by omega, hS⟩ (by omega)
    show some (Value.int .i64 _) = some (Value.int .i64 _)
    congr 2
    rw [hst, List.length_append]
    simp only [arv]
    omega
  · have ek : k = n := by omega
    subst ek
    rw [List.take_of_length_le (by omega)] at hle ⊢
    (repeat (first | refine g_sq ?_ | refine g_rg ?_ | refine g_r0 ?_ | refine g_ok rfl rfl ?_ | refine g_no rfl ?_ | refine g_no0 rfl ?_ | refine g_bk ?_ | refine g_b ?_ | refine g_sk ?_ | refine g_cT rfl ?_ | refine g_cF rfl ?_ | refine g_x rfl ?_ | refine g_lb ?_))
    refine g_cl rfl rfl (c_Grow ht fun v1 w1 h' => ?_)
    replace hS := hS.call0.2 _ _ h'
    replace hS : St w (fun _ => False) w1 [row v1 41 33 0 []] := hS
    (repeat (first | refine g_sq ?_ | refine g_rg ?_ | refine g_r0 ?_ | refine g_ok rfl rfl ?_ | refine g_no rfl ?_ | refine g_no0 rfl ?_ | refine g_bk ?_ | refine g_b ?_ | refine g_sk ?_ | refine g_cT rfl ?_ | refine g_cF rfl ?_ | refine g_x rfl ?_ | refine g_lb ?_))
    refine g_lp (ι := Nat × Value) (fun x => [(6, x.2), (25, .slice a k c), (26, .int .i64 k), (27, .int .i64 x.1)]) (fun x w' => x.1 ≤ k ∧ St w (fun _ => False) w' [row x.2 41 33 (flat (ps.take x.1)).length (fl lc (flat (ps.take x.1)))]) (fun x => k - x.1) (0, v1) ⟨rfl, rfl, rfl, rfl, trivial⟩ ⟨Nat.zero_le _, hS⟩ ?_
    clear hS
    rintro ⟨j, vo⟩ w1 ⟨hj, hS⟩
    dsimp only at hj hS ⊢
    (repeat (first | refine g_sq ?_ | refine g_rg ?_ | refine g_r0 ?_ | refine g_ok rfl rfl ?_ | refine g_no rfl ?_ | refine g_no0 rfl ?_ | refine g_bk ?_ | refine g_b ?_ | refine g_sk ?_ | refine g_cT rfl ?_ | refine g_cF rfl ?_ | refine g_x rfl ?_ | refine g_lb ?_))
    (refine g_cd rfl (fun hlt => ?_) (fun hlt => ?_) <;> simp only [cmv, arv, Bool.not_eq_true', Bool.not_eq_false', decide_eq_true_eq, decide_eq_false_iff_not] at hlt)
    · have hlt : j < ps.length := by omega
      obtain ⟨b, off, cap, l, e1, hcap, hl, hx, hb⟩ := Rd.block (hrr _ hS) (by omega)
      cases e1
      (repeat (first | refine g_sq ?_ | refine g_rg ?_ | refine g_r0 ?_ | refine g_ok rfl rfl ?_ | refine g_no rfl ?_ | refine g_no0 rfl ?_ | refine g_bk ?_ | refine g_b ?_ | refine g_sk ?_ | refine g_cT rfl ?_ | refine g_cF rfl ?_ | refine g_x rfl ?_ | refine g_lb ?_))
      refine g_rq rfl rfl ⟨by omega, by omega⟩ ?_
      refine g_l1r rfl rfl hb (by rw [Int.toNat_natCast]; exact rd_one (b := b) (c := c) (E := E0) hx hd hlt) ?_
      have hst : flat (ps.take (j + 1)) = flat (ps.take j) ++ ps[j].2 := by rw [List.take_succ_eq_append_getElem hlt, flat_app, flat_one]
      have hle2 := flat_take ps (j + 1)
      rw [hst, List.length_append] at hle2
      obtain ⟨E, hpk⟩ := (hp _ (List.getElem_mem hlt)).in hS
      (repeat (first | refine g_sq ?_ | refine g_rg ?_ | refine g_r0 ?_ | refine g_ok rfl rfl ?_ | refine g_no rfl ?_ | refine g_no0 rfl ?_ | refine g_bk ?_ | refine g_b ?_ | refine g_sk ?_ | refine g_cT rfl ?_ | refine g_cF rfl ?_ | refine g_x rfl ?_ | refine g_lb ?_))
      refine g_ef rfl (ef_ap (bytes := 48) (n := (flat (ps.take j)).length) (m := ps[j].2.length) (ys := fl lc ps[j].2) hS 0 rfl rfl rfl (.inl ⟨E, hpk⟩) (fl_one lc_one _) (by omega) (by omega) fun v2 w1 hS => ?_)
      rw [← fl_app, ← List.length_append, ← hst] at hS
      (repeat (first | refine g_sq ?_ | refine g_rg ?_ | refine g_r0 ?_ | refine g_ok rfl rfl ?_ | refine g_no rfl ?_ | refine g_no0 rfl ?_ | refine g_bk ?_ | refine g_b ?_ | refine g_sk ?_ | refine g_cT rfl ?_ | refine g_cF rfl ?_ | refine g_x rfl ?_ | refine g_lb ?_))
      refine g_rq rfl rfl (in64 (by simp only [arv]; omega)) ?_
      (repeat (first | refine g_sq ?_ | refine g_rg ?_ | refine g_r0 ?_ | refine g_ok rfl rfl ?_ | refine g_no rfl ?_ | refine g_no0 rfl ?_ | refine g_bk ?_ | refine g_b ?_ | refine g_sk ?_ | refine g_cT rfl ?_ | refine g_cF rfl ?_ | refine g_x rfl ?_ | refine g_lb ?_))
      exact g_l (j + 1, v2) ⟨rfl, rfl, rfl, rfl, trivial⟩ ⟨by simp only; omega, hS⟩ (by simp only; omega)
    · have ej : j = k := by omega
      subst ej
      rw [List.take_of_length_le (by omega)] at hS
      (repeat (first | refine g_sq ?_ | refine g_rg ?_ | refine g_r0 ?_ | refine g_ok rfl rfl ?_ | refine g_no rfl ?_ | refine g_no0 rfl ?_ | refine g_bk ?_ | refine g_b ?_ | refine g_sk ?_ | refine g_cT rfl ?_ | refine g_cF rfl ?_ | refine g_x rfl ?_ | refine g_lb ?_))
      exact g_ret (q_1 rfl (h _ _ hS))
end
end Go.Proofs.YtibofabkpgigoaaGreatDoor
namespace Go.Proofs.YtibofabkpgigoaaGreatDoor
open Go.En

/-- by their names -/
def srtN (l : List Li) : List Li := srt (fun x : Li => x.1) l
theorem srtN_perm (l : List Li) : (srtN l).Perm l := srt_perm _ l
theorem srtN_sorted (l : List Li) : (srtN l).Pairwise fun x y => ble x.1 y.1 = true := srt_sorted _ l
theorem srtN_len (l : List Li) : (srtN l).length = l.length := srt_len _ l
theorem chk_nbr {d : List Li} (h : chk d = true) : d.Pairwise nbr := by
  unfold chk at h
  simp only [Bool.and_eq_true, decide_eq_true_eq] at h
  exact h.1
theorem nbr_inj {d : List Li} (h : d.Pairwise nbr) : ∀ x y, x ∈ d → y ∈ d → x.1 = y.1 → x = y := by
  intro x y hx hy e
  obtain ⟨i, hi, rfl⟩ := List.getElem_of_mem hx
  obtain ⟨j, hj, rfl⟩ := List.getElem_of_mem hy
  rw [List.pairwise_iff_getElem] at h
  rcases Nat.lt_trichotomy i j with hij | rfl | hij
  · exact absurd e (h i j hi hj hij).2
  · rfl
  · exact absurd e.symm (h j i hj hi hij).2
theorem chk_srt {l d : List Li} (hp : d.Perm l) (hs : d.Pairwise fun x y => ble x.1 y.1 = true) : chk d = chk (srtN l) ∧ (chk d = true → d = srtN l) := by
  have key : chk d = true → d = srtN l := fun h => (sorted_unique (nbr_inj (chk_nbr h)) ((srtN_perm l).trans hp.symm) (srtN_sorted l) hs).symm
  refine ⟨?_, key⟩
  cases h1 : chk d
  · cases h2 : chk (srtN l)
    · rfl
    · have := sorted_unique (nbr_inj (chk_nbr h2)) (hp.trans (srtN_perm l).symm) hs (srtN_sorted l)
      rw [this, h2] at h1
      cases h1
  · rw [← key h1, h1]
/-- several listings as one -/
def joinS (ls : List (List Li)) : Option (List Li) := if ls.all chk = true ∧ chk (srtN ls.flatten) = true then some (srtN ls.flatten) else none
def jnE (ls : List (List Li)) : Int := if (joinS ls).isSome then 0 else 200
def jnL (ls : List (List Li)) : List Li := (joinS ls).getD []
section
variable {w w0 : World} {S0 : Nat → Prop} {L B : List Res} {K : Value → World → Prop} {s : Bs} {E0 E1 : Nat}
theorem flat_mem {ps : List Lv1} {p : Lv1} (h : p ∈ ps) {x : Li} (hx : x ∈ p.2) : x ∈ flat ps := List.mem_flatten.2 ⟨p.2, List.mem_map.2 ⟨p, h, rfl⟩, hx⟩
theorem flat_len {ps : List Lv1} {p : Lv1} (h : p ∈ ps) : p.2.length ≤ (flat ps).length := by
  obtain ⟨a, b, rfl⟩ := List.append_of_mem h
  have : flat (a ++ p :: b) = flat a ++ (p.2 ++ flat b) := by simp [flat]
  rw [this, List.length_append, List.length_append]
  omega
set_option maxHeartbeats 1000000 in
theorem b_Join {v : Value} {n : Nat} {ps : List Lv1} (hd : ps.length = n) (hn : n < 2000000) (ht : (flat ps).length < 2000000) (hlen : ∀ x ∈ flat ps, x.1.length < 4294967281) (hg : Gl w) (hr : Rd v E0 1 n (ps.map (·.1)) w) (hp : ∀ p ∈ ps, LvR w p)
    (h : ∀ v' w', St w (fun _ => False) w' [row v' 41 33 (jnL (ps.map (·.2))).length (fl lc (jnL (ps.map (·.2))))] → K (.tuple ⟨[v', .int .i64 (jnE (ps.map (·.2)))]⟩) w') : CK Tryz.prog 22 [v] w K := by
  have hS := St.nil w (fun _ => False)
  have hrr : ∀ {L : List Res} (w' : World), St w (fun _ => False) w' L → Rd v E0 1 n (ps.map (·.1)) w' := fun w' hS => hr.same fun b hb => hS.fr.kept b (hr.lt b hb) (fun h => h)
  have bad : joinS (ps.map (·.2)) = none → ∀ w', St w (fun _ => False) w' [] → K (.tuple ⟨[.slice none 0 0, .int .i64 200]⟩) w' := fun e w' hS => by
    have e1 : jnE (ps.map (·.2)) = 200 := by unfold jnE; rw [e]; rfl
    have e2 : jnL (ps.map (·.2)) = [] := by unfold jnL; rw [e]; rfl
    rw [e1, e2] at h
    exact h _ _ (hS.nilrow 41 33)
  obtain ⟨a, c, rfl⟩ := hr.form
  refine call_k Tryz.func22 k22 Tryz.ntmps22 (Nat.le_of_ble_eq_true rfl) ?_
  (repeat (first | refine g_sq ?_ | refine g_rg ?_ | refine g_r0 ?_ | refine g_ok rfl rfl ?_ | refine g_no rfl ?_ | refine g_no0 rfl ?_ | refine g_bk ?_ | refine g_b ?_ | refine g_sk ?_ | refine g_cT rfl ?_ | refine g_cF rfl ?_ | refine g_x rfl ?_ | refine g_lb ?_))
  refine g_lp (ι := Nat) (fun k => [(0, .slice a n c), (9, .slice a n c), (10, .int .i64 n), (11, .int .i64 k)]) (fun k w' => k ≤ n ∧ (∀ j (hj : j < ps.length), j < k → chk ps[j].2 = true) ∧ St w (fun _ => False) w' []) (fun k => n - k) 0 ⟨rfl, rfl, rfl, rfl, trivial⟩ ⟨Nat.zero_le _, fun j _ h => absurd h (Nat.not_lt_zero j), hS⟩ ?_
  clear hS
  rintro k w1 ⟨hk, hC, hS⟩
  (repeat (first | refine g_sq ?_ | refine g_rg ?_ | refine g_r0 ?_ | refine g_ok rfl rfl ?_ | refine g_no rfl ?_ | refine g_no0 rfl ?_ | refine g_bk ?_ | refine g_b ?_ | refine g_sk ?_ | refine g_cT rfl ?_ | refine g_cF rfl ?_ | refine g_x rfl ?_ | refine g_lb ?_))
  (refine g_cd rfl (fun hlt => ?_) (fun hlt => ?_) <;> simp only [cmv, arv, Bool.not_eq_true', Bool.not_eq_false', decide_eq_true_eq, decide_eq_false_iff_not] at hlt)
  · have hlt : k < ps.length := by omega
    obtain ⟨b, off, cap, l, e1, hcap, hl, hx, hb⟩ := Rd.block (hrr _ hS) (by omega)
    cases e1
    (repeat (first | refine g_sq ?_ | refine g_rg ?_ | refine g_r0 ?_ | refine g_ok rfl rfl ?_ | refine g_no rfl ?_ | refine g_no0 rfl ?_ | refine g_bk ?_ | refine g_b ?_ | refine g_sk ?_ | refine g_cT rfl ?_ | refine g_cF rfl ?_ | refine g_x rfl ?_ | refine g_lb ?_))
    refine g_rq rfl rfl ⟨by omega, by omega⟩ ?_
    refine g_l1r rfl rfl hb (by rw [Int.toNat_natCast]; exact rd_one (b := b) (c := c) (E := E0) hx hd hlt) ?_
    obtain ⟨E, hpk⟩ := (hp _ (List.getElem_mem hlt)).in hS
    have hkl := flat_len (List.getElem_mem hlt : ps[k] ∈ ps)
    (repeat (first | refine g_sq ?_ | refine g_rg ?_ | refine g_r0 ?_ | refine g_ok rfl rfl ?_ | refine g_no rfl ?_ | refine g_no0 rfl ?_ | refine g_bk ?_ | refine g_b ?_ | refine g_sk ?_ | refine g_cT rfl ?_ | refine g_cF rfl ?_ | refine g_x rfl ?_ | refine g_lb ?_))
    refine g_cl rfl rfl (b_CheckL rfl (by omega) (fun x hx => hlen x (flat_mem (List.getElem_mem hlt) hx)) (hg.in hS) hpk fun w1 h' => ?_)
    replace hS := hS.call0.2 _ _ h'
    rw [List.append_nil] at hS
    cases hck : chk ps[k].2
    · have e1 : eE ps[k].2 = 200 := by unfold eE; rw [if_neg (by rw [hck]; decide)]
      rw [e1]
      (repeat (first | refine g_sq ?_ | refine g_rg ?_ | refine g_r0 ?_ | refine g_ok rfl rfl ?_ | refine g_no rfl ?_ | refine g_no0 rfl ?_ | refine g_bk ?_ | refine g_b ?_ | refine g_sk ?_ | refine g_cT rfl ?_ | refine g_cF rfl ?_ | refine g_x rfl ?_ | refine g_lb ?_))
      refine g_ret (q_2 rfl rfl (bad ?_ _ hS))
      unfold joinS
      rw [if_neg]
      intro h1
      have := List.all_eq_true.1 h1.1 ps[k].2 (List.mem_map.2 ⟨_, List.getElem_mem hlt, rfl⟩)
      rw [hck] at this
      cases this
    · have e1 : eE ps[k].2 = 0 := by unfold eE; rw [if_pos hck]
      rw [e1]
      (repeat (first | refine g_sq ?_ | refine g_rg ?_ | refine g_r0 ?_ | refine g_ok rfl rfl ?_ | refine g_no rfl ?_ | refine g_no0 rfl ?_ | refine g_bk ?_ | refine g_b ?_ | refine g_sk ?_ | refine g_cT rfl ?_ | refine g_cF rfl ?_ | refine g_x rfl ?_ | refine g_lb ?_))
      refine g_rq rfl rfl (in64 (by simp only [arv]; omega)) ?_
      (repeat (first | refine g_sq ?_ | refine g_rg ?_ | refine g_r0 ?_ | refine g_ok rfl rfl ?_ | refine g_no rfl ?_ | refine g_no0 rfl ?_ | refine g_bk ?_ | refine g_b ?_ | refine g_sk ?_ | refine g_cT rfl ?_ | refine g_cF rfl ?_ | refine g_x rfl ?_ | refine g_lb ?_))
      refine g_l (k + 1) ⟨rfl, rfl, rfl, rfl, trivial⟩ ⟨by omega, fun j hj hjk => ?_, hS⟩ (by omega)
      by_cases e : j = k
      · subst e; exact hck
      · exact hC j hj (by omega)
  · have ek : k = n := by omega
    subst ek
    have hall : (ps.map (·.2)).all chk = true := List.all_eq_true.2 fun l hl => by
      obtain ⟨p, hp, rfl⟩ := List.mem_map.1 hl
      obtain ⟨j, hj, rfl⟩ := List.getElem_of_mem hp
      exact hC j hj (by omega)
    (repeat (first | refine g_sq ?_ | refine g_rg ?_ | refine g_r0 ?_ | refine g_ok rfl rfl ?_ | refine g_no rfl ?_ | refine g_no0 rfl ?_ | refine g_bk ?_ | refine g_b ?_ | refine g_sk ?_ | refine g_cT rfl ?_ | refine g_cF rfl ?_ | refine g_x rfl ?_ | refine g_lb ?_))
    refine g_cl rfl rfl (b_Concat hd hn ht (hrr _ hS) (fun p hp' => (hp p hp').in hS) fun v1 w1 h' => ?_)
    replace hS := hS.call0.2 _ _ h'
    replace hS : St w (fun _ => False) w1 [row v1 41 33 (flat ps).length (fl lc (flat ps))] := hS
    (repeat (first | refine g_sq ?_ | refine g_rg ?_ | refine g_r0 ?_ | refine g_ok rfl rfl ?_ | refine g_no rfl ?_ | refine g_no0 rfl ?_ | refine g_bk ?_ | refine g_b ?_ | refine g_sk ?_ | refine g_cT rfl ?_ | refine g_cF rfl ?_ | refine g_x rfl ?_ | refine g_lb ?_))
    refine g_cl rfl rfl (b_SortL rfl ht hS fun d' w1 hpm hsr hS => ?_)
    have hdl : d'.length = (flat ps).length := hpm.length_eq
    obtain ⟨hc1, hc2⟩ := chk_srt hpm hsr
    (repeat (first | refine g_sq ?_ | refine g_rg ?_ | refine g_r0 ?_ | refine g_ok rfl rfl ?_ | refine g_no rfl ?_ | refine g_no0 rfl ?_ | refine g_bk ?_ | refine g_b ?_ | refine g_sk ?_ | refine g_cT rfl ?_ | refine g_cF rfl ?_ | refine g_x rfl ?_ | refine g_lb ?_))
    refine g_cl rfl rfl (b_CheckL hdl (by omega) (fun x hx => hlen x (hpm.mem_iff.1 hx)) (hg.in hS) (Ow.rd (hS.ok 0 _ rfl)) fun w1 h' => ?_)
    replace hS := hS.call0.2 _ _ h'
    rw [List.append_nil] at hS
    have eF : (ps.map (·.2)).flatten = flat ps := rfl
    cases hck : chk d'
    · have e1 : eE d' = 200 := by unfold eE; rw [if_neg (by rw [hck]; decide)]
      rw [e1]
      (repeat (first | refine g_sq ?_ | refine g_rg ?_ | refine g_r0 ?_ | refine g_ok rfl rfl ?_ | refine g_no rfl ?_ | refine g_no0 rfl ?_ | refine g_bk ?_ | refine g_b ?_ | refine g_sk ?_ | refine g_cT rfl ?_ | refine g_cF rfl ?_ | refine g_x rfl ?_ | refine g_lb ?_))
      refine g_ret (q_2 rfl rfl (bad ?_ _ (hS.sel [] rfl rfl)))
      unfold joinS
      rw [if_neg]
      intro h1
      rw [eF, ← hc1, hck] at h1
      cases h1.2
    · have e1 : eE d' = 0 := by unfold eE; rw [if_pos hck]
      have e2 : joinS (ps.map (·.2)) = some d' := by
        unfold joinS
        rw [if_pos ⟨hall, by rw [eF, ← hc1]; exact hck⟩, eF, ← hc2 hck]
      have e3 : jnE (ps.map (·.2)) = 0 := by unfold jnE; rw [e2]; rfl
      have e4 : jnL (ps.map (·.2)) = d' := by unfold jnL; rw [e2]; rfl
      rw [e3, e4, hdl] at h
      rw [e1]
      obtain ⟨a1, c1, rfl⟩ := hS.rlen 0 rfl
      (repeat (first | refine g_sq ?_ | refine g_rg ?_ | refine g_r0 ?_ | refine g_ok rfl rfl ?_ | refine g_no rfl ?_ | refine g_no0 rfl ?_ | refine g_bk ?_ | refine g_b ?_ | refine g_sk ?_ | refine g_cT rfl ?_ | refine g_cF rfl ?_ | refine g_x rfl ?_ | refine g_lb ?_))
      exact g_ret (q_2 rfl rfl (h _ _ hS))
end
end Go.Proofs.YtibofabkpgigoaaGreatDoor
