/- Several listings as one: listing.Join. -/
import Derived.Test.YtibofabkpgigoaaGreatDoorNf1
import Derived.Test.YtibofabkpgigoaaGreatDoorNb6
set_option linter.unusedSimpArgs false
set_option linter.unusedVariables false
namespace Go.Proofs.YtibofabkpgigoaaGreatDoor
open Go.En

/-- by their names -/
def srtN (l : List Li) : List Li := srt (fun x : Li => x.1) l
theorem srtN_perm (l : List Li) : (srtN l).Perm l := srt_perm _ l
theorem srtN_sorted (l : List Li) : (srtN l).Pairwise fun x y => ble x.1 y.1 = true := srt_sorted _ l
theorem srtN_len (l : List Li) : (srtN l).length = l.length := srt_len _ l
theorem chk_nbr {d : List Li} (h : chk d = true) : d.Pairwise nbr := by
  unfold chk at h
  simp only [Bool.and_eq_true, decide_eq_true_eq] at h
  exact h.1
theorem nbr_inj {d : List Li} (h : d.Pairwise nbr) : ∀ x y, x ∈ d → y ∈ d → x.1 = y.1 → x = y := by
  intro x y hx hy e
  obtain ⟨i, hi, rfl⟩ := List.getElem_of_mem hx
  obtain ⟨j, hj, rfl⟩ := List.getElem_of_mem hy
  rw [List.pairwise_iff_getElem] at h
  rcases Nat.lt_trichotomy i j with hij | rfl | hij
  · exact absurd e (h i j hi hj hij).2
  · rfl
  · exact absurd e.symm (h j i hj hi hij).2
theorem chk_srt {l d : List Li} (hp : d.Perm l) (hs : d.Pairwise fun x y => ble x.1 y.1 = true) : chk d = chk (srtN l) ∧ (chk d = true → d = srtN l) := by
  have key : chk d = true → d = srtN l := fun h => (sorted_unique (nbr_inj (chk_nbr h)) ((srtN_perm l).trans hp.symm) (srtN_sorted l) hs).symm
  refine ⟨?_, key⟩
  cases h1 : chk d
  · cases h2 : chk (srtN l)
    · rfl
    · have := sorted_unique (nbr_inj (chk_nbr h2)) (hp.trans (srtN_perm l).symm) hs (srtN_sorted l)
      rw [this, h2] at h1
      cases h1
  · rw [← key h1, h1]
/-- several listings as one -/
def joinS (ls : List (List Li)) : Option (List Li) := if ls.all chk = true ∧ chk (srtN ls.flatten) = true then some (srtN ls.flatten) else none
def jnE (ls : List (List Li)) : Int := if (joinS ls).isSome then 0 else 200
def jnL (ls : List (List Li)) : List Li := (joinS ls).getD []
section
variable {w w0 : World} {S0 : Nat → Prop} {L B : List Res} {K : Value → World → Prop} {s : Bs} {E0 E1 : Nat}
theorem flat_mem {ps : List Lv1} {p : Lv1} (h : p ∈ ps) {x : Li} (hx : x ∈ p.2) : x ∈ flat ps := List.mem_flatten.2 ⟨p.2, List.mem_map.2 ⟨p, h, rfl⟩, hx⟩
theorem flat_len {ps : List Lv1} {p : Lv1} (h : p ∈ ps) : p.2.length ≤ (flat ps).length := by
  obtain ⟨a, b, rfl⟩ := List.append_of_mem h
  have : flat (a ++ p :: b) = flat a ++ (p.2 ++ flat b) := by simp [flat]
  rw [this, List.length_append, List.length_append]
  omega
set_option maxHeartbeats 1000000 in
theorem b_Join {v : Value} {n : Nat} {ps : List Lv1} (hd : ps.length = n) (hn : n < 2000000) (ht : (flat ps).length < 2000000) (hlen : ∀ x ∈ flat ps, x.1.length < 4294967281) (hg : Gl w) (hr : Rd v E0 1 n (ps.map (·.1)) w) (hp : ∀ p ∈ ps, LvR w p)
    (h : ∀ v' w', St w (fun _ => False) w' [row v' 41 33 (jnL (ps.map (·.2))).length (fl lc (jnL (ps.map (·.2))))] → K (.tuple ⟨[v', .int .i64 (jnE (ps.map (·.2)))]⟩) w') : CK Tryz.prog 22 [v] w K := by
  have hS := St.nil w (fun _ => False)
  have hrr : ∀ {L : List Res} (w' : World), St w (fun _ => False) w' L → Rd v E0 1 n (ps.map (·.1)) w' := fun w' hS => hr.same fun b hb => hS.fr.kept b (hr.lt b hb) (fun h => h)
  have bad : joinS (ps.map (·.2)) = none → ∀ w', St w (fun _ => False) w' [] → K (.tuple ⟨[.slice none 0 0, .int .i64 200]⟩) w' := fun e w' hS => by
    have e1 : jnE (ps.map (·.2)) = 200 := by unfold jnE; rw [e]; rfl
    have e2 : jnL (ps.map (·.2)) = [] := by unfold jnL; rw [e]; rfl
    rw [e1, e2] at h
    exact h _ _ (hS.nilrow 41 33)
  obtain ⟨a, c, rfl⟩ := hr.form
  refine call_k Tryz.func22 k22 Tryz.ntmps22 (Nat.le_of_ble_eq_true rfl) ?_
  (repeat (first | refine g_sq ?_ | refine g_rg ?_ | refine g_r0 ?_ | refine g_ok rfl rfl ?_ | refine g_no rfl ?_ | refine g_no0 rfl ?_ | refine g_bk ?_ | refine g_b ?_ | refine g_sk ?_ | refine g_cT rfl ?_ | refine g_cF rfl ?_ | refine g_x rfl ?_ | refine g_lb ?_))
  refine g_lp (ι := Nat) (fun k => [(0, .slice a n c), (9, .slice a n c), (10, .int .i64 n), (11, .int .i64 k)]) (fun k w' => k ≤ n ∧ (∀ j (hj : j < ps.length), j < k → chk ps[j].2 = true) ∧ St w (fun _ => False) w' []) (fun k => n - k) 0 ⟨rfl, rfl, rfl, rfl, trivial⟩ ⟨Nat.zero_le _, fun j _ h => absurd h (Nat.not_lt_zero j), hS⟩ ?_
  clear hS
  rintro k w1 ⟨hk, hC, hS⟩
  (repeat (first | refine g_sq ?_ | refine g_rg ?_ | refine g_r0 ?_ | refine g_ok rfl rfl ?_ | refine g_no rfl ?_ | refine g_no0 rfl ?_ | refine g_bk ?_ | refine g_b ?_ | refine g_sk ?_ | refine g_cT rfl ?_ | refine g_cF rfl ?_ | refine g_x rfl ?_ | refine g_lb ?_))
  (refine g_cd rfl (fun hlt => ?_) (fun hlt => ?_) <;> simp only [cmv, arv, Bool.not_eq_true', Bool.not_eq_false', decide_eq_true_eq, decide_eq_false_iff_not] at hlt)
  · have hlt : k < ps.length := by omega
    obtain ⟨b, off, cap, l, e1, hcap, hl, hx, hb⟩ := Rd.block (hrr _ hS) (by omega)
    cases e1
    (repeat (first | refine g_sq ?_ | refine g_rg ?_ | refine g_r0 ?_ | refine g_ok rfl rfl ?_ | refine g_no rfl ?_ | refine g_no0 rfl ?_ | refine g_bk ?_ | refine g_b ?_ | refine g_sk ?_ | refine g_cT rfl ?_ | refine g_cF rfl ?_ | refine g_x rfl ?_ | refine g_lb ?_))
    refine g_rq rfl rfl ⟨by omega, by omega⟩ ?_
    refine g_l1r rfl rfl hb (by rw [Int.toNat_natCast]; exact rd_one (b := b) (c := c) (E := E0) hx hd hlt) ?_
    obtain ⟨E, hpk⟩ := (hp _ (List.getElem_mem hlt)).in hS
    have hkl := flat_len (List.getElem_mem hlt : ps[k] ∈ ps)
    (repeat (first | refine g_sq ?_ | refine g_rg ?_ | refine g_r0 ?_ | refine g_ok rfl rfl ?_ | refine g_no rfl ?_ | refine g_no0 rfl ?_ | refine g_bk ?_ | refine g_b ?_ | refine g_sk ?_ | refine g_cT rfl ?_ | refine g_cF rfl ?_ | refine g_x rfl ?_ | refine g_lb ?_))
    refine g_cl rfl rfl (b_CheckL rfl (by omega) (fun x hx => hlen x (flat_mem (List.getElem_mem hlt) hx)) (hg.in hS) hpk fun w1 h' => ?_)
    replace hS := hS.call0.2 _ _ h'
    rw [List.append_nil] at hS
    cases hck : chk ps[k].2
    · have e1 : eE ps[k].2 = 200 := by unfold eE; rw [if_neg (by rw [hck]; decide)]
      rw [e1]
      (repeat (first | refine g_sq ?_ | refine g_rg ?_ | refine g_r0 ?_ | refine g_ok rfl rfl ?_ | refine g_no rfl ?_ | refine g_no0 rfl ?_ | refine g_bk ?_ | refine g_b ?_ | refine g_sk ?_ | refine g_cT rfl ?_ | refine g_cF rfl ?_ | refine g_x rfl ?_ | refine g_lb ?_))
      refine g_ret (q_2 rfl rfl (bad ?_ _ hS))
      unfold joinS
      rw [if_neg]
      intro h1
      have := List.all_eq_true.1 h1.1 ps[k].2 (List.mem_map.2 ⟨_, List.getElem_mem hlt, rfl⟩)
      rw [hck] at this
      cases this
    · have e1 : eE ps[k].2 = 0 := by unfold eE; rw [if_pos hck]
      rw [e1]
      (repeat (first | refine g_sq ?_ | refine g_rg ?_ | refine g_r0 ?_ | refine g_ok rfl rfl ?_ | refine g_no rfl ?_ | refine g_no0 rfl ?_ | refine g_bk ?_ | refine g_b ?_ | refine g_sk ?_ | refine g_cT rfl ?_ | refine g_cF rfl ?_ | refine g_x rfl ?_ | refine g_lb ?_))
      refine g_rq rfl rfl (in64 (by simp only [arv]; omega)) ?_
      (repeat (first | refine g_sq ?_ | refine g_rg ?_ | refine g_r0 ?_ | refine g_ok rfl rfl ?_ | refine g_no rfl ?_ | refine g_no0 rfl ?_ | refine g_bk ?_ | refine g_b ?_ | refine g_sk ?_ | refine g_cT rfl ?_ | refine g_cF rfl ?_ | refine g_x rfl ?_ | refine g_lb ?_))
      refine g_l (k + 1) ⟨rfl, rfl, rfl, rfl, trivial⟩ ⟨by omega, fun j hj hjk => ?_, hS⟩ (by omega)
      by_cases e : j = k
      · subst e; exact hck
      · exact hC j hj (by omega)
  · have ek : k = n := by omega
    subst ek
    have hall : (ps.map (·.2)).all chk = true := List.all_eq_true.2 fun l hl => by
      obtain ⟨p, hp, rfl⟩ := List.mem_map.1 hl
      obtain ⟨j, hj, rfl⟩ := List.getElem_of_mem hp
      exact hC j hj (by omega)
    (repeat (first | refine g_sq ?_ | refine g_rg ?_ | refine g_r0 ?_ | refine g_ok rfl rfl ?_ | refine g_no rfl ?_ | refine g_no0 rfl ?_ | refine g_bk ?_ | refine g_b ?_ | refine g_sk ?_ | refine g_cT rfl ?_ | refine g_cF rfl ?_ | refine g_x rfl ?_ | refine g_lb ?_))
    refine g_cl rfl rfl (b_Concat hd hn ht (hrr _ hS) (fun p hp' => (hp p hp').in hS) fun v1 w1 h' => ?_)
    replace hS := hS.call0.2 _ _ h'
    replace hS : St w (fun _ => False) w1 [row v1 41 33 (flat ps).length (fl lc (flat ps))] := hS
    (repeat (first | refine g_sq ?_ | refine g_rg ?_ | refine g_r0 ?_ | refine g_ok rfl rfl ?_ | refine g_no rfl ?_ | refine g_no0 rfl ?_ | refine g_bk ?_ | refine g_b ?_ | refine g_sk ?_ | refine g_cT rfl ?_ | refine g_cF rfl ?_ | refine g_x rfl ?_ | refine g_lb ?_))
    refine g_cl rfl rfl (b_SortL rfl ht hS fun d' w1 hpm hsr hS => ?_)
    have hdl : d'.length = (flat ps).length := hpm.length_eq
    obtain ⟨hc1, hc2⟩ := chk_srt hpm hsr
    (repeat (first | refine g_sq ?_ | refine g_rg ?_ | refine g_r0 ?_ | refine g_ok rfl rfl ?_ | refine g_no rfl ?_ | refine g_no0 rfl ?_ | refine g_bk ?_ | refine g_b ?_ | refine g_sk ?_ | refine g_cT rfl ?_ | refine g_cF rfl ?_ | refine g_x rfl ?_ | refine g_lb ?_))
    refine g_cl rfl rfl (b_CheckL hdl (by omega) (fun x hx => hlen x (hpm.mem_iff.1 hx)) (hg.in hS) (Ow.rd (hS.ok 0 _ rfl)) fun w1 h' => ?_)
    replace hS := hS.call0.2 _ _ h'
    rw [List.append_nil] at hS
    have eF : (ps.map (·.2)).flatten = flat ps := rfl
    cases hck : chk d'
    · have e1 : eE d' = 200 := by unfold eE; rw [if_neg (by rw [hck]; decide)]
      rw [e1]
      (repeat (first | refine g_sq ?_ | refine g_rg ?_ | refine g_r0 ?_ | refine g_ok rfl rfl ?_ | refine g_no rfl ?_ | refine g_no0 rfl ?_ | refine g_bk ?_ | refine g_b ?_ | refine g_sk ?_ | refine g_cT rfl ?_ | refine g_cF rfl ?_ | refine g_x rfl ?_ | refine g_lb ?_))
      refine g_ret (q_2 rfl rfl (bad ?_ _ (hS.sel [] rfl rfl)))
      unfold joinS
      rw [if_neg]
      intro h1
      rw [eF, ← hc1, hck] at h1
      cases h1.2
    · have e1 : eE d' = 0 := by unfold eE; rw [if_pos hck]
      have e2 : joinS (ps.map (·.2)) = some d' := by
        unfold joinS
        rw [if_pos ⟨hall, by rw [eF, ← hc1]; exact hck⟩, eF, ← hc2 hck]
      have e3 : jnE (ps.map (·.2)) = 0 := by unfold jnE; rw [e2]; rfl
      have e4 : jnL (ps.map (·.2)) = d' := by unfold jnL; rw [e2]; rfl
      rw [e3, e4, hdl] at h
      rw [e1]
      obtain ⟨a1, c1, rfl⟩ := hS.rlen 0 rfl
      (repeat (first | refine g_sq ?_ | refine g_rg ?_ | refine g_r0 ?_ | refine g_ok rfl rfl ?_ | refine g_no rfl ?_ | refine g_no0 rfl ?_ | refine g_bk ?_ | refine g_b ?_ | refine g_sk ?_ | refine g_cT rfl ?_ | refine g_cF rfl ?_ | refine g_x rfl ?_ | refine g_lb ?_))
      exact g_ret (q_2 rfl rfl (h _ _ hS))
end
end Go.Proofs.YtibofabkpgigoaaGreatDoor
