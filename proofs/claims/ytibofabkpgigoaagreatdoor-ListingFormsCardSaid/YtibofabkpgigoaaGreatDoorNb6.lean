/- May a listing be? -/
import Derived.Test.YtibofabkpgigoaaGreatDoorNb5
set_option linter.unusedSimpArgs false
set_option linter.unusedVariables false
namespace Go.Proofs.YtibofabkpgigoaaGreatDoor
open Go.En

def nbr (x y : Li) : Prop := ble x.1 y.1 = true ∧ x.1 ≠ y.1
instance (x y : Li) : Decidable (nbr x y) := by unfold nbr; infer_instance
/-- may a listing be? -/
def chk (d : List Li) : Bool := decide (d.Pairwise nbr) && (d.all (fun x => (ent x).2.2) && d.all fun x => !(ent x).2.1 || d.all fun y => (ent y).2.1 || decide ((ent y).1 ≠ (ent x).1))
/-- the map of the refs that stand under their names alone, when k were gone through -/
def mpOk (d : List Li) (k : Nat) (es : List MapEntry) : Prop :=
  (∀ e ∈ es, strK e.key ∧ ∃ m : Nat, 1 ≤ m ∧ m ≤ k ∧ e.val = .int .i64 m) ∧ ∀ r : Bs, (∃ e ∈ es, e.key = sv r) ↔ ∃ j, ∃ h : j < d.length, j < k ∧ (ent d[j]).2.1 = false ∧ (ent d[j]).1 = r
/-- so far nothing is wrong -/
def pre (d : List Li) (k : Nat) : Prop := (0 < k → srtd d = true) ∧ ∀ j (h : j < d.length), j < k → (ent d[j]).2.2 = true ∧ d[j].1 ≠ (if j = 0 then [] else (d[j - 1]'(by omega)).1)
def lastN (d : List Li) (k : Nat) : Bs := if k = 0 then [] else (d.getD (k - 1) default).1
structure CS where
  f : Bool
  es : List MapEntry
  c : Nat
  last : Bs
section
variable {w w0 : World} {S0 : Nat → Prop} {L B : List Res} {K : Value → World → Prop} {s : Bs} {E0 E1 : Nat}
theorem bad_srt {d : List Li} (h : srtd d = false) : chk d = false := by
  unfold chk
  rw [decide_eq_false, Bool.false_and]
  intro hp
  unfold srtd at h
  rw [decide_eq_false_iff_not] at h
  exact h (hp.imp fun h => h.1)
theorem bad_is {d : List Li} {k : Nat} (hk : k < d.length) (h : (ent d[k]).2.2 = false) : chk d = false := by
  unfold chk
  have : d.all (fun x => (ent x).2.2) = false := by
    rw [List.all_eq_false]
    exact ⟨d[k], List.getElem_mem _, by rw [h]; decide⟩
  rw [this, Bool.false_and, Bool.and_false]
theorem bad_nm {d : List Li} {k : Nat} (h0 : 0 < k) (hk : k < d.length) (h : d[k].1 = (d[k - 1]'(by omega)).1) : chk d = false := by
  unfold chk
  rw [decide_eq_false, Bool.false_and]
  intro hp
  exact (List.pairwise_iff_getElem.1 hp (k - 1) k (by omega) hk (by omega)).2 h.symm
theorem ent_nil (t : Id) : (ent ([], t)).2.2 = false := by
  have : (spN []).2.2.2 = 40 := by decide
  unfold ent
  simp [this]
theorem sv_inj {r t : Bs} (h : sv r = sv t) : r = t := by
  unfold sv at h
  simpa using h
theorem keys_app (es : List MapEntry) (x : MapEntry) {t : Bs} (hx : x.key = sv t) (r : Bs) : (∃ e ∈ es ++ [x], e.key = sv r) ↔ (∃ e ∈ es, e.key = sv r) ∨ r = t := by
  constructor
  · rintro ⟨e, he, h⟩
    rcases List.mem_append.1 he with he | he
    · exact .inl ⟨e, he, h⟩
    · rw [List.mem_singleton.1 he, hx] at h
      exact .inr (sv_inj h).symm
  · rintro (⟨e, he, h⟩ | rfl)
    · exact ⟨e, List.mem_append_left _ he, h⟩
    · exact ⟨x, List.mem_append_right _ (List.mem_singleton.2 rfl), hx⟩
theorem keys_set {es : List MapEntry} {j : Nat} {e0 : MapEntry} {t : Bs} (hj : es[j]? = some e0) (h0 : e0.key = sv t) (x : MapEntry) (hx : x.key = sv t) (r : Bs) : (∃ e ∈ es.set j x, e.key = sv r) ↔ (∃ e ∈ es, e.key = sv r) ∨ r = t := by
  have hlt := (List.getElem?_eq_some_iff.1 hj).1
  constructor
  · rintro ⟨e, he, h⟩
    rcases List.mem_or_eq_of_mem_set he with he | rfl
    · exact .inl ⟨e, he, h⟩
    · rw [hx] at h; exact .inr (sv_inj h).symm
  · rintro (⟨e, he, h⟩ | rfl)
    · obtain ⟨i, hi, rfl⟩ := List.getElem_of_mem he
      by_cases e : i = j
      · subst e
        refine ⟨x, List.mem_set hlt x, ?_⟩
        rw [hx, ← h0, ← h]
        rw [List.getElem?_eq_getElem hi] at hj
        exact (congrArg MapEntry.key (Option.some.inj hj)).symm
      · refine ⟨es[i], ?_, h⟩
        refine List.mem_of_getElem? (i := i) ?_
        rw [List.getElem?_set_ne (fun h => e h.symm), List.getElem?_eq_getElem hi]
    · exact ⟨x, List.mem_set hlt x, hx⟩
theorem mp_skip {d : List Li} {k : Nat} {es : List MapEntry} (hk : k < d.length) (hc : (ent d[k]).2.1 = true) (h : mpOk d k es) : mpOk d (k + 1) es := by
  refine ⟨fun e he => ⟨(h.1 e he).1, ?_⟩, fun r => (h.2 r).trans ?_⟩
  · obtain ⟨m, h1, h2, h3⟩ := (h.1 e he).2
    exact ⟨m, h1, by omega, h3⟩
  · constructor
    · rintro ⟨j, hj, hjk, h1⟩
      exact ⟨j, hj, by omega, h1⟩
    · rintro ⟨j, hj, hjk, h1, h2⟩
      by_cases e : j = k
      · subst e; rw [hc] at h1; cases h1
      · exact ⟨j, hj, by omega, h1, h2⟩
theorem mp_add {d : List Li} {k : Nat} {es es' : List MapEntry} (hk : k < d.length) (hc : (ent d[k]).2.1 = false) (h : mpOk d k es) (h1 : ∀ e ∈ es', strK e.key ∧ ∃ m : Nat, 1 ≤ m ∧ m ≤ k + 1 ∧ e.val = .int .i64 m)
    (h2 : ∀ r : Bs, (∃ e ∈ es', e.key = sv r) ↔ (∃ e ∈ es, e.key = sv r) ∨ r = (ent d[k]).1) : mpOk d (k + 1) es' := by
  refine ⟨h1, fun r => (h2 r).trans ?_⟩
  rw [h.2 r]
  constructor
  · rintro (⟨j, hj, hjk, h1⟩ | rfl)
    · exact ⟨j, hj, by omega, h1⟩
    · exact ⟨k, hk, by omega, hc, rfl⟩
  · rintro ⟨j, hj, hjk, h3, h4⟩
    by_cases e : j = k
    · subst e; exact .inr h4.symm
    · exact .inl ⟨j, hj, by omega, h3, h4⟩
theorem chk_conf {d : List Li} (h : chk d = true) {i j : Nat} (hj : j < d.length) (hc : (ent d[j]).2.1 = true) (hi : i < d.length) (hci : (ent d[i]).2.1 = false) (e : (ent d[i]).1 = (ent d[j]).1) : False := by
  unfold chk at h
  simp only [Bool.and_eq_true, List.all_eq_true, Bool.or_eq_true, Bool.not_eq_true', decide_eq_true_eq] at h
  rcases h.2.2 d[j] (List.getElem_mem _) with h1 | h1
  · rw [hc] at h1; cases h1
  · rcases h1 d[i] (List.getElem_mem _) with h2 | h2
    · rw [hci] at h2; cases h2
    · exact h2 e
theorem chk_good {d : List Li} {n : Nat} (hp : pre d n) (hc : ∀ j (hj : j < d.length), (ent d[j]).2.1 = true → ∀ i (hi : i < d.length), (ent d[i]).2.1 = false → (ent d[i]).1 = (ent d[j]).1 → False) (hn : d.length ≤ n) : chk d = true := by
  unfold chk
  simp only [Bool.and_eq_true, List.all_eq_true, Bool.or_eq_true, Bool.not_eq_true', decide_eq_true_eq]
  refine ⟨?_, ?_, ?_⟩
  · cases hd : d with
    | nil => exact List.Pairwise.nil
    | cons x r =>
      rw [← hd]
      have hs := hp.1 (by rw [hd] at hn; simp at hn; omega)
      unfold srtd at hs
      rw [decide_eq_true_eq] at hs
      rw [List.pairwise_iff_getElem] at hs ⊢
      intro i j hi hj hij
      refine ⟨hs i j hi hj hij, fun e => ?_⟩
      have h1 := (hp.2 j hj (by omega)).2
      rw [if_neg (by omega)] at h1
      refine h1 ?_
      by_cases ei : i = j - 1
      · subst ei; exact e.symm
      · have h2 := hs i (j - 1) hi (by omega) (by omega)
        have h3 := hs (j - 1) j (by omega) hj (by omega)
        rw [e] at h2
        exact ble_anti h2 h3
  · intro x hx
    obtain ⟨i, hi, rfl⟩ := List.getElem_of_mem hx
    exact (hp.2 i hi (by omega)).1
  · intro x hx
    obtain ⟨j, hj, rfl⟩ := List.getElem_of_mem hx
    cases hcj : (ent d[j]).2.1
    · exact .inl rfl
    · refine .inr fun y hy => ?_
      obtain ⟨i, hi, rfl⟩ := List.getElem_of_mem hy
      cases hci : (ent d[i]).2.1
      · exact .inr fun e => hc j hj hcj i hi hci e
      · exact .inl rfl
def eE (d : List Li) : Int := if chk d = true then 0 else 200
set_option maxHeartbeats 4000000 in
theorem b_CheckL {d : List Li} {v : Value} {n : Nat} (hd : d.length = n) (hn : n < 2000000) (hlen : ∀ x ∈ d, x.1.length < 4294967281) (hg : Gl w) (hr : Rd v E0 33 n (fl lc d) w) (h : ∀ w', St w (fun _ => False) w' [] → K (.int .i64 (eE d)) w') : CK Tryz.prog 9 [v] w K := by
  have hS := St.nil w (fun _ => False)
  have hrr : ∀ {L : List Res} (w' : World), St w (fun _ => False) w' L → Rd v E0 33 n (fl lc d) w' := fun w' hS => hr.same fun b hb => hS.fr.kept b (hr.lt b hb) (fun h => h)
  obtain ⟨a, c, rfl⟩ := hr.form
  refine call_k Tryz.func9 k9 Tryz.ntmps9 (Nat.le_of_ble_eq_true rfl) ?_
  (repeat (first | refine g_sq ?_ | refine g_rg ?_ | refine g_r0 ?_ | refine g_ok rfl rfl ?_ | refine g_no rfl ?_ | refine g_no0 rfl ?_ | refine g_bk ?_ | refine g_b ?_ | refine g_sk ?_ | refine g_cT rfl ?_ | refine g_cF rfl ?_ | refine g_x rfl ?_ | refine g_lb ?_))
  refine g_sc rfl ?_
  (repeat (first | refine g_sq ?_ | refine g_rg ?_ | refine g_r0 ?_ | refine g_ok rfl rfl ?_ | refine g_no rfl ?_ | refine g_no0 rfl ?_ | refine g_bk ?_ | refine g_b ?_ | refine g_sk ?_ | refine g_cT rfl ?_ | refine g_cF rfl ?_ | refine g_x rfl ?_ | refine g_lb ?_))
  refine g_cl rfl rfl (b_IsSorted hd hn hr fun w1 hS => ?_)
  (repeat (first | refine g_sq ?_ | refine g_rg ?_ | refine g_r0 ?_ | refine g_ok rfl rfl ?_ | refine g_no rfl ?_ | refine g_no0 rfl ?_ | refine g_bk ?_ | refine g_b ?_ | refine g_sk ?_ | refine g_cT rfl ?_ | refine g_cF rfl ?_ | refine g_x rfl ?_ | refine g_lb ?_))
  refine g_ef rfl (ef_al hS fun b3 w1 hS => ?_)
  (repeat (first | refine g_sq ?_ | refine g_rg ?_ | refine g_r0 ?_ | refine g_ok rfl rfl ?_ | refine g_no rfl ?_ | refine g_no0 rfl ?_ | refine g_bk ?_ | refine g_b ?_ | refine g_sk ?_ | refine g_cT rfl ?_ | refine g_cF rfl ?_ | refine g_x rfl ?_ | refine g_lb ?_))
  refine g_ef0 rfl (ef_st hS 0 rfl rfl rfl rfl (Nat.le_of_ble_eq_true rfl) rfl fun w1 hS => ?_)
  (repeat (first | refine g_sq ?_ | refine g_rg ?_ | refine g_r0 ?_ | refine g_ok rfl rfl ?_ | refine g_no rfl ?_ | refine g_no0 rfl ?_ | refine g_bk ?_ | refine g_b ?_ | refine g_sk ?_ | refine g_cT rfl ?_ | refine g_cF rfl ?_ | refine g_x rfl ?_ | refine g_lb ?_))
  refine g_ef rfl (ef_mkm hS fun mb w1 hS => ?_)
  refine g_ef rfl (ef_al hS fun b4 w1 hS => ?_)
  refine g_ef0 rfl (ef_st hS 2 rfl rfl rfl rfl (Nat.le_of_ble_eq_true rfl) rfl fun w1 hS => ?_)
  (repeat (first | refine g_sq ?_ | refine g_rg ?_ | refine g_r0 ?_ | refine g_ok rfl rfl ?_ | refine g_no rfl ?_ | refine g_no0 rfl ?_ | refine g_bk ?_ | refine g_b ?_ | refine g_sk ?_ | refine g_cT rfl ?_ | refine g_cF rfl ?_ | refine g_x rfl ?_ | refine g_lb ?_))
  refine g_ef rfl (ef_al hS fun b5 w1 hS => ?_)
  refine g_ef0 rfl (ef_st hS 3 rfl rfl rfl rfl (Nat.le_of_ble_eq_true rfl) rfl fun w1 hS => ?_)
  (repeat (first | refine g_sq ?_ | refine g_rg ?_ | refine g_r0 ?_ | refine g_ok rfl rfl ?_ | refine g_no rfl ?_ | refine g_no0 rfl ?_ | refine g_bk ?_ | refine g_b ?_ | refine g_sk ?_ | refine g_cT rfl ?_ | refine g_cF rfl ?_ | refine g_x rfl ?_ | refine g_lb ?_))
  refine g_cl rfl rfl (b_entries rfl rfl fun b1 w1 h' => ?_)
  replace hS := hS.call0.2 _ _ h'
  replace hS : St w (fun _ => False) w1 [cel b3 [.bool (srtd d)] 4, obj mb (.map ⟨[]⟩ 0), cel b4 [.map (some mb)] 51, cel b5 [sv []] 9, cel b1 [.slice a n c] 22] := hS
  clear h'
  refine g_r0 ?_
  refine g_atd 1 [(0, .slice a n c), (3, dp b3), (4, dp b4)] (fun D1 w' => ∃ dB, D1 = [⟨.collected dB, #[]⟩] ∧ ∃ (f : Bool) (es : List MapEntry) (q : Nat), ((f = true → pre d n ∧ mpOk d n es) ∧ (f = false → chk d = false)) ∧ (∀ e ∈ es, strK e.key) ∧
    St w (fun _ => False) w' [cel b3 [.bool f] 4, obj mb (.map ⟨es⟩ q), cel b4 [.map (some mb)] 51, obj dB (.deferred (some []))]) rfl ?_ ?_
  · (repeat (first | refine g_sq ?_ | refine g_rg ?_ | refine g_r0 ?_ | refine g_ok rfl rfl ?_ | refine g_no rfl ?_ | refine g_no0 rfl ?_ | refine g_bk ?_ | refine g_b ?_ | refine g_sk ?_ | refine g_cT rfl ?_ | refine g_cF rfl ?_ | refine g_x rfl ?_ | refine g_lb ?_))
    refine g_wkc (T' := [(14, .func (.func 61) ⟨[]⟩ ⟨[dp b1]⟩), (0, .slice a n c), (3, dp b3), (4, dp b4), (5, dp b5)]) ⟨rfl, rfl, rfl, rfl, rfl, trivial⟩ ?_
    refine g_rf (cap := [dp b1]) (first := []) hS rfl (callFunc_of Tryz.func61 rfl rfl) fun l dB w2 hS => ?_
    refine d_entries (ι := CS) (Ls := fun σ => [cel b3 [.bool σ.f] 4, obj mb (.map ⟨σ.es⟩ σ.c), cel b4 [.map (some mb)] 51, cel b5 [sv σ.last] 9, cel b1 [.slice a n c] 22, obj dB (.deferred (some [])), _]) (Inv := fun k σ => σ.f = (if k = 0 then srtd d else true) ∧ pre d k ∧ mpOk d k σ.es ∧ σ.last = lastN d k) (i := 4) hd hn hlen (fun σ => rfl) (fun σ w' hS => hrr w' hS) (fun σ w' hS => hg.in hS) (σ0 := ⟨srtd d, [], 0, []⟩) ?_ hS ?_ ?_
    · exact ⟨rfl, ⟨fun h => absurd h (Nat.lt_irrefl 0), fun j hj h => absurd h (Nat.not_lt_zero j)⟩, ⟨fun e he => (nomatch he), fun r => ⟨fun ⟨e, he, _⟩ => (nomatch he), fun ⟨j, _, h, _⟩ => absurd h (Nat.not_lt_zero j)⟩⟩, rfl⟩
    · clear hS
      rintro k hk ⟨f, es, q, la⟩ w2 ⟨hf, hp, hm, hla⟩ hS
      dsimp only at hf hp hm hla hS
      refine yd_of hS 6 rfl rfl ?_
      generalize hX : d[k] = X
      (repeat (first | refine g_sq ?_ | refine g_rg ?_ | refine g_r0 ?_ | refine g_ok rfl rfl ?_ | refine g_no rfl ?_ | refine g_no0 rfl ?_ | refine g_bk ?_ | refine g_b ?_ | refine g_sk ?_ | refine g_cT rfl ?_ | refine g_cF rfl ?_ | refine g_x rfl ?_ | refine g_lb ?_))
      refine g_ef rfl (ef_al hS fun b6 w2 hS => ?_)
      have lz : (zx [(1, .string ⟨#[]⟩), (32, .int .u8 0)]).length = 33 := by decide
      refine g_ef0 rfl (ef_st hS 7 rfl rfl rfl (lc_len _) (by rw [lz]; decide) (List.all_eq_true.2 (lc_one _)) fun w2 hS => ?_)
      replace hS := hS.ceq (l' := lc X) 7 rfl (spl_full _ _ (by show (lc X).length = _; rw [lc_len, lz]))
      (repeat (first | refine g_sq ?_ | refine g_rg ?_ | refine g_r0 ?_ | refine g_ok rfl rfl ?_ | refine g_no rfl ?_ | refine g_no0 rfl ?_ | refine g_bk ?_ | refine g_b ?_ | refine g_sk ?_ | refine g_cT rfl ?_ | refine g_cF rfl ?_ | refine g_x rfl ?_ | refine g_lb ?_))
      refine g_ef rfl (ef_al hS fun b7 w2 hS => ?_)
      refine g_ef0 rfl (ef_st hS 8 rfl rfl rfl rfl (Nat.le_of_ble_eq_true rfl) rfl fun w2 hS => ?_)
      replace hS := hS.ceq (l' := ec (ent X)) 8 rfl rfl
      (repeat (first | refine g_sq ?_ | refine g_rg ?_ | refine g_r0 ?_ | refine g_ok rfl rfl ?_ | refine g_no rfl ?_ | refine g_no0 rfl ?_ | refine g_bk ?_ | refine g_b ?_ | refine g_sk ?_ | refine g_cT rfl ?_ | refine g_cF rfl ?_ | refine g_x rfl ?_ | refine g_lb ?_))
      refine ⟨rfl, _, _, hS, rfl, fun w2 hS => ?_⟩
      (repeat (first | refine g_sq ?_ | refine g_rg ?_ | refine g_r0 ?_ | refine g_ok rfl rfl ?_ | refine g_no rfl ?_ | refine g_no0 rfl ?_ | refine g_bk ?_ | refine g_b ?_ | refine g_sk ?_ | refine g_cT rfl ?_ | refine g_cF rfl ?_ | refine g_x rfl ?_ | refine g_lb ?_))
      refine g_l1 rfl rfl (hS.b  0 rfl) rfl ?_
      (repeat (first | refine g_sq ?_ | refine g_rg ?_ | refine g_r0 ?_ | refine g_ok rfl rfl ?_ | refine g_no rfl ?_ | refine g_no0 rfl ?_ | refine g_bk ?_ | refine g_b ?_ | refine g_sk ?_ | refine g_cT rfl ?_ | refine g_cF rfl ?_ | refine g_x rfl ?_ | refine g_lb ?_))
      cases f
      · have hbad : chk d = false := by
          refine bad_srt ?_
          by_cases h0 : k = 0
          · rw [if_pos h0] at hf; exact hf.symm
          · rw [if_neg h0] at hf; cases hf
        (repeat (first | refine g_sq ?_ | refine g_rg ?_ | refine g_r0 ?_ | refine g_ok rfl rfl ?_ | refine g_no rfl ?_ | refine g_no0 rfl ?_ | refine g_bk ?_ | refine g_b ?_ | refine g_sk ?_ | refine g_cT rfl ?_ | refine g_cF rfl ?_ | refine g_x rfl ?_ | refine g_lb ?_))
        refine g_ef0 rfl (ef_st hS 0 rfl rfl rfl rfl (Nat.le_of_ble_eq_true rfl) rfl fun w2 hS => ?_)
        (repeat (first | refine g_sq ?_ | refine g_rg ?_ | refine g_r0 ?_ | refine g_ok rfl rfl ?_ | refine g_no rfl ?_ | refine g_no0 rfl ?_ | refine g_bk ?_ | refine g_b ?_ | refine g_sk ?_ | refine g_cT rfl ?_ | refine g_cF rfl ?_ | refine g_x rfl ?_ | refine g_lb ?_))
        refine g_l1 rfl rfl (hS.b  0 rfl) rfl ?_
        (repeat (first | refine g_sq ?_ | refine g_rg ?_ | refine g_r0 ?_ | refine g_ok rfl rfl ?_ | refine g_no rfl ?_ | refine g_no0 rfl ?_ | refine g_bk ?_ | refine g_b ?_ | refine g_sk ?_ | refine g_cT rfl ?_ | refine g_cF rfl ?_ | refine g_x rfl ?_ | refine g_lb ?_))
        refine g_xt (k_xo rfl ?_)
        refine ⟨_, _, hS, rfl, fun w2 hS => .inr ⟨rfl, ?_⟩⟩
        refine ⟨_, 6, _, _, hS, rfl, (fun h => nomatch h), fun w2 hS => ?_⟩
        exact k_xt rfl (g_jd ⟨rfl, rfl, rfl, trivial⟩ ⟨dB, rfl, false, es, q, ⟨fun h => (nomatch h), fun _ => hbad⟩, fun e he => (hm.1 e he).1, hS.sel [0, 1, 2, 5] rfl rfl⟩)
      · (repeat (first | refine g_sq ?_ | refine g_rg ?_ | refine g_r0 ?_ | refine g_ok rfl rfl ?_ | refine g_no rfl ?_ | refine g_no0 rfl ?_ | refine g_bk ?_ | refine g_b ?_ | refine g_sk ?_ | refine g_cT rfl ?_ | refine g_cF rfl ?_ | refine g_x rfl ?_ | refine g_lb ?_))
        refine g_l1 rfl rfl (hS.b  8 rfl) rfl ?_
        cases his : (ent X).2.2
        · have hbad : chk d = false := bad_is hk (by rw [hX]; exact his)
          (repeat (first | refine g_sq ?_ | refine g_rg ?_ | refine g_r0 ?_ | refine g_ok rfl rfl ?_ | refine g_no rfl ?_ | refine g_no0 rfl ?_ | refine g_bk ?_ | refine g_b ?_ | refine g_sk ?_ | refine g_cT rfl ?_ | refine g_cF rfl ?_ | refine g_x rfl ?_ | refine g_lb ?_))
          refine g_ef0 rfl (ef_st hS 0 rfl rfl rfl rfl (Nat.le_of_ble_eq_true rfl) rfl fun w2 hS => ?_)
          (repeat (first | refine g_sq ?_ | refine g_rg ?_ | refine g_r0 ?_ | refine g_ok rfl rfl ?_ | refine g_no rfl ?_ | refine g_no0 rfl ?_ | refine g_bk ?_ | refine g_b ?_ | refine g_sk ?_ | refine g_cT rfl ?_ | refine g_cF rfl ?_ | refine g_x rfl ?_ | refine g_lb ?_))
          refine g_l1 rfl rfl (hS.b  0 rfl) rfl ?_
          (repeat (first | refine g_sq ?_ | refine g_rg ?_ | refine g_r0 ?_ | refine g_ok rfl rfl ?_ | refine g_no rfl ?_ | refine g_no0 rfl ?_ | refine g_bk ?_ | refine g_b ?_ | refine g_sk ?_ | refine g_cT rfl ?_ | refine g_cF rfl ?_ | refine g_x rfl ?_ | refine g_lb ?_))
          refine g_xt (k_xo rfl ?_)
          refine ⟨_, _, hS, rfl, fun w2 hS => .inr ⟨rfl, ?_⟩⟩
          refine ⟨_, 6, _, _, hS, rfl, (fun h => nomatch h), fun w2 hS => ?_⟩
          exact k_xt rfl (g_jd ⟨rfl, rfl, rfl, trivial⟩ ⟨dB, rfl, false, es, q, ⟨fun h => (nomatch h), fun _ => hbad⟩, fun e he => (hm.1 e he).1, hS.sel [0, 1, 2, 5] rfl rfl⟩)
        · (repeat (first | refine g_sq ?_ | refine g_rg ?_ | refine g_r0 ?_ | refine g_ok rfl rfl ?_ | refine g_no rfl ?_ | refine g_no0 rfl ?_ | refine g_bk ?_ | refine g_b ?_ | refine g_sk ?_ | refine g_cT rfl ?_ | refine g_cF rfl ?_ | refine g_x rfl ?_ | refine g_lb ?_))
          refine g_l1 rfl rfl (hS.b  7 rfl) rfl ?_
          refine g_l1 rfl rfl (hS.b  3 rfl) rfl ?_
          (repeat (first | refine g_sq ?_ | refine g_rg ?_ | refine g_r0 ?_ | refine g_ok rfl rfl ?_ | refine g_no rfl ?_ | refine g_no0 rfl ?_ | refine g_bk ?_ | refine g_b ?_ | refine g_sk ?_ | refine g_cT rfl ?_ | refine g_cF rfl ?_ | refine g_x rfl ?_ | refine g_lb ?_))
          by_cases hnm : X.1 = la
          · have hbad : chk d = false := by
              by_cases h0 : k = 0
              · subst h0
                rw [hla] at hnm
                have : X = ([], X.2) := Prod.ext hnm rfl
                rw [this, ent_nil] at his
                cases his
              · refine bad_nm (by omega) hk ?_
                rw [hX, hnm, hla, lastN, if_neg h0]
                rw [List.getD_eq_getElem?_getD, List.getElem?_eq_getElem (by omega)]
                rfl
            have hdn : (!decide ((⟨X.1.toArray⟩ : ByteArray).data.toList = (⟨la.toArray⟩ : ByteArray).data.toList)) = false := by rw [decide_eq_true hnm]; rfl
            rw [hdn]
            (repeat (first | refine g_sq ?_ | refine g_rg ?_ | refine g_r0 ?_ | refine g_ok rfl rfl ?_ | refine g_no rfl ?_ | refine g_no0 rfl ?_ | refine g_bk ?_ | refine g_b ?_ | refine g_sk ?_ | refine g_cT rfl ?_ | refine g_cF rfl ?_ | refine g_x rfl ?_ | refine g_lb ?_))
            refine g_ef0 rfl (ef_st hS 0 rfl rfl rfl rfl (Nat.le_of_ble_eq_true rfl) rfl fun w2 hS => ?_)
            (repeat (first | refine g_sq ?_ | refine g_rg ?_ | refine g_r0 ?_ | refine g_ok rfl rfl ?_ | refine g_no rfl ?_ | refine g_no0 rfl ?_ | refine g_bk ?_ | refine g_b ?_ | refine g_sk ?_ | refine g_cT rfl ?_ | refine g_cF rfl ?_ | refine g_x rfl ?_ | refine g_lb ?_))
            refine g_l1 rfl rfl (hS.b  0 rfl) rfl ?_
            (repeat (first | refine g_sq ?_ | refine g_rg ?_ | refine g_r0 ?_ | refine g_ok rfl rfl ?_ | refine g_no rfl ?_ | refine g_no0 rfl ?_ | refine g_bk ?_ | refine g_b ?_ | refine g_sk ?_ | refine g_cT rfl ?_ | refine g_cF rfl ?_ | refine g_x rfl ?_ | refine g_lb ?_))
            refine g_xt (k_xo rfl ?_)
            refine ⟨_, _, hS, rfl, fun w2 hS => .inr ⟨rfl, ?_⟩⟩
            refine ⟨_, 6, _, _, hS, rfl, (fun h => nomatch h), fun w2 hS => ?_⟩
            exact k_xt rfl (g_jd ⟨rfl, rfl, rfl, trivial⟩ ⟨dB, rfl, false, es, q, ⟨fun h => (nomatch h), fun _ => hbad⟩, fun e he => (hm.1 e he).1, hS.sel [0, 1, 2, 5] rfl rfl⟩)
          · have hdn : (!decide ((⟨X.1.toArray⟩ : ByteArray).data.toList = (⟨la.toArray⟩ : ByteArray).data.toList)) = true := by rw [decide_eq_false hnm]; rfl
            rw [hdn]
            (repeat (first | refine g_sq ?_ | refine g_rg ?_ | refine g_r0 ?_ | refine g_ok rfl rfl ?_ | refine g_no rfl ?_ | refine g_no0 rfl ?_ | refine g_bk ?_ | refine g_b ?_ | refine g_sk ?_ | refine g_cT rfl ?_ | refine g_cF rfl ?_ | refine g_x rfl ?_ | refine g_lb ?_))
            refine g_ef0 rfl (ef_st hS 0 rfl rfl rfl rfl (Nat.le_of_ble_eq_true rfl) rfl fun w2 hS => ?_)
            (repeat (first | refine g_sq ?_ | refine g_rg ?_ | refine g_r0 ?_ | refine g_ok rfl rfl ?_ | refine g_no rfl ?_ | refine g_no0 rfl ?_ | refine g_bk ?_ | refine g_b ?_ | refine g_sk ?_ | refine g_cT rfl ?_ | refine g_cF rfl ?_ | refine g_x rfl ?_ | refine g_lb ?_))
            refine g_l1 rfl rfl (hS.b  0 rfl) rfl ?_
            (repeat (first | refine g_sq ?_ | refine g_rg ?_ | refine g_r0 ?_ | refine g_ok rfl rfl ?_ | refine g_no rfl ?_ | refine g_no0 rfl ?_ | refine g_bk ?_ | refine g_b ?_ | refine g_sk ?_ | refine g_cT rfl ?_ | refine g_cF rfl ?_ | refine g_x rfl ?_ | refine g_lb ?_))
            refine g_l1 rfl rfl (hS.b  7 rfl) rfl ?_
            refine g_ef0 rfl (ef_st hS 3 rfl rfl rfl rfl (Nat.le_of_ble_eq_true rfl) rfl fun w2 hS => ?_)
            (repeat (first | refine g_sq ?_ | refine g_rg ?_ | refine g_r0 ?_ | refine g_ok rfl rfl ?_ | refine g_no rfl ?_ | refine g_no0 rfl ?_ | refine g_bk ?_ | refine g_b ?_ | refine g_sk ?_ | refine g_cT rfl ?_ | refine g_cF rfl ?_ | refine g_x rfl ?_ | refine g_lb ?_))
            refine g_l1 rfl rfl (hS.b  8 rfl) rfl ?_
            have hp1 : pre d (k + 1) := by
              refine ⟨fun _ => ?_, fun j hj hjk => ?_⟩
              · by_cases h0 : k = 0
                · rw [if_pos h0] at hf; exact hf.symm
                · exact hp.1 (by omega)
              · by_cases ej : j = k
                · subst ej
                  rw [hX]
                  refine ⟨his, fun e => hnm ?_⟩
                  rw [e, hla, lastN]
                  split
                  · rfl
                  · rw [List.getD_eq_getElem?_getD, List.getElem?_eq_getElem (by omega)]
                    rfl
                · exact hp.2 j hj (by omega)
            have hl1 : X.1 = lastN d (k + 1) := by
              rw [lastN, if_neg (by omega), List.getD_eq_getElem?_getD, Nat.add_sub_cancel, List.getElem?_eq_getElem hk, ← hX]
              rfl
            cases hcf : (ent X).2.1
            · (repeat (first | refine g_sq ?_ | refine g_rg ?_ | refine g_r0 ?_ | refine g_ok rfl rfl ?_ | refine g_no rfl ?_ | refine g_no0 rfl ?_ | refine g_bk ?_ | refine g_b ?_ | refine g_sk ?_ | refine g_cT rfl ?_ | refine g_cF rfl ?_ | refine g_x rfl ?_ | refine g_lb ?_))
              refine g_l1 rfl rfl (hS.b  2 rfl) rfl ?_
              (repeat (first | refine g_sq ?_ | refine g_rg ?_ | refine g_r0 ?_ | refine g_ok rfl rfl ?_ | refine g_no rfl ?_ | refine g_no0 rfl ?_ | refine g_bk ?_ | refine g_b ?_ | refine g_sk ?_ | refine g_cT rfl ?_ | refine g_cF rfl ?_ | refine g_x rfl ?_ | refine g_lb ?_))
              refine g_l1 rfl rfl (hS.b  8 rfl) rfl ?_
              refine g_ef rfl (ef_mlk (kl_str Tryz.underlying9) (hS.ok 1 _ rfl) rfl rfl ⟨_, rfl⟩ (fun e he => (hm.1 e he).1) (fun hne => ?_) fun j e hj he => ?_)
              · refine g_rq rfl rfl (in64 (by simp only [arv]; omega)) ?_
                refine g_ef0 rfl (ef_mup (kl_str Tryz.underlying9) hS 1 rfl rfl rfl rfl ⟨_, rfl⟩ (fun e he => (hm.1 e he).1) (fun _ w2 hS => ?_) fun j e hj he => absurd he (hne e (List.mem_of_getElem? hj)))
                (repeat (first | refine g_sq ?_ | refine g_rg ?_ | refine g_r0 ?_ | refine g_ok rfl rfl ?_ | refine g_no rfl ?_ | refine g_no0 rfl ?_ | refine g_bk ?_ | refine g_b ?_ | refine g_sk ?_ | refine g_cT rfl ?_ | refine g_cF rfl ?_ | refine g_x rfl ?_ | refine g_lb ?_))
                refine ⟨_, _, hS.sel [0, 1, 2, 3, 4, 5, 6] rfl rfl, rfl, fun w2 hS => .inl ⟨rfl, ⟨true, _, _, X.1⟩, ⟨by rw [if_neg (by omega)], hp1, ?_, hl1⟩, hS⟩⟩
                refine mp_add hk (by rw [hX]; exact hcf) hm ?_ ?_
                · intro e he
                  rcases List.mem_append.1 he with he | he
                  · obtain ⟨h1, m, h2, h3, h4⟩ := hm.1 e he
                    exact ⟨h1, m, h2, by omega, h4⟩
                  · rw [List.mem_singleton.1 he]
                    exact ⟨⟨_, rfl⟩, 1, Nat.le_refl _, by omega, rfl⟩
                · intro r
                  rw [hX]
                  exact keys_app es _ rfl r
              · obtain ⟨m, hm1, hm2, hmv⟩ := (hm.1 e (List.mem_of_getElem? hj)).2
                rw [hmv]
                show G _ _ ((38, .int .i64 m) :: _) _ _ _
                refine g_rq rfl rfl (in64 (by simp only [arv]; omega)) ?_
                refine g_ef0 rfl (ef_mup (kl_str Tryz.underlying9) hS 1 rfl rfl rfl rfl ⟨_, rfl⟩ (fun e he => (hm.1 e he).1) (fun hne => absurd he (hne e (List.mem_of_getElem? hj))) fun j2 e2 hj2 he2 w2 hS => ?_)
                (repeat (first | refine g_sq ?_ | refine g_rg ?_ | refine g_r0 ?_ | refine g_ok rfl rfl ?_ | refine g_no rfl ?_ | refine g_no0 rfl ?_ | refine g_bk ?_ | refine g_b ?_ | refine g_sk ?_ | refine g_cT rfl ?_ | refine g_cF rfl ?_ | refine g_x rfl ?_ | refine g_lb ?_))
                refine ⟨_, _, hS.sel [0, 1, 2, 3, 4, 5, 6] rfl rfl, rfl, fun w2 hS => .inl ⟨rfl, ⟨true, _, _, X.1⟩, ⟨by rw [if_neg (by omega)], hp1, ?_, hl1⟩, hS⟩⟩
                refine mp_add hk (by rw [hX]; exact hcf) hm ?_ ?_
                · intro e3 he3
                  rcases List.mem_or_eq_of_mem_set he3 with he3 | rfl
                  · obtain ⟨h1, m, h2, h3, h4⟩ := hm.1 e3 he3
                    exact ⟨h1, m, h2, by omega, h4⟩
                  · exact ⟨⟨_, rfl⟩, m + 1, by omega, by omega, rfl⟩
                · intro r
                  rw [hX]
                  exact keys_set hj2 he2 _ rfl r
            · (repeat (first | refine g_sq ?_ | refine g_rg ?_ | refine g_r0 ?_ | refine g_ok rfl rfl ?_ | refine g_no rfl ?_ | refine g_no0 rfl ?_ | refine g_bk ?_ | refine g_b ?_ | refine g_sk ?_ | refine g_cT rfl ?_ | refine g_cF rfl ?_ | refine g_x rfl ?_ | refine g_lb ?_))
              exact ⟨_, _, hS.sel [0, 1, 2, 3, 4, 5, 6] rfl rfl, rfl, fun w2 hS => .inl ⟨rfl, ⟨true, es, q, X.1⟩, ⟨by rw [if_neg (by omega)], hp1, mp_skip hk (by rw [hX]; exact hcf) hm, hl1⟩, hS⟩⟩
    · clear hS
      rintro ⟨f, es, q, la⟩ w2 ⟨hf, hp, hm, hla⟩ hS
      dsimp only at hf hp hm hla hS
      refine ⟨_, 6, _, _, hS, rfl, (fun h => nomatch h), fun w2 hS => ?_⟩
      refine g_b (g_jd ⟨rfl, rfl, rfl, trivial⟩ ⟨dB, rfl, f, es, q, ⟨fun _ => ⟨hp, hm⟩, fun h0 => bad_srt ?_⟩, fun e he => (hm.1 e he).1, hS.sel [0, 1, 2, 5] rfl rfl⟩)
      by_cases hn0 : n = 0
      · rw [if_pos hn0, h0] at hf; exact hf.symm
      · rw [if_neg hn0, h0] at hf; cases hf
  · clear hS
    rintro T D1 w1 hT ⟨dB, rfl, f, es, q, ⟨hf1, hf0⟩, hes, hS⟩
    refine g_wkc hT ?_
    (repeat (first | refine g_sq ?_ | refine g_rg ?_ | refine g_r0 ?_ | refine g_ok rfl rfl ?_ | refine g_no rfl ?_ | refine g_no0 rfl ?_ | refine g_bk ?_ | refine g_b ?_ | refine g_sk ?_ | refine g_cT rfl ?_ | refine g_cF rfl ?_ | refine g_x rfl ?_ | refine g_lb ?_))
    refine g_cl rfl rfl (b_entries rfl rfl fun b1 w1 h' => ?_)
    replace hS := hS.call0.2 _ _ h'
    replace hS : St w (fun _ => False) w1 [cel b3 [.bool f] 4, obj mb (.map ⟨es⟩ q), cel b4 [.map (some mb)] 51, obj dB (.deferred (some [])), cel b1 [.slice a n c] 22] := hS
    clear h'
    refine g_r0 ?_
    refine g_atd 1 [(3, dp b3)] (fun D1 w' => ∃ dB2, D1 = [⟨.collected dB2, #[]⟩, ⟨.collected dB, #[]⟩] ∧
      St w (fun _ => False) w' [cel b3 [.bool (chk d)] 4, obj dB (.deferred (some [])), obj dB2 (.deferred (some []))]) rfl ?_ ?_
    · (repeat (first | refine g_sq ?_ | refine g_rg ?_ | refine g_r0 ?_ | refine g_ok rfl rfl ?_ | refine g_no rfl ?_ | refine g_no0 rfl ?_ | refine g_bk ?_ | refine g_b ?_ | refine g_sk ?_ | refine g_cT rfl ?_ | refine g_cF rfl ?_ | refine g_x rfl ?_ | refine g_lb ?_))
      refine g_wkc (T' := [(41, .func (.func 61) ⟨[]⟩ ⟨[dp b1]⟩), (0, .slice a n c), (3, dp b3), (4, dp b4)]) ⟨rfl, rfl, rfl, rfl, trivial⟩ ?_
      refine g_rf (cap := [dp b1]) (first := []) hS rfl (callFunc_of Tryz.func61 rfl rfl) fun l dB2 w2 hS => ?_
      refine d_entries (ι := Bool) (Ls := fun σ => [cel b3 [.bool σ] 4, obj mb (.map ⟨es⟩ q), cel b4 [.map (some mb)] 51, obj dB (.deferred (some [])), cel b1 [.slice a n c] 22, obj dB2 (.deferred (some [])), _])
        (Inv := fun k σ => σ = true ↔ f = true ∧ ∀ j (h : j < d.length), j < k → (ent d[j]).2.1 = true → ∀ e ∈ es, e.key ≠ sv (ent d[j]).1) (i := 4) hd hn hlen (fun σ => rfl) (fun σ w' hS => hrr w' hS) (fun σ w' hS => hg.in hS) (σ0 := f) ⟨fun h => ⟨h, fun j _ h => absurd h (Nat.not_lt_zero j)⟩, fun h => h.1⟩ hS ?_ ?_
      · clear hS
        intro k hk σ w2 hI hS
        refine yd_of hS 6 rfl rfl ?_
        generalize hX : d[k] = X
        (repeat (first | refine g_sq ?_ | refine g_rg ?_ | refine g_r0 ?_ | refine g_ok rfl rfl ?_ | refine g_no rfl ?_ | refine g_no0 rfl ?_ | refine g_bk ?_ | refine g_b ?_ | refine g_sk ?_ | refine g_cT rfl ?_ | refine g_cF rfl ?_ | refine g_x rfl ?_ | refine g_lb ?_))
        refine g_ef rfl (ef_al hS fun b7 w2 hS => ?_)
        refine g_ef0 rfl (ef_st hS 7 rfl rfl rfl rfl (Nat.le_of_ble_eq_true rfl) rfl fun w2 hS => ?_)
        replace hS := hS.ceq (l' := ec (ent X)) 7 rfl rfl
        (repeat (first | refine g_sq ?_ | refine g_rg ?_ | refine g_r0 ?_ | refine g_ok rfl rfl ?_ | refine g_no rfl ?_ | refine g_no0 rfl ?_ | refine g_bk ?_ | refine g_b ?_ | refine g_sk ?_ | refine g_cT rfl ?_ | refine g_cF rfl ?_ | refine g_x rfl ?_ | refine g_lb ?_))
        refine ⟨rfl, _, _, hS, rfl, fun w2 hS => ?_⟩
        (repeat (first | refine g_sq ?_ | refine g_rg ?_ | refine g_r0 ?_ | refine g_ok rfl rfl ?_ | refine g_no rfl ?_ | refine g_no0 rfl ?_ | refine g_bk ?_ | refine g_b ?_ | refine g_sk ?_ | refine g_cT rfl ?_ | refine g_cF rfl ?_ | refine g_x rfl ?_ | refine g_lb ?_))
        refine g_l1 rfl rfl (hS.b  0 rfl) rfl ?_
        (repeat (first | refine g_sq ?_ | refine g_rg ?_ | refine g_r0 ?_ | refine g_ok rfl rfl ?_ | refine g_no rfl ?_ | refine g_no0 rfl ?_ | refine g_bk ?_ | refine g_b ?_ | refine g_sk ?_ | refine g_cT rfl ?_ | refine g_cF rfl ?_ | refine g_x rfl ?_ | refine g_lb ?_))
        cases σ
        · (repeat (first | refine g_sq ?_ | refine g_rg ?_ | refine g_r0 ?_ | refine g_ok rfl rfl ?_ | refine g_no rfl ?_ | refine g_no0 rfl ?_ | refine g_bk ?_ | refine g_b ?_ | refine g_sk ?_ | refine g_cT rfl ?_ | refine g_cF rfl ?_ | refine g_x rfl ?_ | refine g_lb ?_))
          refine g_ef0 rfl (ef_st hS 0 rfl rfl rfl rfl (Nat.le_of_ble_eq_true rfl) rfl fun w2 hS => ?_)
          (repeat (first | refine g_sq ?_ | refine g_rg ?_ | refine g_r0 ?_ | refine g_ok rfl rfl ?_ | refine g_no rfl ?_ | refine g_no0 rfl ?_ | refine g_bk ?_ | refine g_b ?_ | refine g_sk ?_ | refine g_cT rfl ?_ | refine g_cF rfl ?_ | refine g_x rfl ?_ | refine g_lb ?_))
          refine ⟨_, _, hS.sel [0, 1, 2, 3, 4, 5, 6] rfl rfl, rfl, fun w2 hS => .inl ⟨rfl, false, ?_, hS⟩⟩
          constructor
          · intro h; cases h
          · rintro ⟨h1, h2⟩
            exact hI.2 ⟨h1, fun j hj hjk => h2 j hj (by omega)⟩
        · have hft := (hI.1 rfl).1
          obtain ⟨hp, hm⟩ := hf1 hft
          (repeat (first | refine g_sq ?_ | refine g_rg ?_ | refine g_r0 ?_ | refine g_ok rfl rfl ?_ | refine g_no rfl ?_ | refine g_no0 rfl ?_ | refine g_bk ?_ | refine g_b ?_ | refine g_sk ?_ | refine g_cT rfl ?_ | refine g_cF rfl ?_ | refine g_x rfl ?_ | refine g_lb ?_))
          refine g_l1 rfl rfl (hS.b  7 rfl) rfl ?_
          (repeat (first | refine g_sq ?_ | refine g_rg ?_ | refine g_r0 ?_ | refine g_ok rfl rfl ?_ | refine g_no rfl ?_ | refine g_no0 rfl ?_ | refine g_bk ?_ | refine g_b ?_ | refine g_sk ?_ | refine g_cT rfl ?_ | refine g_cF rfl ?_ | refine g_x rfl ?_ | refine g_lb ?_))
          cases hcf : (ent X).2.1
          · (repeat (first | refine g_sq ?_ | refine g_rg ?_ | refine g_r0 ?_ | refine g_ok rfl rfl ?_ | refine g_no rfl ?_ | refine g_no0 rfl ?_ | refine g_bk ?_ | refine g_b ?_ | refine g_sk ?_ | refine g_cT rfl ?_ | refine g_cF rfl ?_ | refine g_x rfl ?_ | refine g_lb ?_))
            refine g_ef0 rfl (ef_st hS 0 rfl rfl rfl rfl (Nat.le_of_ble_eq_true rfl) rfl fun w2 hS => ?_)
            (repeat (first | refine g_sq ?_ | refine g_rg ?_ | refine g_r0 ?_ | refine g_ok rfl rfl ?_ | refine g_no rfl ?_ | refine g_no0 rfl ?_ | refine g_bk ?_ | refine g_b ?_ | refine g_sk ?_ | refine g_cT rfl ?_ | refine g_cF rfl ?_ | refine g_x rfl ?_ | refine g_lb ?_))
            refine ⟨_, _, hS.sel [0, 1, 2, 3, 4, 5, 6] rfl rfl, rfl, fun w2 hS => .inl ⟨rfl, true, ⟨fun _ => ⟨hft, fun j hj hjk hc => ?_⟩, fun _ => rfl⟩, hS⟩⟩
            by_cases e : j = k
            · subst e; rw [hX, hcf] at hc; cases hc
            · exact (hI.1 rfl).2 j hj (by omega) hc
          · (repeat (first | refine g_sq ?_ | refine g_rg ?_ | refine g_r0 ?_ | refine g_ok rfl rfl ?_ | refine g_no rfl ?_ | refine g_no0 rfl ?_ | refine g_bk ?_ | refine g_b ?_ | refine g_sk ?_ | refine g_cT rfl ?_ | refine g_cF rfl ?_ | refine g_x rfl ?_ | refine g_lb ?_))
            refine g_l1 rfl rfl (hS.b  2 rfl) rfl ?_
            (repeat (first | refine g_sq ?_ | refine g_rg ?_ | refine g_r0 ?_ | refine g_ok rfl rfl ?_ | refine g_no rfl ?_ | refine g_no0 rfl ?_ | refine g_bk ?_ | refine g_b ?_ | refine g_sk ?_ | refine g_cT rfl ?_ | refine g_cF rfl ?_ | refine g_x rfl ?_ | refine g_lb ?_))
            refine g_l1 rfl rfl (hS.b  7 rfl) rfl ?_
            refine g_ef rfl (ef_mlk (kl_str Tryz.underlying9) (hS.ok 1 _ rfl) rfl rfl ⟨_, rfl⟩ hes (fun hne => ?_) fun j e hj he => ?_)
            · (repeat (first | refine g_sq ?_ | refine g_rg ?_ | refine g_r0 ?_ | refine g_ok rfl rfl ?_ | refine g_no rfl ?_ | refine g_no0 rfl ?_ | refine g_bk ?_ | refine g_b ?_ | refine g_sk ?_ | refine g_cT rfl ?_ | refine g_cF rfl ?_ | refine g_x rfl ?_ | refine g_lb ?_))
              refine g_ef0 rfl (ef_st hS 0 rfl rfl rfl rfl (Nat.le_of_ble_eq_true rfl) rfl fun w2 hS => ?_)
              (repeat (first | refine g_sq ?_ | refine g_rg ?_ | refine g_r0 ?_ | refine g_ok rfl rfl ?_ | refine g_no rfl ?_ | refine g_no0 rfl ?_ | refine g_bk ?_ | refine g_b ?_ | refine g_sk ?_ | refine g_cT rfl ?_ | refine g_cF rfl ?_ | refine g_x rfl ?_ | refine g_lb ?_))
              refine ⟨_, _, hS.sel [0, 1, 2, 3, 4, 5, 6] rfl rfl, rfl, fun w2 hS => .inl ⟨rfl, true, ⟨fun _ => ⟨hft, fun j hj hjk hc => ?_⟩, fun _ => rfl⟩, hS⟩⟩
              by_cases e : j = k
              · subst e; rw [hX]; exact hne
              · exact (hI.1 rfl).2 j hj (by omega) hc
            · obtain ⟨m, hm1, hm2, hmv⟩ := (hm.1 e (List.mem_of_getElem? hj)).2
              rw [hmv]
              have hcm : cmv .eql (m : Int) 0 = false := by simp [cmv]; omega
              show G _ _ ((53, .int .i64 m) :: _) _ _ _
              (repeat (first | refine g_sq ?_ | refine g_rg ?_ | refine g_r0 ?_ | refine g_ok rfl rfl ?_ | refine g_no rfl ?_ | refine g_no0 rfl ?_ | refine g_bk ?_ | refine g_b ?_ | refine g_sk ?_ | refine g_cT rfl ?_ | refine g_cF rfl ?_ | refine g_x rfl ?_ | refine g_lb ?_))
              rw [hcm]
              (repeat (first | refine g_sq ?_ | refine g_rg ?_ | refine g_r0 ?_ | refine g_ok rfl rfl ?_ | refine g_no rfl ?_ | refine g_no0 rfl ?_ | refine g_bk ?_ | refine g_b ?_ | refine g_sk ?_ | refine g_cT rfl ?_ | refine g_cF rfl ?_ | refine g_x rfl ?_ | refine g_lb ?_))
              refine g_ef0 rfl (ef_st hS 0 rfl rfl rfl rfl (Nat.le_of_ble_eq_true rfl) rfl fun w2 hS => ?_)
              (repeat (first | refine g_sq ?_ | refine g_rg ?_ | refine g_r0 ?_ | refine g_ok rfl rfl ?_ | refine g_no rfl ?_ | refine g_no0 rfl ?_ | refine g_bk ?_ | refine g_b ?_ | refine g_sk ?_ | refine g_cT rfl ?_ | refine g_cF rfl ?_ | refine g_x rfl ?_ | refine g_lb ?_))
              refine ⟨_, _, hS.sel [0, 1, 2, 3, 4, 5, 6] rfl rfl, rfl, fun w2 hS => .inl ⟨rfl, false, ⟨fun h => (nomatch h), fun ⟨_, h2⟩ => ?_⟩, hS⟩⟩
              exact absurd he (h2 k hk (by omega) (by rw [hX]; exact hcf) e (List.mem_of_getElem? hj) |> fun h => by rw [hX] at h; exact h)
      · clear hS
        intro σ w2 hI hS
        refine ⟨_, 6, _, _, hS, rfl, (fun h => nomatch h), fun w2 hS => ?_⟩
        refine g_b (g_jd ⟨rfl, trivial⟩ ⟨dB2, rfl, ?_⟩)
        have e : chk d = σ := by
          cases hck : chk d
          · cases σ
            · rfl
            · obtain ⟨h1, h2⟩ := hI.1 rfl
              obtain ⟨hp, hm⟩ := hf1 h1
              rw [chk_good hp (fun j hj hc i hi hci e => by
                obtain ⟨x, hx, hxk⟩ := (hm.2 (ent d[j]).1).2 ⟨i, hi, by omega, hci, e⟩
                exact h2 j hj (by omega) hc x hx hxk) (by omega)] at hck
              cases hck
          · refine (hI.2 ⟨?_, fun j hj _ hc x hx hxk => ?_⟩).symm
            · cases f
              · rw [hf0 rfl] at hck; cases hck
              · rfl
            · have hft : f = true := by
                cases f
                · rw [hf0 rfl] at hck; cases hck
                · rfl
              obtain ⟨i, hi, _, hci, e⟩ := ((hf1 hft).2.2 _).1 ⟨x, hx, hxk⟩
              exact chk_conf hck hj hc hi hci e
        rw [e]
        exact hS.sel [0, 3, 5] rfl rfl
    · clear hS
      rintro T D1 w1 hT ⟨dB2, rfl, hS⟩
      refine g_wkc hT ?_
      (repeat (first | refine g_sq ?_ | refine g_rg ?_ | refine g_r0 ?_ | refine g_ok rfl rfl ?_ | refine g_no rfl ?_ | refine g_no0 rfl ?_ | refine g_bk ?_ | refine g_b ?_ | refine g_sk ?_ | refine g_cT rfl ?_ | refine g_cF rfl ?_ | refine g_x rfl ?_ | refine g_lb ?_))
      refine g_l1 rfl rfl (hS.b  0 rfl) rfl ?_
      (repeat (first | refine g_sq ?_ | refine g_rg ?_ | refine g_r0 ?_ | refine g_ok rfl rfl ?_ | refine g_no rfl ?_ | refine g_no0 rfl ?_ | refine g_bk ?_ | refine g_b ?_ | refine g_sk ?_ | refine g_cT rfl ?_ | refine g_cF rfl ?_ | refine g_x rfl ?_ | refine g_lb ?_))
      cases hck : chk d
      · have e : eE d = 200 := by unfold eE; rw [if_neg (by rw [hck]; decide)]
        rw [e] at h
        (repeat (first | refine g_sq ?_ | refine g_rg ?_ | refine g_r0 ?_ | refine g_ok rfl rfl ?_ | refine g_no rfl ?_ | refine g_no0 rfl ?_ | refine g_bk ?_ | refine g_b ?_ | refine g_sk ?_ | refine g_cT rfl ?_ | refine g_cF rfl ?_ | refine g_x rfl ?_ | refine g_lb ?_))
        exact g_ret (q_dr hS 2 rfl fun w hS => q_dr hS 1 rfl fun w hS => q_1 rfl (h _ (hS.sel [] rfl rfl)))
      · have e : eE d = 0 := by unfold eE; rw [if_pos hck]
        rw [e] at h
        (repeat (first | refine g_sq ?_ | refine g_rg ?_ | refine g_r0 ?_ | refine g_ok rfl rfl ?_ | refine g_no rfl ?_ | refine g_no0 rfl ?_ | refine g_bk ?_ | refine g_b ?_ | refine g_sk ?_ | refine g_cT rfl ?_ | refine g_cF rfl ?_ | refine g_x rfl ?_ | refine g_lb ?_))
        exact g_ret (q_dr hS 2 rfl fun w hS => q_dr hS 1 rfl fun w hS => q_1 rfl (h _ (hS.sel [] rfl rfl)))
end
end Go.Proofs.YtibofabkpgigoaaGreatDoor
