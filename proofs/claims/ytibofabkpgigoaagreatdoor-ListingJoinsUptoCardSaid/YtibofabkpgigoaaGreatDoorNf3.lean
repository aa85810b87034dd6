/- Plain laws: a listing joined ref by ref. -/
import Derived.Test.YtibofabkpgigoaaGreatDoorNd6
import Derived.Test.YtibofabkpgigoaaGreatDoorNf2
set_option linter.unusedSimpArgs false
set_option linter.unusedVariables false
namespace Go.Proofs.YtibofabkpgigoaaGreatDoor
open Go.En

/-- strictly sorted lists with the same members are one -/
theorem nbr_unique {o p : List Li} (ho : o.Pairwise nbr) (hp : p.Pairwise nbr) (h : ∀ x, x ∈ o ↔ x ∈ p) : o = p := by
  have nd : ∀ {l : List Li}, l.Pairwise nbr → l.Nodup := fun h => h.imp fun h e => h.2 (congrArg Prod.fst e)
  have hpm : o.Perm p := (List.perm_ext_iff_of_nodup (nd ho) (nd hp)).2 h
  exact sorted_unique (key := fun x : Li => x.1) (nbr_inj hp) hpm (ho.imp fun h => h.1) (hp.imp fun h => h.1)
/-- refs, and the tips of each -/
abbrev RT := Bs × List Id
def pts (rt : List RT) : List (List Li) := rt.map fun p => nmL p.1 p.2
def okR (rt : List RT) : Prop := (rt.map (·.1)).Nodup ∧ ∀ p ∈ rt, brk p.1 = 0
theorem mem_pts {rt : List RT} {x : Li} : x ∈ (pts rt).flatten ↔ ∃ p ∈ rt, x ∈ nmL p.1 p.2 := by
  unfold pts
  rw [List.mem_flatten]
  constructor
  · rintro ⟨l, hl, hx⟩
    obtain ⟨p, hp, rfl⟩ := List.mem_map.1 hl
    exact ⟨p, hp, hx⟩
  · rintro ⟨p, hp, hx⟩
    exact ⟨_, List.mem_map.2 ⟨p, hp, rfl⟩, hx⟩
theorem okR_inj {rt : List RT} (h : okR rt) {p q : RT} (hp : p ∈ rt) (hq : q ∈ rt) (e : p.1 = q.1) : p = q := by
  obtain ⟨i, hi, rfl⟩ := List.getElem_of_mem hp
  obtain ⟨j, hj, rfl⟩ := List.getElem_of_mem hq
  have h1 := h.1
  unfold List.Nodup at h1
  rw [List.pairwise_map, List.pairwise_iff_getElem] at h1
  rcases Nat.lt_trichotomy i j with hij | rfl | hij
  · exact absurd e (h1 i j hi hj hij)
  · rfl
  · exact absurd e.symm (h1 j i hj hi hij)
theorem ent_name {x y : Li} (h : x.1 = y.1) : (ent x).1 = (ent y).1 := by
  unfold ent
  rw [h]
theorem pts_names {rt : List RT} (h : okR rt) : (pts rt).flatten.Pairwise fun x y => x.1 ≠ y.1 := by
  rw [List.pairwise_flatten]
  constructor
  · intro l hl
    obtain ⟨p, hp, rfl⟩ := List.mem_map.1 hl
    exact (chk_nbr (nmL_chk (h.2 p hp) p.2)).imp fun h => h.2
  · unfold pts
    rw [List.pairwise_map]
    have h1 := h.1
    unfold List.Nodup at h1
    rw [List.pairwise_map] at h1
    refine List.Pairwise.imp_of_mem (fun {p q} hp hq hne x hx y hy e => hne ?_) h1
    have e1 := ent_name e
    rw [nmL_ent (h.2 p hp) p.2 hx, nmL_ent (h.2 q hq) q.2 hy] at e1
    exact e1
theorem join_mem (rt : List RT) (x : Li) : x ∈ srtN (pts rt).flatten ↔ ∃ p ∈ rt, x ∈ nmL p.1 p.2 := (srtN_perm _).mem_iff.trans mem_pts
theorem join_nbr {rt : List RT} (h : okR rt) : (srtN (pts rt).flatten).Pairwise nbr := by
  have h1 := srtN_sorted (pts rt).flatten
  have h2 : (srtN (pts rt).flatten).Pairwise fun x y => x.1 ≠ y.1 := (List.Perm.pairwise_iff (fun {x y} h => Ne.symm h) (srtN_perm _)).2 (pts_names h)
  exact h1.and h2
theorem join_chk {rt : List RT} (h : okR rt) : chk (srtN (pts rt).flatten) = true := by
  unfold chk
  simp only [Bool.and_eq_true, List.all_eq_true, Bool.or_eq_true, Bool.not_eq_true', decide_eq_true_eq]
  refine ⟨join_nbr h, fun x hx => ?_, fun x hx => ?_⟩
  · obtain ⟨p, hp, hx⟩ := (join_mem rt x).1 hx
    rw [nmL_ent (h.2 p hp) p.2 hx]
  · obtain ⟨p, hp, hx⟩ := (join_mem rt x).1 hx
    cases hc : (ent x).2.1
    · exact .inl rfl
    · refine .inr fun y hy => ?_
      obtain ⟨q, hq, hy⟩ := (join_mem rt y).1 hy
      by_cases e : (ent y).1 = (ent x).1
      · left
        rw [nmL_ent (h.2 p hp) p.2 hx, nmL_ent (h.2 q hq) q.2 hy] at e
        have := okR_inj h hq hp e
        subst this
        rw [nmL_ent (h.2 q hq) q.2 hx] at hc
        rw [nmL_ent (h.2 q hq) q.2 hy]
        exact hc
      · exact .inr e
theorem join_some {rt : List RT} (h : okR rt) : joinS (pts rt) = some (srtN (pts rt).flatten) := by
  have hall : (pts rt).all chk = true := List.all_eq_true.2 fun l hl => by
    obtain ⟨p, hp, rfl⟩ := List.mem_map.1 hl
    exact nmL_chk (h.2 p hp) p.2
  unfold joinS
  rw [if_pos ⟨hall, join_chk h⟩]
theorem join_same {rt ru : List RT} (h : okR rt) (hu : okR ru) (hm : ∀ x, (∃ p ∈ rt, x ∈ nmL p.1 p.2) ↔ ∃ p ∈ ru, x ∈ nmL p.1 p.2) : srtN (pts rt).flatten = srtN (pts ru).flatten :=
  nbr_unique (join_nbr h) (join_nbr hu) fun x => by rw [join_mem, join_mem, hm]
theorem okR_rev {rt : List RT} (h : okR rt) : okR rt.reverse := by
  refine ⟨?_, fun p hp => h.2 p (List.mem_reverse.1 hp)⟩
  rw [List.map_reverse]
  unfold List.Nodup
  rw [List.pairwise_reverse]
  exact h.1.imp fun h => Ne.symm h
theorem iset_iset (l : List Id) : iset (iset l) = iset l := kset_self _ id_inj (kset_sorted _ id_inj l)
theorem mem_iset (l : List Id) (x : Id) : x ∈ iset l ↔ x ∈ l := mem_kset _ l x
theorem nmL_iset (s : Bs) (l : List Id) : nmL s (iset l) = nmL s l := by unfold nmL; rw [iset_iset]
theorem nmL_mem {s : Bs} {l : List Id} {x : Li} (h : x ∈ nmL s l) : x.2 ∈ l := by
  unfold nmL at h
  obtain ⟨id, hid, rfl⟩ := List.mem_map.1 h
  exact (mem_iset l id).1 hid
theorem nmL_has {s : Bs} {l : List Id} {id : Id} (h : id ∈ l) : nm1 s (decide (1 < (iset l).length)) id ∈ nmL s l := by
  unfold nmL
  exact List.mem_map.2 ⟨id, (mem_iset l id).2 h, rfl⟩
theorem join_tips {rt : List RT} (h : okR rt) {p : RT} (hp : p ∈ rt) : tipsOf (srtN (pts rt).flatten) p.1 = iset p.2 := by
  unfold tipsOf
  rw [if_pos (join_chk h)]
  refine kset_ext _ id_inj fun id => ?_
  unfold tipsF
  rw [List.mem_map]
  constructor
  · rintro ⟨x, hx, rfl⟩
    obtain ⟨hx1, ho⟩ := List.mem_filter.1 hx
    obtain ⟨q, hq, hx2⟩ := (join_mem rt x).1 hx1
    unfold ofRef at ho
    rw [decide_eq_true_eq, nmL_ent (h.2 q hq) q.2 hx2] at ho
    have e := okR_inj h hq hp ho
    have hm := nmL_mem hx2
    rw [e] at hm
    exact hm
  · intro hid
    refine ⟨nm1 p.1 (decide (1 < (iset p.2).length)) id, List.mem_filter.2 ⟨(join_mem rt _).2 ⟨p, hp, nmL_has hid⟩, ?_⟩, rfl⟩
    unfold ofRef
    rw [decide_eq_true_eq, nmL_ent (h.2 p hp) p.2 (nmL_has hid)]
theorem join_refs {rt : List RT} (h : okR rt) (r : Bs) : r ∈ refsOf (srtN (pts rt).flatten) ↔ ∃ p ∈ rt, p.1 = r ∧ p.2 ≠ [] := by
  unfold refsOf
  rw [if_pos (join_chk h)]
  unfold sset
  rw [mem_kset, List.mem_map]
  constructor
  · rintro ⟨x, hx, rfl⟩
    obtain ⟨p, hp, hx⟩ := (join_mem rt x).1 hx
    refine ⟨p, hp, by rw [nmL_ent (h.2 p hp) p.2 hx], fun e => ?_⟩
    have := nmL_mem hx
    rw [e] at this
    cases this
  · rintro ⟨p, hp, rfl, hne⟩
    obtain ⟨id, hid⟩ := List.exists_mem_of_ne_nil _ hne
    exact ⟨_, (join_mem rt _).2 ⟨p, hp, nmL_has hid⟩, by rw [nmL_ent (h.2 p hp) p.2 (nmL_has hid)]⟩
/-- a joined listing, taken apart by its refs -/
def apart (o : List Li) : List RT := (refsOf o).map fun r => (r, tipsOf o r)
theorem apart_ok {rt : List RT} (h : okR rt) : okR (apart (srtN (pts rt).flatten)) := by
  constructor
  · unfold apart
    rw [List.map_map]
    have e : ((fun x : RT => x.1) ∘ fun r => (r, tipsOf (srtN (pts rt).flatten) r)) = id := rfl
    rw [e, List.map_id]
    unfold refsOf
    rw [if_pos (join_chk h)]
    exact (kset_sorted (fun s : Bs => s) (fun x y h => h) _).imp fun h => h.2
  · intro p hp
    unfold apart at hp
    obtain ⟨r, hr, rfl⟩ := List.mem_map.1 hp
    obtain ⟨q, hq, rfl, _⟩ := (join_refs h r).1 hr
    exact h.2 q hq
theorem apart_mem {rt : List RT} (h : okR rt) (x : Li) : (∃ p ∈ apart (srtN (pts rt).flatten), x ∈ nmL p.1 p.2) ↔ ∃ p ∈ rt, x ∈ nmL p.1 p.2 := by
  constructor
  · rintro ⟨p, hp, hx⟩
    unfold apart at hp
    obtain ⟨r, hr, rfl⟩ := List.mem_map.1 hp
    obtain ⟨q, hq, rfl, _⟩ := (join_refs h r).1 hr
    dsimp only at hx
    rw [join_tips h hq, nmL_iset] at hx
    exact ⟨q, hq, hx⟩
  · rintro ⟨p, hp, hx⟩
    have hne : p.2 ≠ [] := fun e => by
      have := nmL_mem hx
      rw [e] at this
      cases this
    refine ⟨(p.1, tipsOf (srtN (pts rt).flatten) p.1), List.mem_map.2 ⟨p.1, (join_refs h p.1).2 ⟨p, hp, rfl, hne⟩, rfl⟩, ?_⟩
    dsimp only
    rw [join_tips h hp, nmL_iset]
    exact hx
theorem apart_join {rt : List RT} (h : okR rt) : srtN (pts (apart (srtN (pts rt).flatten))).flatten = srtN (pts rt).flatten :=
  join_same (apart_ok h) h (apart_mem h)
end Go.Proofs.YtibofabkpgigoaaGreatDoor
