/- Plain laws: what a ref's tips under their names tell. -/
import Derived.Test.YtibofabkpgigoaaGreatDoorNd4
set_option linter.unusedSimpArgs false
set_option linter.unusedVariables false
namespace Go.Proofs.YtibofabkpgigoaaGreatDoor
open Go.En

theorem nmE_0 {s : Bs} (h : brk s = 0) : nmE s = 0 := by unfold nmE; rw [if_pos h]
theorem spN_ref {s : Bs} (h : brk s = 0) : spN s = (s, zid, false, 0) := by
  unfold spN
  rw [cut_miss s (brk_no h)]
  simp [nmE_0 h]
theorem unhE_hex (id : Id) : unhE (hex id.1) = 0 := by unfold unhE; rw [unhex_hex id.2]; rfl
theorem unhV_hex (id : Id) : unhV (hex id.1) = id.1 := by unfold unhV; rw [unhex_hex id.2]; rfl
theorem spN_cfl {s : Bs} (h : brk s = 0) (id : Id) : spN (cfl s id) = (s, id.1, true, 0) := by
  unfold spN cfl
  rw [cut_hit s _ (brk_no h)]
  simp [nmE_0 h, unhE_hex, unhV_hex]
theorem ent_nm {s : Bs} (h : brk s = 0) (m : Bool) (id : Id) : ent (nm1 s m id) = (s, m, true) := by
  cases m
  · simp [ent, nm1, spN_ref h]
  · simp [ent, nm1, spN_cfl h]
theorem nmL_ent {s : Bs} (h : brk s = 0) (ids : List Id) {x : Li} (hx : x ∈ nmL s ids) : ent x = (s, decide (1 < (iset ids).length), true) := by
  unfold nmL at hx
  obtain ⟨id, _, rfl⟩ := List.mem_map.1 hx
  exact ent_nm h _ _
theorem nmL_chk {s : Bs} (h : brk s = 0) (ids : List Id) : chk (nmL s ids) = true := by
  unfold chk
  simp only [Bool.and_eq_true, List.all_eq_true, Bool.or_eq_true, Bool.not_eq_true', decide_eq_true_eq]
  refine ⟨?_, fun x hx => by rw [nmL_ent h ids hx], fun x hx => ?_⟩
  · have hs := nmL_sorted s ids
    have nd : (nmL s ids).Nodup := by
      unfold nmL
      have : (iset ids).Nodup := (kset_sorted (fun x : Id => x.1) id_inj ids).imp fun h => h.2
      refine List.Pairwise.map _ (fun a b hab e => hab ?_) this
      exact congrArg Prod.snd e
    rw [List.pairwise_iff_getElem] at hs ⊢
    intro i j hi hj hij
    refine ⟨hs i j hi hj hij, fun e => ?_⟩
    have := nmL_inj s ids _ _ (List.getElem_mem hi) (List.getElem_mem hj) e
    exact (List.pairwise_iff_getElem.1 nd i j hi hj hij) this
  · rw [nmL_ent h ids hx]
    cases hm : decide (1 < (iset ids).length)
    · exact .inl rfl
    · exact .inr fun y hy => .inl (by rw [nmL_ent h ids hy]; exact hm)
theorem nmL_tips {s : Bs} (h : brk s = 0) (ids : List Id) : tipsOf (nmL s ids) s = iset ids := by
  unfold tipsOf
  rw [if_pos (nmL_chk h ids)]
  have e : tipsF (nmL s ids) s = iset ids := by
    unfold tipsF
    rw [List.filter_eq_self.2 fun x hx => by unfold ofRef; rw [nmL_ent h ids hx]; exact decide_eq_true rfl]
    unfold nmL
    rw [List.map_map]
    exact (List.map_congr_left fun x _ => rfl).trans (List.map_id _)
  rw [e]
  exact kset_self _ id_inj (kset_sorted _ id_inj ids)
theorem nmL_find {s : Bs} (h : brk s = 0) (ids : List Id) {x : Li} (hx : x ∈ nmL s ids) : fnd (nmL s ids) x.1 = some x.2 := by
  unfold fnd
  rw [if_pos (nmL_chk h ids)]
  cases hf : (nmL s ids).find? fun y => decide (y.1 = x.1) with
  | none =>
    have := List.find?_eq_none.1 hf x hx
    simp at this
  | some y =>
    have h1 := List.find?_some hf
    have h2 := List.mem_of_find?_eq_some hf
    rw [decide_eq_true_eq] at h1
    rw [nmL_inj s ids y x h2 hx h1]
    rfl
theorem nmL_len (s : Bs) (ids : List Id) : (nmL s ids).length = (iset ids).length := by unfold nmL; rw [List.length_map]
theorem word_inj (x y : Bs) (h : x = y) : x = y := h
theorem nmL_refs {s : Bs} (h : brk s = 0) (ids : List Id) : (refsOf (nmL s ids)).length = min 1 (iset ids).length := by
  unfold refsOf
  rw [if_pos (nmL_chk h ids)]
  cases hI : iset ids with
  | nil =>
    have e : nmL s ids = [] := List.eq_nil_of_length_eq_zero (by rw [nmL_len, hI]; rfl)
    rw [e]
    have : sset [] = [] := List.eq_nil_of_length_eq_zero (Nat.le_zero.1 (kset_len _ []))
    rw [List.map_nil, this]
    rfl
  | cons a r =>
    have e : sset ((nmL s ids).map fun x => (ent x).1) = [s] := by
      refine lts_unique _ (fun x y h => h) (kset_sorted _ (fun x y h => h) _) (List.pairwise_singleton _ _) fun x => ?_
      unfold sset
      rw [mem_kset, List.mem_map, List.mem_singleton]
      constructor
      · rintro ⟨y, hy, rfl⟩
        rw [nmL_ent h ids hy]
      · rintro rfl
        refine ⟨nm1 x (decide (1 < (iset ids).length)) a, ?_, by rw [ent_nm h]⟩
        unfold nmL
        exact List.mem_map.2 ⟨a, by rw [hI]; exact List.mem_cons_self, rfl⟩
    rw [e]
    simp
end Go.Proofs.YtibofabkpgigoaaGreatDoor
