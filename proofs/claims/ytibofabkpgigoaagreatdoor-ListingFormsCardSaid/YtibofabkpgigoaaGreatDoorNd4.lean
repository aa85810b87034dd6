/- Plain laws: names taken apart, ids' texts. -/
import Derived.Test.YtibofabkpgigoaaGreatDoorNd3
set_option linter.unusedSimpArgs false
set_option linter.unusedVariables false
namespace Go.Proofs.YtibofabkpgigoaaGreatDoor
open Go.En

theorem ib_app : ∀ (s t : Bs) (c : UInt8), c ∉ s → Lib.indexByte (s ++ c :: t) c = s.length
  | [], t, c, _ => by simp [Lib.indexByte]
  | x :: s, t, c, h => by
    have h1 : ¬ c = x := fun e => h (by rw [e]; exact List.mem_cons_self)
    have ih := ib_app s t c (fun hm => h (List.mem_cons_of_mem _ hm))
    rw [List.cons_append]
    unfold Lib.indexByte
    rw [if_neg (by simpa using fun e => h1 e.symm), ih, if_neg (by simp)]
    simp
theorem ib_none : ∀ (s : Bs) (c : UInt8), c ∉ s → Lib.indexByte s c = -1
  | [], c, _ => rfl
  | x :: s, c, h => by
    have h1 : ¬ c = x := fun e => h (by rw [e]; exact List.mem_cons_self)
    have ih := ib_none s c (fun hm => h (List.mem_cons_of_mem _ hm))
    unfold Lib.indexByte
    rw [if_neg (by simpa using fun e => h1 e.symm), ih]
    rfl
theorem cut_hit (s t : Bs) (h : (126 : UInt8) ∉ s) : Lib.cut (s ++ 126 :: t) [126] = (s, t, true) := by
  unfold Lib.cut
  rw [Lib.index_one, ib_app s t 126 h, if_pos (by omega)]
  simp
theorem cut_miss (s : Bs) (h : (126 : UInt8) ∉ s) : Lib.cut s [126] = (s, [], false) := by
  unfold Lib.cut
  rw [Lib.index_one, ib_none s 126 h, if_neg (by omega)]
theorem brk_no {s : Bs} (h : brk s = 0) : (126 : UInt8) ∉ s := by
  intro hm
  have h1 := brkF_0 s 8 0 h 1 (by omega) (by omega)
  simp only [rul] at h1
  rw [List.any_eq_false] at h1
  exact h1 126 hm (by decide)
theorem dgv_dig {i : Nat} (h : i < 16) : dgv (dig.getD i 0) = i ∧ isD (dig.getD i 0) = true := by
  have key : ∀ i : Fin 16, dgv (dig.getD i.val 0) = i.val ∧ isD (dig.getD i.val 0) = true := by decide
  exact key ⟨i, h⟩
theorem hex_at : ∀ (id : Bs) (i : Nat) (h : i < id.length), (hex id).getD (2 * i) 0 = dig.getD (id[i].toNat / 16) 0 ∧ (hex id).getD (2 * i + 1) 0 = dig.getD (id[i].toNat % 16) 0
  | c :: id, 0, _ => by constructor <;> rfl
  | c :: id, i + 1, h => by
    have ih := hex_at id i (by simpa using h)
    have e : hex (c :: id) = dig.getD (c.toNat / 16) 0 :: dig.getD (c.toNat % 16) 0 :: hex id := by simp [hex, hx]
    rw [e, show 2 * (i + 1) = 2 * i + 1 + 1 by omega]
    simpa using ih
theorem unhex_hex {id : Bs} (hl : id.length = 32) : unhex (hex id) = some id := by
  unfold unhex
  rw [if_pos]
  · congr 1
    unfold unh
    refine List.ext_getElem (by simp [hl]) fun i h1 h2 => ?_
    rw [List.getElem_map, List.getElem_range]
    have := hex_at id i h2
    rw [this.1, this.2]
    have hb := id[i].toNat_lt
    rw [(dgv_dig (show id[i].toNat / 16 < 16 by omega)).1, (dgv_dig (show id[i].toNat % 16 < 16 by omega)).1]
    rw [show 16 * (id[i].toNat / 16) + id[i].toNat % 16 = id[i].toNat by omega]
    simp
  · refine ⟨by rw [hex_len, hl], List.all_eq_true.2 fun x hx => ?_⟩
    unfold hex at hx
    obtain ⟨l, hl, hx⟩ := List.mem_flatten.1 hx
    obtain ⟨c, _, rfl⟩ := List.mem_map.1 hl
    have hb := c.toNat_lt
    have hx : x ∈ [dig.getD (c.toNat / 16) 0, dig.getD (c.toNat % 16) 0] := hx
    rcases List.mem_cons.1 hx with rfl | hx
    · exact (dgv_dig (by omega)).2
    · rw [List.mem_singleton.1 hx]
      exact (dgv_dig (by omega)).2
end Go.Proofs.YtibofabkpgigoaaGreatDoor
