/- What comes in under a bound: lists of lists. -/
import Derived.Test.YtibofabkpgigoaaGreatDoorNg0
import Derived.Test.YtibofabkpgigoaaGreatDoorNf2
import Derived.Test.YtibofabkpgigoaaGreatDoorEnV
import Derived.Test.YtibofabkpgigoaaGreatDoorRows
set_option linter.unusedSimpArgs false
set_option linter.unusedVariables false
namespace Go.Proofs.YtibofabkpgigoaaGreatDoor
open Go.En Go.ChangeShapes Go.WideShapes Go.Deep

section
variable {H : Type} {enc : TypeId × Value → H} {W : World}
theorem bulk_one (d : DataW H) : 1 ≤ Rows.uptoBulk d := by
  cases d with
  | lit l => cases l <;> simp [Rows.uptoBulk]
  | nil => simp [Rows.uptoBulk]
  | ptr d => simp [Rows.uptoBulk]
  | slice elems spare => simp [Rows.uptoBulk]
  | agg parts => simp [Rows.uptoBulk]
  | iface t d => simp [Rows.uptoBulk]
  | map entries => simp [Rows.uptoBulk]
  | held h => simp [Rows.uptoBulk]
theorem bulk_mem {d : DataW H} {l : List (DataW H)} (h : d ∈ l) : Rows.uptoBulk d ≤ Rows.uptoBulkAll l := by
  induction l with
  | nil => cases h
  | cons x r ih =>
    simp only [Rows.uptoBulkAll]
    cases List.mem_cons.1 h with
    | inl e => subst e; omega
    | inr e => have := ih e; omega
theorem bulk_len (l : List (DataW H)) : l.length ≤ Rows.uptoBulkAll l := by
  induction l with
  | nil => simp [Rows.uptoBulkAll]
  | cons x r ih => have := bulk_one x; simp only [Rows.uptoBulkAll, List.length_cons]; omega
theorem bulk_sl (Ds sp : List (DataW H)) : Ds.length + 1 ≤ Rows.uptoBulk (.slice Ds sp) ∧ ∀ x ∈ Ds, Rows.uptoBulk x ≤ Rows.uptoBulk (.slice Ds sp) := by
  have h1 := bulk_len Ds
  refine ⟨by simp only [Rows.uptoBulk]; omega, fun x hx => ?_⟩
  have := bulk_mem hx
  simp only [Rows.uptoBulk]
  omega
/-- the length of a slice is at most its bulk -/
theorem sl_bulk {α : Type} {os : List α} {n : Nat} {d : DataW H} {R : α → DataW H → Prop} (hn : os.length = n) (h : (d = .nil ∧ os = []) ∨ ∃ Ds sp, d = .slice Ds sp ∧ Ds.length = n ∧ ∀ o ∈ os, ∃ x ∈ Ds, R o x) :
    n ≤ Rows.uptoBulk d ∧ ∀ o ∈ os, ∃ x, R o x ∧ Rows.uptoBulk x ≤ Rows.uptoBulk d := by
  rcases h with ⟨rfl, rfl⟩ | ⟨Ds, sp, rfl, hl, hR⟩
  · exact ⟨by rw [← hn]; exact Nat.zero_le _, fun o ho => nomatch ho⟩
  · obtain ⟨h1, h2⟩ := bulk_sl Ds sp
    refine ⟨by omega, fun o ho => ?_⟩
    obtain ⟨x, hx, hr⟩ := hR o ho
    exact ⟨x, hr, h2 x hx⟩
/-- ids in a slice of their own -/
abbrev Iv1 := Value × List Id
def IvR (w : World) (p : Iv1) : Prop := ∃ E, Rd p.1 E 32 p.2.length (fl ic p.2) w
theorem ids_el {fuel : Nat} {cs : List Value} {x : DataW H × List MemPlace} (h : DataW.trod enc Tryz.prog W 0 (fun _ => true) true fuel 32 cs = some x) : ∃ o : Iv1, cs = [o.1] ∧ IvR W o ∧ o.2.length ≤ Rows.uptoBulk x.1 := by
  have hcs : ∃ a n c, cs = [.slice a n c] := by
    rcases open_slice Tryz.underlying32 h with ⟨hcs, _⟩ | ⟨a, len, cap, m, n, D, Pl, hcs, _⟩
    · exact ⟨_, _, _, hcs⟩
    · exact ⟨_, _, _, hcs⟩
  obtain ⟨a, n, c, rfl⟩ := hcs
  obtain ⟨E, n', os, h1, h2, h3, h4⟩ := slice_ofD (v := .slice a n c) (d := x.1) (p := x.2) (R := fun _ _ => True) Tryz.underlying32 (by kernel_rfl) (by decide) ⟨zid, zid_len⟩ ic_len (fun h => by
    obtain ⟨o, ho, _⟩ := id_of h
    exact ⟨o, ho, trivial⟩) ⟨_, _, _, rfl⟩ ⟨fuel, h⟩
  refine ⟨(.slice a n c, os), rfl, ⟨E, by rw [h1]; exact h3⟩, ?_⟩
  rw [h1]
  exact (sl_bulk h1 h4).1
theorem lis_el {fuel : Nat} {cs : List Value} {x : DataW H × List MemPlace} (h : DataW.trod enc Tryz.prog W 0 (fun _ => true) true fuel 22 cs = some x) : ∃ o : Lv1, cs = [o.1] ∧ LvR W o ∧ o.2.length ≤ Rows.uptoBulk x.1 := by
  have hcs : ∃ a n c, cs = [.slice a n c] := by
    rcases open_slice Tryz.underlying22 h with ⟨hcs, _⟩ | ⟨a, len, cap, m, n, D, Pl, hcs, _⟩
    · exact ⟨_, _, _, hcs⟩
    · exact ⟨_, _, _, hcs⟩
  obtain ⟨a, n, c, rfl⟩ := hcs
  obtain ⟨E, n', os, h1, h2, h3, h4⟩ := slice_ofD (v := .slice a n c) (d := x.1) (p := x.2) (R := fun _ _ => True) Tryz.underlying22 (by kernel_rfl) (by decide) default lc_len (fun h => by
    obtain ⟨o, ho, _⟩ := li_of h
    exact ⟨o, ho, trivial⟩) ⟨_, _, _, rfl⟩ ⟨fuel, h⟩
  refine ⟨(.slice a n c, os), rfl, ⟨E, by rw [h1]; exact h3⟩, ?_⟩
  rw [h1]
  exact (sl_bulk h1 h4).1
theorem fl_1 {α : Type} (l : List (Value × α)) : fl (fun o : Value × α => [o.1]) l = l.map (·.1) := by
  unfold fl
  induction l with
  | nil => rfl
  | cons x l ih => simp [ih]
theorem idss_of {v : Value} {d : DataW H} {p : List MemPlace} (hv : ∃ a n c, v = .slice a n c) (h : DataW.Trod enc Tryz.prog W 0 (fun _ => true) true 49 v d p) :
    ∃ E n, ∃ os : List Iv1, os.length = n ∧ n ≤ 9223372036854775807 ∧ Rd v E 1 n (os.map (·.1)) W ∧ (∀ o ∈ os, IvR W o) ∧ n ≤ Rows.uptoBulk d ∧ ∀ o ∈ os, o.2.length ≤ Rows.uptoBulk d := by
  obtain ⟨E, n, os, h1, h2, h3, h4⟩ := slice_ofD (α := Iv1) (enc' := fun o => [o.1]) (R := fun o x => IvR W o ∧ o.2.length ≤ Rows.uptoBulk x) Tryz.underlying49 (by kernel_rfl) (by decide) (.nilFunc, []) (fun _ => rfl) (fun h => ids_el h) hv h
  obtain ⟨h5, h6⟩ := sl_bulk h1 h4
  rw [fl_1] at h3
  refine ⟨E, n, os, h1, h2, h3, fun o ho => ?_, h5, fun o ho => ?_⟩
  · obtain ⟨x, hx, _⟩ := h6 o ho; exact hx.1
  · obtain ⟨x, hx, hl⟩ := h6 o ho; exact Nat.le_trans hx.2 hl
theorem liss_of {v : Value} {d : DataW H} {p : List MemPlace} (hv : ∃ a n c, v = .slice a n c) (h : DataW.Trod enc Tryz.prog W 0 (fun _ => true) true 50 v d p) :
    ∃ E n, ∃ os : List Lv1, os.length = n ∧ n ≤ 9223372036854775807 ∧ Rd v E 1 n (os.map (·.1)) W ∧ (∀ o ∈ os, LvR W o) := by
  obtain ⟨E, n, os, h1, h2, h3, h4⟩ := slice_ofD (α := Lv1) (enc' := fun o => [o.1]) (R := fun o x => LvR W o ∧ o.2.length ≤ Rows.uptoBulk x) Tryz.underlying50 (by kernel_rfl) (by decide) (.nilFunc, []) (fun _ => rfl) (fun h => lis_el h) hv h
  obtain ⟨h5, h6⟩ := sl_bulk h1 h4
  rw [fl_1] at h3
  refine ⟨E, n, os, h1, h2, h3, fun o ho => ?_⟩
  obtain ⟨x, hx, _⟩ := h6 o ho
  exact hx.1
theorem fl_sv (l : List Bs) : fl (fun s : Bs => [sv s]) l = l.map sv := by
  unfold fl
  induction l with
  | nil => rfl
  | cons x l ih => simp [ih]
theorem strs_of {v : Value} {d : DataW H} {p : List MemPlace} (hv : ∃ a n c, v = .slice a n c) (h : DataW.Trod enc Tryz.prog W 0 (fun _ => true) true 46 v d p) : ∃ E n, ∃ os : List Bs, os.length = n ∧ n ≤ 9223372036854775807 ∧ Rd v E 1 n (os.map sv) W := by
  obtain ⟨E, n, os, h1, h2, h3, _⟩ := slice_of (α := Bs) (enc' := fun s => [sv s]) (R := fun _ => True) Tryz.underlying46 (by kernel_rfl) (by decide) [] (fun _ => rfl) str_of hv h
  rw [fl_sv] at h3
  exact ⟨E, n, os, h1, h2, h3⟩
end
end Go.Proofs.YtibofabkpgigoaaGreatDoor
