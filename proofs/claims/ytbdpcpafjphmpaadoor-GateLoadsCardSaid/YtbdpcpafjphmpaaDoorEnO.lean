/- One resource of each of a list. -/
import Derived.Test.YtbdpcpafjphmpaaDoorEnQ
set_option linter.unusedSimpArgs false
set_option linter.unusedVariables false
namespace Go.En

/-- one resource of each -/
def ows {α : Type} (F : α → Res) : List α → Res
  | [] => emp
  | a :: l => (F a).and (ows F l)
section
variable {w w0 : World} {S0 : Nat → Prop} {L B : List Res}
theorem St.emp (hS : St w0 S0 w L) : St w0 S0 w (L ++ [En.emp]) := hS.new (Fr.refl _ _) (fun _ h => h.elim) (fun _ h => h.elim) trivial
theorem selB' {A B A' : List Res} (hS : St w0 S0 w (A ++ B)) (is : List Nat) (h : En.sel A is = some A') (hn : nodB is = true) : St w0 S0 w (A' ++ B) := by
  have hg := sel_get h
  refine ⟨?_, ?_, ?_, ?_, hS.fr⟩
  all_goals
    have look : ∀ (k : Nat) (r : Res), (A' ++ B)[k]? = some r → ∃ i, (A ++ B)[i]? = some r ∧ ((k < A'.length ∧ is[k]? = some i ∧ i < A.length) ∨ (A'.length ≤ k ∧ i = A.length + (k - A'.length))) := by
      intro k r hk
      by_cases hlt : k < A'.length
      · rw [List.getElem?_append_left hlt] at hk
        obtain ⟨i, h1, h2⟩ := hg k r hk
        have hi := (List.getElem?_eq_some_iff.1 h2).1
        exact ⟨i, by rw [List.getElem?_append_left hi]; exact h2, .inl ⟨hlt, h1, hi⟩⟩
      · rw [List.getElem?_append_right (by omega)] at hk
        exact ⟨A.length + (k - A'.length), by rw [List.getElem?_append_right (by omega), Nat.add_sub_cancel_left]; exact hk, .inr ⟨by omega, rfl⟩⟩
  · intro k r hk; obtain ⟨i, hi, _⟩ := look k r hk; exact hS.ok i r hi
  · intro k r hk; obtain ⟨i, hi, _⟩ := look k r hk; exact hS.bd i r hi
  · intro k r hk; obtain ⟨i, hi, _⟩ := look k r hk; exact hS.src i r hi
  · intro k k' r s hk hk' hne
    obtain ⟨i, hi, hi'⟩ := look k r hk
    obtain ⟨j, hj, hj'⟩ := look k' s hk'
    refine hS.dis i j r s hi hj (fun e => hne ?_)
    subst e
    rcases hi' with ⟨_, h1, h2⟩ | ⟨h1, h2⟩ <;> rcases hj' with ⟨_, h3, h4⟩ | ⟨h3, h4⟩
    · exact (List.getElem?_inj (List.getElem?_eq_some_iff.1 h1).1 (nodB_ok hn)).1 (h1.trans h3.symm)
    · omega
    · omega
    · omega
theorem St.ows_split {α : Type} {F : α → Res} : ∀ (l : List α) (x : α) (r : List α) {B : List Res}, St w0 S0 w (ows F (l ++ x :: r) :: B) → St w0 S0 w (ows F l :: F x :: ows F r :: B)
  | [], x, r, B, hS => by
    have hS : St w0 S0 w ((F x).and (ows F r) :: B) := hS
    have hS := (hS.split 0 rfl).front
    have hS : St w0 S0 w (ows F r :: F x :: B) := hS
    have hS := hS.emp.front
    exact selB' (A := [_, _, _]) (B := B) hS [0, 2, 1] rfl rfl
  | a :: l, x, r, B, hS => by
    have hS : St w0 S0 w ((F a).and (ows F (l ++ x :: r)) :: B) := hS
    have hS := (hS.split 0 rfl).front
    have hS : St w0 S0 w (ows F (l ++ x :: r) :: F a :: B) := hS
    have hS := St.ows_split l x r hS
    have hS := selB' (A := [_, _, _, _]) (B := B) hS [3, 0, 1, 2] rfl rfl
    have hS := hS.merge 0 1 rfl rfl (by decide)
    have hS : St w0 S0 w ((F a).and (ows F l) :: En.emp :: F x :: ows F r :: B) := hS
    exact selB' (A := [_, _, _, _]) (B := B) hS [0, 2, 3] rfl rfl
theorem St.ows_join {α : Type} {F : α → Res} : ∀ (l : List α) (x : α) (r : List α) {B : List Res}, St w0 S0 w (ows F l :: F x :: ows F r :: B) → St w0 S0 w (ows F (l ++ x :: r) :: B)
  | [], x, r, B, hS => by
    have hS := hS.tail
    have hS := hS.merge 0 1 rfl rfl (by decide)
    have hS : St w0 S0 w ((F x).and (ows F r) :: En.emp :: B) := hS
    exact selB' (A := [_, _]) (B := B) hS [0] rfl rfl
  | a :: l, x, r, B, hS => by
    have hS : St w0 S0 w ((F a).and (ows F l) :: F x :: ows F r :: B) := hS
    have hS := (hS.split 0 rfl).front
    have hS : St w0 S0 w (ows F l :: F a :: F x :: ows F r :: B) := hS
    have hS := selB' (A := [_, _, _, _]) (B := B) hS [0, 2, 3, 1] rfl rfl
    have hS := St.ows_join l x r hS
    have hS := selB' (A := [_, _]) (B := B) hS [1, 0] rfl rfl
    have hS := hS.merge 0 1 rfl rfl (by decide)
    have hS : St w0 S0 w ((F a).and (ows F (l ++ x :: r)) :: En.emp :: B) := hS
    exact selB' (A := [_, _]) (B := B) hS [0] rfl rfl
theorem St.ows_nil {α : Type} (F : α → Res) (hS : St w0 S0 w B) : St w0 S0 w (ows F [] :: B) := hS.emp.front
theorem St.ows_app {α : Type} {F : α → Res} {l : List α} {x : α} (hS : St w0 S0 w (ows F l :: F x :: B)) : St w0 S0 w (ows F (l ++ [x]) :: B) := by
  have hS := hS.emp.front
  have hS := selB' (A := [_, _, _]) (B := B) hS [1, 2, 0] rfl rfl
  exact St.ows_join l x [] hS
theorem ows_mem {α : Type} {F : α → Res} : ∀ {l : List α} {x : α}, (ows F l).ok w → x ∈ l → (F x).ok w
  | a :: l, x, h, hx => by
    rcases List.mem_cons.1 hx with e | hx
    · subst e; exact h.1
    · exact ows_mem (l := l) h.2.1 hx
end
end Go.En
