/- An append to a full slice; a called function's contract taken over. -/
import Derived.Test.YtegjocpjmfaigaaEnO
set_option linter.unusedSimpArgs false
set_option linter.unusedVariables false
namespace Go.En
section
variable {P : Program} {r : Option Nat} {T : TT} {w w0 : World} {S0 : Nat → Prop} {L : List Res} {K : Value → World → Prop}

theorem Rd.first {a : Option Addr} {n c E sz : Nat} {xs : List Value} (h : Rd (.slice a n c) E sz n xs w) {w' : World} (hw : w'.heap = w.heap) : (Builtin.firstCells sz n (.slice a n c)).run P w' = .ok ⟨xs⟩ w' :=
  News.first (.inl ⟨E, h⟩) hw

/-- APPEND TO A SLICE THAT IS FULL: a new row, always. -/
theorem ef_apf {E : TypeId} {sz bytes : Nat} {z : ZZ} {x y : Operand} {a : Option Addr} {u : Value} {n m : Nat} {xs ys : List Value} (hS : St w0 S0 w L) (hx : ev T x = some (.slice a n n)) (hr : Rd (.slice a n n) E sz n xs w) (hy : ev T y = some u) (hu : News u sz m ys w) (hm : 0 < m)
    (hfit : (n + m) * bytes ≤ 140737488355328) (h63 : n + m ≤ 9223372036854775807)
    (h : ∀ v' w', St w0 S0 w' (L ++ [row v' E sz (n + m) (xs ++ ys)]) → K v' w') : Ef P r (.ap E sz bytes z x y) T w K := by
  refine ef_run ?_
  rintro ⟨dst, op, ty, pos, after, guard⟩ ρ hc ha
  cases op <;> simp only [chkO, Bool.false_eq_true, Bool.and_eq_true] at hc
  rename_i c
  obtain ⟨⟨⟨hb, he⟩, hc⟩, hd⟩ := hc
  obtain ⟨cs, hrb⟩ := run_builtin (P := P) hb ρ ⟨dst, .call c, ty, pos, after, guard⟩ rfl
  have he := oeqs_eq he
  simp only [hrb, ← he, List.map_cons, List.map_nil, ha.2 _ (by simp [MK.ops]) _ hx, ha.2 _ (by simp [MK.ops]) _ hy]
  split at hc
  · rename_i t ht
    split at hc
    · rename_i e hu'
      simp only [Bool.and_eq_true, decide_eq_true_eq] at hc
      obtain ⟨⟨⟨⟨rfl, hs⟩, hby⟩, hz⟩, hzl⟩ := hc
      split at hd
      · rename_i t2 ht2
        have hd' : ∃ d, P.underlying t2 = some d ∧ (∀ k, d ≠ .int k) := by
          split at hd
          · rename_i e2 h2; exact ⟨_, h2, fun k e => by cases e⟩
          · rename_i h2; exact ⟨_, h2, fun k e => by cases e⟩
          · simp at hd
        have hty : ∀ vs : Array Value, (Builtin.append_ c.argTypes ty vs).run P w = (Builtin.append_ #[t, t2] ty vs).run P w := by
          intro vs
          simp only [Builtin.append_, ht, ht2]
          rfl
        simp only [builtin, Sem.run_bind, hty]
        have hln := hu.len
        have hlx := hr.len
        obtain ⟨cap, hcap, hrun⟩ := run_append_gr (P := P) (w := w) (ty := ty) (a := a) (n := n) (m := m) (c := n) (x := u) (xs := xs) (ys := ys) hu' hd' hs hby hz (fun w' hw => hr.first hw) hu (by omega) hfit h63
        refine ⟨_, _, by rw [hrun]; rfl, h _ _ ?_⟩
        refine hS.new (drew_alloc w _ _) (fun b hb => by have : b = w.heap.size := hb; omega) (fun b hb => by have : b = w.heap.size := hb; rw [alloc_size]; show _ < w.heap.size + 1; omega) ?_
        refine .inr ⟨w.heap.size, cap, rep (cap - (n + m)) z, rfl, hcap, by rw [List.length_append, hln, hlx, Nat.add_mul], ?_, ?_⟩
        · simp only [List.length_append, hln, hlx, rep_length, hzl]
          rw [← Nat.add_mul, ← Nat.add_mul]; congr 1; omega
        · exact Blk.alloc (w := w.drew) _ _
      · simp at hd
    · simp at hc
  · simp at hc

/-- which resources are kept, and in which order -/
def sel (L : List Res) : List Nat → Option (List Res)
  | [] => some []
  | i :: is => match L[i]?, sel L is with | some r, some R => some (r :: R) | _, _ => none
theorem sel_get {L : List Res} : ∀ {is : List Nat} {R : List Res}, sel L is = some R → ∀ (k : Nat) (r : Res), R[k]? = some r → ∃ i : Nat, is[k]? = some i ∧ L[i]? = some r
  | [], R, h, k, r, hk => by simp [sel] at h; subst h; simp at hk
  | i :: is, R, h, k, r, hk => by
    simp only [sel] at h
    split at h
    · rename_i r0 R0 h1 h2
      cases h
      cases k with
      | zero => simp at hk; subst hk; exact ⟨i, rfl, h1⟩
      | succ k => exact sel_get h2 k r (by simpa using hk)
    · cases h
def nodB : List Nat → Bool
  | [] => true
  | i :: is => !(is.any (Nat.beq i)) && nodB is
theorem nodB_ok : ∀ {is : List Nat}, nodB is = true → is.Nodup
  | [], _ => List.nodup_nil
  | i :: is, h => by
    simp only [nodB, Bool.and_eq_true, Bool.not_eq_true'] at h
    refine List.nodup_cons.2 ⟨fun hm => ?_, nodB_ok h.2⟩
    have : is.any (Nat.beq i) = true := List.any_eq_true.2 ⟨i, hm, Nat.beq_refl i⟩
    rw [this] at h; cases h.1
theorem St.sel (hS : St w0 S0 w L) (is : List Nat) {R : List Res} (h : En.sel L is = some R) (hn : nodB is = true) : St w0 S0 w R := hS.pick is R (sel_get h) (nodB_ok hn)
theorem St.sub {A L' : List Res} (hs : L'.Sublist L) : St w0 S0 w (A ++ L) → St w0 S0 w (A ++ L') := by
  induction hs generalizing A with
  | slnil => exact id
  | cons a _ ih =>
    rename_i l1 l2 _
    intro h
    refine ih ?_
    have get : ∀ (j : Nat) (t : Res), (A ++ l2)[j]? = some t → (A ++ a :: l2)[if j < A.length then j else j + 1]? = some t := by
      intro j t hj
      split
      · rename_i e; rw [List.getElem?_append_left e] at hj ⊢; exact hj
      · rename_i e
        rw [List.getElem?_append_right (by omega)] at hj ⊢
        rw [show j + 1 - A.length = (j - A.length) + 1 from by omega, List.getElem?_cons_succ]; exact hj
    refine ⟨?_, ?_, ?_, ?_, h.fr⟩
    · intro j t hj; exact h.ok _ t (get j t hj)
    · intro j t hj; exact h.bd _ t (get j t hj)
    · intro j t hj; exact h.src _ t (get j t hj)
    · intro j k t u hj hk hne; exact h.dis _ _ t u (get j t hj) (get k u hk) (by split <;> split <;> omega)
  | cons_cons a _ ih =>
    intro h
    have := ih (A := A ++ [a]) (by simpa using h)
    simpa using this
/-- A called function is handed the first ones, and gives back others. -/
theorem St.frame {A B : List Res} (h : St w0 S0 w (A ++ B)) : St w (foot A) w A ∧ ∀ w' A', St w (foot A) w' A' → St w0 S0 w' (A' ++ B) := by
  have ga : ∀ (j : Nat) (t : Res), A[j]? = some t → (A ++ B)[j]? = some t := fun j t hj => by rw [List.getElem?_append_left (List.getElem?_eq_some_iff.1 hj).1]; exact hj
  have gb : ∀ (j : Nat) (t : Res), B[j]? = some t → (A ++ B)[A.length + j]? = some t := fun j t hj => by rw [List.getElem?_append_right (by omega), Nat.add_sub_cancel_left]; exact hj
  refine ⟨⟨fun j t hj => h.ok j t (ga j t hj), fun j t hj => h.bd j t (ga j t hj), fun j t hj b hb => .inl ⟨j, t, hj, hb⟩, fun j k t u hj hk hne => h.dis j k t u (ga j t hj) (ga k u hk) hne, Fr.refl _ _⟩, ?_⟩
  intro w' A' hn
  have get : ∀ (j : Nat) (t : Res), (A' ++ B)[j]? = some t → (j < A'.length ∧ A'[j]? = some t) ∨ (A'.length ≤ j ∧ B[j - A'.length]? = some t) := by
    intro j t hj
    by_cases e : j < A'.length
    · rw [List.getElem?_append_left e] at hj; exact .inl ⟨e, hj⟩
    · rw [List.getElem?_append_right (by omega)] at hj; exact .inr ⟨by omega, hj⟩
  have apart : ∀ (j k : Nat) (t u : Res), A'[j]? = some t → B[k]? = some u → Dis t u := by
    intro j k t u hj hk b hb hb'
    rcases hn.src j t hj b hb with ⟨i, r, hi, hr⟩ | h2
    · have hi' := (List.getElem?_eq_some_iff.1 hi).1
      exact h.dis i (A.length + k) r u (ga i r hi) (gb k u hk) (by omega) b hr hb'
    · have := h.bd _ u (gb k u hk) b hb'; omega
  have keep : ∀ (k : Nat) (u : Res), B[k]? = some u → ∀ b, u.ids b → w'.heap[b]? = w.heap[b]? := by
    intro k u hk b hb
    refine hn.fr.kept b (h.bd _ u (gb k u hk) b hb) ?_
    rintro ⟨i, r, hi, hr⟩
    have hi' := (List.getElem?_eq_some_iff.1 hi).1
    exact h.dis i (A.length + k) r u (ga i r hi) (gb k u hk) (by omega) b hr hb
  refine ⟨?_, ?_, ?_, ?_, h.fr.trans hn.fr (fun b ⟨i, r, hi, hr⟩ => h.src i r (ga i r hi) b hr)⟩
  · intro j t hj
    rcases get j t hj with ⟨_, h'⟩ | ⟨_, h'⟩
    · exact hn.ok j t h'
    · exact t.st w w' (keep _ t h') (h.ok _ t (gb _ t h'))
  · intro j t hj b hb
    rcases get j t hj with ⟨_, h'⟩ | ⟨_, h'⟩
    · exact hn.bd j t h' b hb
    · exact Nat.lt_of_lt_of_le (h.bd _ t (gb _ t h') b hb) hn.fr.size
  · intro j t hj b hb
    rcases get j t hj with ⟨_, h'⟩ | ⟨_, h'⟩
    · rcases hn.src j t h' b hb with ⟨i, r, hi, hr⟩ | h2
      · exact h.src i r (ga i r hi) b hr
      · exact .inr (Nat.le_trans h.fr.size h2)
    · exact h.src _ t (gb _ t h') b hb
  · intro j k t u hj hk hne
    rcases get j t hj with ⟨_, g1⟩ | ⟨ej, g1⟩ <;> rcases get k u hk with ⟨_, g2⟩ | ⟨ek, g2⟩
    · exact hn.dis j k t u g1 g2 hne
    · exact apart j _ t u g1 g2
    · exact fun b hb hb' => apart k _ u t g2 g1 b hb' hb
    · exact h.dis _ _ t u (gb _ t g1) (gb _ u g2) (by omega)
theorem CK.frame {A B : List Res} {f : FuncId} {args : List Value} {post : Value → World → List Res → Prop} (hS : St w0 S0 w (A ++ B))
    (base : ∀ {w0 : World} {S0 : Nat → Prop}, St w0 S0 w A → CK P f args w fun v w' => ∃ A', St w0 S0 w' A' ∧ post v w' A') :
    CK P f args w fun v w' => ∃ A', St w0 S0 w' (A' ++ B) ∧ post v w' A' :=
  (base hS.frame.1).mono fun v w' ⟨A', h1, h2⟩ => ⟨A', hS.frame.2 w' A' h1, h2⟩
/-- a contract among others -/
theorem CK.fr {A B A' : List Res} {f : FuncId} {args : List Value} {v : Value} (hS : St w0 S0 w (A ++ B)) (base : ∀ {w0 : World} {S0 : Nat → Prop} {K : Value → World → Prop}, St w0 S0 w A → (∀ w', St w0 S0 w' A' → K v w') → CK P f args w K)
    (h : ∀ w', St w0 S0 w' (A' ++ B) → K v w') : CK P f args w K := base hS.frame.1 fun w' h' => h w' (hS.frame.2 w' A' h')
end
end Go.En
