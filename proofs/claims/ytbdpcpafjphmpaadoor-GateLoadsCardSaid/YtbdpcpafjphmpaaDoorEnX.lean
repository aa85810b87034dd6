/- Parts of slices of whatever elements; an element put in at its place. -/
import Derived.Test.YtbdpcpafjphmpaaDoorEnT
set_option linter.unusedSimpArgs false
set_option linter.unusedVariables false
namespace Go.En
section
variable {w w0 : World} {S0 S : Nat → Prop} {K : Value → World → Prop} {B L : List Res} {E : Env} {ks : List KI} {T : TT} {D : List Deferred} {Q : QX} {P : Program}
theorem Rd.hd {a : Option Addr} {n c E sz m : Nat} {xs : List Value} (h : Rd (.slice a n c) E sz n xs w) (hm : m ≤ n) : Rd (.slice a m c) E sz m (xs.take (m * sz)) w := by
  rcases h with ⟨⟨a', h⟩, rfl, rfl⟩ | ⟨b', off', cap', l, h, hn, hl, hx, hb⟩
  · cases h
    have : m = 0 := by omega
    subst this
    exact .inl ⟨⟨_, rfl⟩, rfl, by simp⟩
  · cases h
    have := Nat.mul_le_mul_right sz hm
    refine .inr ⟨b', off', _, l, rfl, by omega, hl, ?_, hb⟩
    rw [← hx, List.take_take]
    congr 1
    omega
/-- s[lo:] -/
theorem sl_drop {a : Option Addr} {n c El sz lo : Nat} {xs : List Value} (hr : Rd (.slice a n c) El sz n xs w) (hc : n ≤ c) (hlo : lo ≤ n) :
    ∃ a', Rd (.slice a' (n - lo) (c - lo)) El sz (n - lo) (xs.drop (lo * sz)) w ∧ ∀ {P : Program} {T : TT} {x y : Operand} {k : IntKind} (w : World), ev T x = some (.slice a n c) → ev T y = some (.int k (lo : Int)) → Qt P (.sl x (some y) none none sz) T w (.slice a' (n - lo) (c - lo)) := by
  have key : ∀ a' : Option Addr, (∀ {z : Option Addr}, z = a → (match z with | none => none | some ⟨b, o, sp⟩ => some (if c = lo then ⟨b, o, sp⟩ else (⟨b, o, sp⟩ : Addr).add (lo * sz))) = a') → ∀ {P : Program} {T : TT} {x y : Operand} {k : IntKind} (w : World), ev T x = some (.slice a n c) → ev T y = some (.int k (lo : Int)) → Qt P (.sl x (some y) none none sz) T w (.slice a' (n - lo) (c - lo)) := fun a' h P T x y k w hx hy => by
    have q := qt_sl (P := P) (w := w) (sz := sz) (lo := some y) (hi := none) (mx := none) (l := (lo : Int)) (h := (n : Int)) (m := (c : Int)) (a' := a') hx (by simp [bnd, hy]) rfl rfl ⟨by omega, by omega, by omega, by omega⟩ (by
      rw [← h rfl]
      cases a <;> simp)
    simpa only [Int.toNat_natCast] using q
  rcases hr with ⟨⟨a', h⟩, rfl, rfl⟩ | ⟨b, off, cap, l, h, hn, hl, hxs, hb⟩
  · cases h
    obtain rfl : lo = 0 := by omega
    exact ⟨_, .inl ⟨⟨_, rfl⟩, by omega, by simp⟩, key _ fun e => by subst e; rfl⟩
  · cases h
    by_cases e : c = lo
    · have hnl : n = lo := by omega
      subst hnl
      have hxl : xs.length ≤ n * sz := by rw [← hxs]; simp; omega
      refine ⟨some ⟨b, off, none⟩, .inr ⟨b, off, c - n, l, rfl, by omega, ?_, ?_, hb⟩, key _ fun h => by subst h; simp only [if_pos e]⟩
      · have : (c - n) * sz ≤ c * sz := Nat.mul_le_mul_right sz (by omega)
        omega
      · rw [List.drop_eq_nil_of_le hxl]
        simp
    · have h1 : c * sz = lo * sz + (c - lo) * sz := by rw [← Nat.add_mul]; congr 1; omega
      refine ⟨some ⟨b, off + lo * sz, none⟩, .inr ⟨b, off + lo * sz, c - lo, l, rfl, by omega, by omega, ?_, hb⟩, key _ fun h => by subst h; simp only [if_neg e, add_plain]⟩
      rw [← hxs, ← List.drop_drop, List.drop_take, ← Nat.sub_mul]
end
section
variable {α : Type}
/-- an element put in at its place -/
def insAt (o : List α) (j : Nat) (x : α) : List α := o.take j ++ x :: o.drop j
theorem insAt_pw {R : α → α → Prop} {o : List α} {j : Nat} {x : α} (ho : o.Pairwise R) (h1 : ∀ a ∈ o.take j, R a x) (h2 : ∀ b ∈ o.drop j, R x b) : (insAt o j x).Pairwise R := by
  unfold insAt
  rw [List.pairwise_append]
  refine ⟨ho.sublist (List.take_sublist _ _), List.pairwise_cons.2 ⟨h2, ho.sublist (List.drop_sublist _ _)⟩, fun a ha b hb => ?_⟩
  rcases List.mem_cons.1 hb with rfl | hb
  · exact h1 a ha
  · rw [← List.take_append_drop j o, List.pairwise_append] at ho
    exact ho.2.2 a ha b hb
theorem insAt_mem (o : List α) (j : Nat) (x y : α) : y ∈ insAt o j x ↔ y = x ∨ y ∈ o := by
  unfold insAt
  conv => rhs; rw [← List.take_append_drop j o]
  rw [List.mem_append, List.mem_cons, List.mem_append]
  constructor
  · rintro (h | h | h)
    · exact .inr (.inl h)
    · exact .inl h
    · exact .inr (.inr h)
  · rintro (h | h | h)
    · exact .inr (.inl h)
    · exact .inl h
    · exact .inr (.inr h)
theorem insAt_len (o : List α) {j : Nat} (x : α) : (insAt o j x).length = o.length + 1 := by
  unfold insAt
  rw [List.length_append, List.length_cons, List.length_take, List.length_drop]
  omega
theorem insAt_perm (o : List α) (j : Nat) (x : α) : (insAt o j x).Perm (x :: o) := by
  unfold insAt
  refine List.perm_middle.trans ?_
  rw [List.take_append_drop]
/-- what stands behind a place, in order -/
theorem drop_pw {R : α → α → Prop} {o : List α} {j : Nat} (ho : o.Pairwise R) {b : α} (hb : b ∈ o.drop j) : ∃ h : j < o.length, b = o[j] ∨ R o[j] b := by
  have hj : j < o.length := by
    rcases Nat.lt_or_ge j o.length with h | h
    · exact h
    · rw [List.drop_eq_nil_of_le h] at hb; cases hb
  refine ⟨hj, ?_⟩
  rw [List.drop_eq_getElem_cons hj] at hb
  rcases List.mem_cons.1 hb with rfl | hb
  · exact .inl rfl
  · right
    have h1 := ho.sublist (List.drop_sublist j o)
    rw [List.drop_eq_getElem_cons hj] at h1
    exact (List.pairwise_cons.1 h1).1 b hb
end
end Go.En
namespace Go.En
section
variable {w : World} {E : Env} {ks : List KI} {T : TT} {D : List Deferred} {Q : QX}
/-- a quiet operation that yields the same in whatever world -/
theorem d_qp {l : List MOp} {i s : Nat} {g : Option (Nat × Bool)} {k : MK} {v : Value} {t : DT} (hl : l[i]? = some ⟨some s, g, k⟩) (hg : gv T ⟨some s, g, k⟩ = some true) (hn : k.plain = true) (hp : ∀ w, Qt E.P k T w v) (h : G E (.d l t :: ks) ((s, v) :: T) D w Q) : G E (.d l (.q i t) :: ks) T D w Q :=
  ⟨_, v, hl, rfl, .inl ⟨hg, .inl ⟨hn, hp⟩⟩, h⟩
end
end Go.En
