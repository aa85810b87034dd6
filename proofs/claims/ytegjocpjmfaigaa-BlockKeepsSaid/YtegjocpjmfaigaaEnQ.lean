/- Rows of elements: lists of lists of one length. -/
import Derived.Test.YtegjocpjmfaigaaEnP
set_option linter.unusedSimpArgs false
set_option linter.unusedVariables false
namespace Go.En

theorem op_monoQ {F : Fence} {n : Nat} {P : Program} {o : Oper} {a : Act} {w : World} {K K' : Act → World → Prop} {Q Q' : Exit → Act → World → Prop} (h : ∀ a w, K a w → K' a w) (hq : ∀ e a w, Q e a w → Q' e a w)
    (hh : o.wpIn F n P a w K Q) : o.wpIn F n P a w K' Q' := by
  unfold Oper.wpIn at *
  refine ⟨hh.1, ?_⟩
  have hh := hh.2
  have hl : LetsOut Q → LetsOut Q' := fun ⟨a, w, h⟩ => ⟨a, w, hq _ _ _ h⟩
  generalize (o.semAt F.round a.eval).run P w = r at *
  cases r with
  | ok x w' =>
    cases x <;> simp only [Oper.uponIn] at hh ⊢ <;>
      first
        | exact h _ _ hh
        | exact ⟨hh.1, CallsIn.mono hh.2 (fun e w'' he => by cases e <;> first | exact h _ _ he | exact hq _ _ _ he | exact hl he)⟩
        | exact ⟨hh.1, RowsIn.mono hh.2 (fun _ _ he => h _ _ he)⟩
        | exact ⟨hh.1, RoundIn.mono hh.2 (fun e w'' he => by cases e <;> first | exact h _ _ he | exact hq _ _ _ he | exact hl he)⟩
  | halt x w' => cases x <;> simp only [Oper.uponIn] at hh ⊢ <;> first | exact hh | exact hq _ _ _ hh | exact hl hh
theorem ops_monoQ {F : Fence} {n : Nat} {P : Program} {ops : Array Oper} {Q Q' : Exit → Act → World → Prop} (hq : ∀ e a w, Q e a w → Q' e a w) : ∀ (is : List Nat) (a : Act) (w : World), wpOpsIn F n P ops Q is a w → wpOpsIn F n P ops Q' is a w
  | [], a, w, h => hq _ _ _ h
  | i :: is, a, w, h => by
    simp only [wpOpsIn] at h ⊢
    split
    · rename_i ho; simp only [ho] at h; exact ops_monoQ hq is _ _ h
    · rename_i o ho
      simp only [ho] at h
      split
      · rename_i hw; simp only [hw, if_true] at h; exact op_monoQ (fun a w => ops_monoQ hq is a w) hq h
      · rename_i hw; simp only [hw] at h; exact ⟨h.1, ops_monoQ hq is _ _ h.2⟩

section
variable {E : Env} {ks : List KI} {T : TT} {D : List Deferred} {w : World} {Q : QX}
/-- what is to hold between two parts -/
def CJ (T' : TT) (D : List Deferred) (I : World → Prop) : TT → List Deferred → World → Prop := fun T1 D1 w1 => D1 = D ∧ SubL T' T1 ∧ I w1
def insA (k : KI) : Nat → List KI → List KI
  | 0, ks => k :: ks
  | n + 1, a :: ks => a :: insA k n ks
  | _ + 1, [] => [k]
def noD : Nat → List KI → Bool
  | 0, _ => true
  | _ + 1, [] => false
  | _ + 1, .d .. :: _ => false
  | n + 1, _ :: ks => noD n ks
theorem LQ.mono {N : Nat} {Q Q' : QX} (h : ∀ e T D w, Q e T D w → Q' e T D w) : ∀ e a w, LQ N Q e a w → LQ N Q' e a w := fun _ _ _ ⟨T, D, ha, hq⟩ => ⟨T, D, ha, h _ _ _ _ hq⟩
theorem kq_ins {J : TT → List Deferred → World → Prop} : ∀ (n : Nat) (ks : List KI), noD n ks = true → (∀ T D w, J T D w → kq E (ks.drop n) Q .normal T D w) → ∀ e T D w, kq E (insA (.l J) n ks) Q e T D w → kq E ks Q e T D w
  | 0, ks, _, hJ, e, T, D, w, h => by
    cases e with
    | normal => exact hJ T D w h
    | _ => exact h
  | n + 1, [], hn, _, _, _, _, _, _ => by cases hn
  | n + 1, k :: ks, hn, hJ, e, T, D, w, h => by
    have ih := fun hn => kq_ins n ks hn hJ
    cases k with
    | d l t => cases hn
    | c m =>
      have ih := ih hn
      cases e with
      | normal => exact fun hd c a hc hd' ha => wpIn_mono (h hd c a hc hd' ha) (LQ.mono ih)
      | _ => exact ih _ _ _ _ h
    | r l =>
      have ih := ih hn
      cases e with
      | normal => exact fun hd ops k a h1 h2 ha => ops_monoQ (LQ.mono ih) _ _ _ (h hd ops k a h1 h2 ha)
      | _ => exact ih _ _ _ _ h
    | b id =>
      have ih := ih hn
      cases e with
      | exit j =>
        simp only [insA, kq] at h ⊢
        split
        · rename_i e; rw [if_pos e] at h; exact ih _ _ _ _ h
        · rename_i e; rw [if_neg e] at h; exact ih _ _ _ _ h
      | _ => exact ih _ _ _ _ h
    | l J' =>
      have ih := ih hn
      cases e with
      | normal => exact h
      | _ => exact ih _ _ _ _ h
    | s =>
      have ih := ih hn
      cases e with
      | goto l => exact h
      | _ => exact ih _ _ _ _ h
/-- A CUT: behind the first n parts these slots, and that. -/
theorem g_at (n : Nat) (T' : TT) (I : World → Prop) (hn : noD n ks = true) (h1 : G E (insA (.l (CJ T' D I)) n ks) T D w Q) (h2 : ∀ T w, SubL T' T → I w → G E (ks.drop n) T D w Q) : G E ks T D w Q :=
  kq_ins n ks hn (fun T1 D1 w1 ⟨hD, hs, hI⟩ => hD ▸ h2 T1 w1 hs hI) _ _ _ _ h1
/-- A CUT that lets more be deferred. -/
theorem g_atd (n : Nat) (T' : TT) (I : List Deferred → World → Prop) (hn : noD n ks = true) (h1 : G E (insA (.l (fun T1 D1 w1 => SubL T' T1 ∧ I D1 w1)) n ks) T D w Q) (h2 : ∀ T D w, SubL T' T → I D w → G E (ks.drop n) T D w Q) : G E ks T D w Q :=
  kq_ins n ks hn (fun T1 D1 w1 ⟨hs, hI⟩ => h2 T1 D1 w1 hs hI) _ _ _ _ h1
theorem g_jd {T' : TT} {I : List Deferred → World → Prop} (hs : SubL T' T) (hI : I D w) : G E (.l (fun T1 D1 w1 => SubL T' T1 ∧ I D1 w1) :: ks) T D w Q := ⟨hs, hI⟩
theorem g_j {T' : TT} {I : World → Prop} (hs : SubL T' T) (hI : I w) : G E (.l (CJ T' D I) :: ks) T D w Q := ⟨rfl, hs, hI⟩
end

theorem in64 {n : Int} (h : -9223372036854775808 ≤ n ∧ n ≤ 9223372036854775807) : inK .i64 n := by
  constructor
  · show IntKind.i64.min ≤ n
    have : IntKind.i64.min = -9223372036854775808 := by decide
    omega
  · have : IntKind.i64.max = 9223372036854775807 := by decide
    omega
theorem flat_len {ls : List (List Value)} {k : Nat} (h : ∀ l ∈ ls, l.length = k) : ls.flatten.length = ls.length * k := by
  induction ls with
  | nil => simp
  | cons l ls ih => simp only [List.flatten_cons, List.length_append, List.length_cons, h l (by simp), ih (fun m hm => h m (by simp [hm])), Nat.succ_mul]; omega
theorem flat_split {ls : List (List Value)} {i : Nat} (hi : i < ls.length) : ls.flatten = (ls.take i).flatten ++ (ls[i] ++ (ls.drop (i + 1)).flatten) := by
  have : ls = ls.take i ++ (ls[i] :: ls.drop (i + 1)) := by rw [← List.drop_eq_getElem_cons hi, List.take_append_drop]
  rw [← List.flatten_cons, ← List.flatten_append, ← this]
theorem take_len {ls : List (List Value)} {k i : Nat} (h : ∀ l ∈ ls, l.length = k) (hi : i ≤ ls.length) : (ls.take i).flatten.length = i * k := by
  rw [flat_len (k := k) (fun l hl => h l (List.mem_of_mem_take hl)), List.length_take, Nat.min_eq_left hi]
theorem flat_get {ls : List (List Value)} {k i : Nat} (h : ∀ l ∈ ls, l.length = k) (hi : i < ls.length) (rest : List Value) : ((ls.flatten ++ rest).drop (i * k)).take k = ls[i] := by
  rw [flat_split hi, List.append_assoc, ← take_len h (Nat.le_of_lt hi), List.drop_left, List.append_assoc, ← h ls[i] (by simp), List.take_left]
theorem spl_app (a b c vs : List Value) (h : vs.length ≤ b.length) : spl (a ++ (b ++ c)) a.length vs = a ++ ((vs ++ b.drop vs.length) ++ c) := by
  unfold spl
  rw [List.take_left, ← List.drop_drop, List.drop_left, List.drop_append_of_le_length h]
  simp
theorem flat_set {ls : List (List Value)} {k i : Nat} (h : ∀ l ∈ ls, l.length = k) (hi : i < ls.length) (vs rest : List Value) (hv : vs.length ≤ k) : spl (ls.flatten ++ rest) (i * k) vs = (ls.set i (vs ++ ls[i].drop vs.length)).flatten ++ rest := by
  have hs : ls.set i (vs ++ ls[i].drop vs.length) = ls.take i ++ ((vs ++ ls[i].drop vs.length) :: ls.drop (i + 1)) := by
    rw [List.set_eq_take_append_cons_drop, if_pos hi]
  rw [hs, flat_split hi, ← take_len h (Nat.le_of_lt hi), List.append_assoc, List.append_assoc, spl_app _ _ _ _ (by rw [h ls[i] (by simp)]; exact hv)]
  simp

theorem one_ints {l : List Value} (h : ∀ v ∈ l, ∃ k n, v = .int k n) : l.all (·.oneCell') = true := by
  rw [List.all_eq_true]
  intro v hv
  obtain ⟨k, n, rfl⟩ := h v hv
  rfl
theorem bys_one (bs : List UInt8) : (bys bs).all (·.oneCell') = true := one_ints fun v hv => by
  simp only [bys, List.mem_map] at hv
  obtain ⟨b, _, rfl⟩ := hv
  exact ⟨_, _, rfl⟩
theorem bys_take (bs : List UInt8) (n : Nat) : (bys bs).take n = bys (bs.take n) := by simp [bys, List.map_take]
theorem bys_drop (bs : List UInt8) (n : Nat) : (bys bs).drop n = bys (bs.drop n) := by simp [bys, List.map_drop]
theorem bys_rep (n : Nat) : List.replicate n (Value.int .u8 0) = bys (List.replicate n 0) := by simp [bys]

section
variable {w w0 : World} {S0 : Nat → Prop} {L : List Res} {r0 : Res}
theorem evcs_one {T : TT} {x : Operand} {v : Value} {sz : Nat} (hx : ev T x = some v) (hs : v.cells.toList.length = sz) : evcs T sz [x] = some v.cells.toList := by
  simp only [evcs, hx]
  subst hs
  simp
/-- a row that is not empty -/
theorem St.rowb (hS : St w0 S0 w L) {v : Value} {E sz n : Nat} {xs : List Value} (i : Nat) (hi : L[i]? = some (row v E sz n xs)) (hn : 0 < n) : ∃ a m c, v = .slice (some a) m c := by
  rcases hS.ok i _ hi with ⟨_, rfl, _⟩ | ⟨b, cap, rest, rfl, _⟩
  · omega
  · exact ⟨_, _, _, rfl⟩
theorem St.rlen (hS : St w0 S0 w L) {v : Value} {E sz n : Nat} {xs : List Value} (i : Nat) (hi : L[i]? = some (row v E sz n xs)) : ∃ a c, v = .slice a n c := by
  rcases hS.ok i _ hi with ⟨rfl, rfl, _⟩ | ⟨b, cap, rest, rfl, _⟩
  · exact ⟨_, _, rfl⟩
  · exact ⟨_, _, rfl⟩
theorem _root_.Go.En.Rd.clip {a : Option Addr} {n c E sz : Nat} {xs : List Value} (h : Rd (.slice a n c) E sz n xs w) : Rd (.slice a n n) E sz n xs w := by
  rcases h with ⟨⟨a', h⟩, rfl, rfl⟩ | ⟨b, off, cap, l, h, hn, hl, hx, hb⟩
  · cases h; exact .inl ⟨⟨_, rfl⟩, rfl, rfl⟩
  · cases h
    have := Nat.mul_le_mul_right sz hn
    exact .inr ⟨b, off, n, l, rfl, Nat.le_refl _, by omega, hx, hb⟩
theorem _root_.Go.En.Ow.le {a : Option Addr} {n c E sz : Nat} {xs : List Value} (h : Ow (.slice a n c) E sz n xs w) : n ≤ c ∧ (∀ {x o v}, a = some ⟨x, o, some v⟩ → False) := by
  rcases h with ⟨h, rfl, rfl⟩ | ⟨b, cap, rest, h, hn, _⟩
  · cases h; exact ⟨Nat.le_refl _, fun h => nomatch h⟩
  · cases h; exact ⟨hn, fun h => nomatch h⟩
theorem St.nilrow (hS : St w0 S0 w L) (E sz : Nat) : St w0 S0 w (L ++ [row (.slice none 0 0) E sz 0 []]) :=
  hS.new (Fr.refl _ _) (fun _ h => h.elim) (fun _ h => h.elim) (.inl ⟨rfl, rfl, rfl⟩)
theorem St.fact (hS : St w0 S0 w L) {p : Prop} (hp : p) : St w0 S0 w (L ++ [emp.when p]) :=
  hS.new (Fr.refl _ _) (fun _ h => h.elim) (fun _ h => h.elim) ⟨hp, trivial⟩
/-- the block of a range over a function is shut -/
theorem q_dn {P : Program} {rs : List ResultVar} {K : Value → World → Prop} {T : TT} {D : List Deferred} {dB : Nat} (hS : St w0 S0 w L) (i : Nat) (hi : L[i]? = some (obj dB (.deferred (some []))))
    (h : ∀ w', St w0 S0 w' (L.set i (obj dB (.deferred none))) → QF P rs K .normal T D w') : QF P rs K .normal T (⟨.collected dB, #[]⟩ :: D) w := by
  have hb := hS.ok i _ hi
  have hlt : dB < w.heap.size := (Array.getElem?_eq_some_iff.1 hb).1
  refine ⟨dB, rfl, hb, h _ (hS.turn hi (fr_putObj w dB _) (fun _ hb => .inl hb) (fun b hb => ?_) (World.putObj_heap_same hlt))⟩
  have : b = dB := hb
  subst this
  simpa using hlt
theorem q_dr {P : Program} {rs : List ResultVar} {K : Value → World → Prop} {T : TT} {D : List Deferred} {dB : Nat} (hS : St w0 S0 w L) (i : Nat) (hi : L[i]? = some (obj dB (.deferred (some []))))
    (h : ∀ w', St w0 S0 w' (L.set i (obj dB (.deferred none))) → QF P rs K .ret T D w') : QF P rs K .ret T (⟨.collected dB, #[]⟩ :: D) w := q_dn hS i hi h
/-- a block's cells, said otherwise -/
theorem St.ceq (hS : St w0 S0 w L) {b : Nat} {l l' : List Value} {E : TypeId} (i : Nat) (hi : L[i]? = some (cel b l E)) (he : l = l') : St w0 S0 w (L.set i (cel b l' E)) :=
  hS.conv i hi (fun _ h => h) (he ▸ hS.ok i _ hi)
theorem St.front (hS : St w0 S0 w (L ++ [r0])) : St w0 S0 w (r0 :: L) := by
  refine hS.pick (L.length :: List.range L.length) (r0 :: L) ?_ ?_
  · intro k r hk
    cases k with
    | zero => simp at hk; subst hk; exact ⟨L.length, rfl, by simp⟩
    | succ k =>
      have hk : L[k]? = some r := by simpa using hk
      have hlt := (List.getElem?_eq_some_iff.1 hk).1
      exact ⟨k, by simp [hlt], by rw [List.getElem?_append_left hlt]; exact hk⟩
  · refine List.nodup_cons.2 ⟨by simp, List.nodup_range⟩
theorem St.tail (hS : St w0 S0 w (r0 :: L)) : St w0 S0 w L := St.sub (A := []) (List.sublist_cons_self r0 L) hS
end
end Go.En
