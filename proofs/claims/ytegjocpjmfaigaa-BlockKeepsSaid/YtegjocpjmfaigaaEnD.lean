/- The resolved operations that leave the world alone, continued: comparisons with nil, pieces, lengths, parts put together, loads. -/
import Derived.Test.YtegjocpjmfaigaaEnC
set_option linter.unusedSimpArgs false
set_option linter.unusedVariables false
namespace Go.En
variable {P : Program} {T : TT} {w : World}

theorem qt_pn {op : BinOp} {x : Operand} {a : Option Addr} (hx : ev T x = some (.pointer a)) : Qt P (.pn op x) T w (.bool (nilv op a)) := by
  rintro ⟨dst, o, ty, pos, after, guard⟩ ρ hc ha
  cases o <;> simp only [chkO, Bool.false_eq_true, Bool.and_eq_true, decide_eq_true_eq] at hc
  rename_i op' t x' y' t'
  obtain ⟨⟨⟨⟨rfl, hop⟩, e1⟩, e2⟩, hu⟩ := hc
  have e1 := oeq_eq e1; have e2 := oeq_eq e2; subst e1 e2
  split at hu
  · rename_i e hu'
    cases op <;> simp only [Bool.false_eq_true] at hop
    · have hg : (eqGuard .eql t x (.const (.pointer none)) (.pointer a) (.pointer none)).run P w = .ok () w := rfl
      have hb : (binOp .eql t (.pointer a) (.pointer none)).run P w = .ok (.bool a.isNone) w := by
        show (do pure (.bool (← Op.equal t (.pointer a) (.pointer none))) : Sem Value).run P w = _
        rw [Sem.run_bind, show Op.equal t (.pointer a) (.pointer none) = Op.equalIn (9999 + 1) t (.pointer a) (.pointer none) from rfl, eq_ptr _ hu']; rfl
      simp only [execOp, ha.2 _ (by simp [MK.ops]) _ hx, ha.1, Sem.run_bind, hg, hb, Result.andThen_ok]
      rfl
    · have hg : (eqGuard .neq t x (.const (.pointer none)) (.pointer a) (.pointer none)).run P w = .ok () w := rfl
      have hb : (binOp .neq t (.pointer a) (.pointer none)).run P w = .ok (.bool (!a.isNone)) w := by
        show (do pure (.bool (!(← Op.equal t (.pointer a) (.pointer none)))) : Sem Value).run P w = _
        rw [Sem.run_bind, show Op.equal t (.pointer a) (.pointer none) = Op.equalIn (9999 + 1) t (.pointer a) (.pointer none) from rfl, eq_ptr _ hu']; rfl
      simp only [execOp, ha.2 _ (by simp [MK.ops]) _ hx, ha.1, Sem.run_bind, hg, hb, Result.andThen_ok]
      rfl
  · simp at hu
theorem qt_sn {op : BinOp} {x : Operand} {a : Option Addr} {m n : Nat} (hx : ev T x = some (.slice a m n)) : Qt P (.sn op x) T w (.bool (nilv op a)) := by
  rintro ⟨dst, o, ty, pos, after, guard⟩ ρ hc ha
  cases o <;> simp only [chkO, Bool.false_eq_true, Bool.and_eq_true, decide_eq_true_eq] at hc
  rename_i op' t x' y' t'
  obtain ⟨⟨⟨⟨rfl, hop⟩, e1⟩, e2⟩, hu⟩ := hc
  have e1 := oeq_eq e1; have e2 := oeq_eq e2; subst e1 e2
  split at hu
  · rename_i e hu'
    cases op <;> simp only [Bool.false_eq_true] at hop
    · have hg : (eqGuard .eql t x (.const (.slice none 0 0)) (.slice a m n) (.slice none 0 0)).run P w = .ok () w := rfl
      have hb : (binOp .eql t (.slice a m n) (.slice none 0 0)).run P w = .ok (.bool a.isNone) w := by
        show (do pure (.bool (← Op.equal t (.slice a m n) (.slice none 0 0))) : Sem Value).run P w = _
        rw [Sem.run_bind, show Op.equal t (.slice a m n) (.slice none 0 0) = Op.equalIn (9999 + 1) t (.slice a m n) (.slice none 0 0) from rfl, eq_slc _ hu']; rfl
      simp only [execOp, ha.2 _ (by simp [MK.ops]) _ hx, ha.1, Sem.run_bind, hg, hb, Result.andThen_ok]
      rfl
    · have hg : (eqGuard .neq t x (.const (.slice none 0 0)) (.slice a m n) (.slice none 0 0)).run P w = .ok () w := rfl
      have hb : (binOp .neq t (.slice a m n) (.slice none 0 0)).run P w = .ok (.bool (!a.isNone)) w := by
        show (do pure (.bool (!(← Op.equal t (.slice a m n) (.slice none 0 0)))) : Sem Value).run P w = _
        rw [Sem.run_bind, show Op.equal t (.slice a m n) (.slice none 0 0) = Op.equalIn (9999 + 1) t (.slice a m n) (.slice none 0 0) from rfl, eq_slc _ hu']; rfl
      simp only [execOp, ha.2 _ (by simp [MK.ops]) _ hx, ha.1, Sem.run_bind, hg, hb, Result.andThen_ok]
      rfl
  · simp at hu
theorem evs_map {ρ : Operand → Value} : ∀ {l : List Operand} {vs : List Value}, (∀ x ∈ l, ∀ v, ev T x = some v → ρ x = v) → evs T l = some vs → l.map ρ = vs
  | [], vs, _, h => by simp [evs] at h; simp [h]
  | x :: l, vs, ha, h => by
    unfold evs at h
    split at h
    · rename_i v r hv hr
      simp at h; subst h
      simp [ha x (by simp) v hv, evs_map (fun y hy => ha y (by simp [hy])) hr]
    · simp at h
theorem map_arr (ρ : Operand → Value) (a : Array Operand) : a.map ρ = ⟨a.toList.map ρ⟩ := by
  apply Array.ext'
  simp
theorem qt_mf {f : Nat} {a b : List Operand} {l m : List Value} (hx : evs T a = some l) (hy : evs T b = some m) : Qt P (.mf f a b) T w (.func (.func f) ⟨l⟩ ⟨m⟩) := by
  rintro ⟨dst, o, ty, pos, after, guard⟩ ρ hc ha
  cases o <;> simp only [chkO, Bool.false_eq_true] at hc
  rename_i fn a' b'
  cases fn <;> simp only [Bool.false_eq_true, Bool.and_eq_true, decide_eq_true_eq] at hc
  obtain ⟨⟨rfl, e1⟩, e2⟩ := hc
  have e1 := oeqs_eq e1; have e2 := oeqs_eq e2
  simp only [execOp, Instr.makeFunc, map_arr, ← e1, ← e2, evs_map (fun x hx => ha.2 x (by simp [MK.ops, hx])) hx, evs_map (fun x hx => ha.2 x (by simp [MK.ops, hx])) hy]
  rfl
theorem qt_mi {t : TypeId} {x : Operand} {v : Value} (hx : ev T x = some v) : Qt P (.mi t x) T w (.iface t v) := by
  rintro ⟨dst, o, ty, pos, after, guard⟩ ρ hc ha
  cases o <;> simp only [chkO, Bool.false_eq_true, Bool.and_eq_true, decide_eq_true_eq] at hc
  obtain ⟨⟨rfl, e1⟩, hu⟩ := hc
  have e1 := oeq_eq e1; subst e1
  split at hu
  · simp at hu
  · rename_i d hd hu'
    simp only [execOp, Instr.makeInterface, ha.2 _ (by simp [MK.ops]) _ hx, Sem.run_bind, run_underlying hu' w, Result.andThen_ok]
    cases d <;> first | rfl | exact (hd _ rfl).elim
  · simp at hu
theorem map_opt {ρ : Operand → Value} {d : Nat} {x : Option Operand} {n : Int} (h : bnd T d x = some n) (ha : ∀ y ∈ x.toList, ∀ v, ev T y = some v → ρ y = v) :
    (x = none ∧ n = d) ∨ ∃ k, x.map ρ = some (.int k n) := by
  cases x with
  | none => simp [bnd] at h; exact .inl ⟨rfl, h.symm⟩
  | some y =>
    unfold bnd at h
    simp only at h
    split at h
    · rename_i k m hy
      simp at h; subst h
      exact .inr ⟨k, by simp [ha y (by simp) _ hy]⟩
    · simp at h
theorem run_bound {k : IntKind} {n : Int} {y : Nat} {c : BoundsCode} (h : 0 ≤ n ∧ n ≤ (y : Int)) (w : World) : (Instr.sliceBound (.int k n) y c).run P w = .ok n.toNat w := by
  simp [Instr.sliceBound, asIntOf, h]
theorem run_bounds2 {s : Bool} {len cap : Nat} {lo hi : Option Value} {l h : Int} (hl : (lo = none ∧ l = 0) ∨ ∃ k, lo = some (.int k l)) (hh : (hi = none ∧ h = len) ∨ ∃ k, hi = some (.int k h))
    (b : 0 ≤ l ∧ l ≤ h ∧ h ≤ (cap : Int)) (w : World) : (Instr.sliceBounds s len cap lo hi none).run P w = .ok (l.toNat, h.toNat, cap) w := by
  obtain ⟨b1, b2, b3⟩ := b
  have eh : ((h.toNat : Nat) : Int) = h := Int.toNat_of_nonneg (by omega)
  rcases hl with ⟨rfl, rfl⟩ | ⟨k, rfl⟩ <;> rcases hh with ⟨rfl, rfl⟩ | ⟨k', rfl⟩
  · simp [Instr.sliceBounds]
  · simp only [Instr.sliceBounds, Sem.run_bind, Sem.run_pure, Result.andThen_ok, run_bound (P := P) (k := k') (n := h) (y := cap) ⟨by omega, by omega⟩ w]
    simp
  · simp only [Instr.sliceBounds, Sem.run_bind, Sem.run_pure, Result.andThen_ok, run_bound (P := P) (k := k) (n := l) (y := len) ⟨by omega, by omega⟩ w]
    simp
  · simp only [Instr.sliceBounds, Sem.run_bind, Sem.run_pure, Result.andThen_ok, run_bound (P := P) (k := k') (n := h) (y := cap) ⟨by omega, by omega⟩ w, run_bound (P := P) (k := k) (n := l) (y := h.toNat) ⟨by omega, by omega⟩ w]
theorem run_bounds3 {len cap : Nat} {lo hi : Option Value} {k2 k3 : IntKind} {l h m : Int} (hl : (lo = none ∧ l = 0) ∨ ∃ k, lo = some (.int k l)) (hh : hi = some (.int k2 h))
    (b : 0 ≤ l ∧ l ≤ h ∧ h ≤ m ∧ m ≤ (cap : Int)) (w : World) : (Instr.sliceBounds true len cap lo hi (some (.int k3 m))).run P w = .ok (l.toNat, h.toNat, m.toNat) w := by
  obtain ⟨b1, b2, b3, b4⟩ := b
  have eh : ((h.toNat : Nat) : Int) = h := Int.toNat_of_nonneg (by omega)
  have em : ((m.toNat : Nat) : Int) = m := Int.toNat_of_nonneg (by omega)
  subst hh
  rcases hl with ⟨rfl, rfl⟩ | ⟨k, rfl⟩
  · simp only [Instr.sliceBounds, Sem.run_bind, Sem.run_pure, Result.andThen_ok, run_bound (P := P) (k := k3) (n := m) (y := cap) ⟨by omega, by omega⟩ w, run_bound (P := P) (k := k2) (n := h) (y := m.toNat) ⟨by omega, by omega⟩ w]
    simp
  · simp only [Instr.sliceBounds, Sem.run_bind, Sem.run_pure, Result.andThen_ok, run_bound (P := P) (k := k3) (n := m) (y := cap) ⟨by omega, by omega⟩ w, run_bound (P := P) (k := k2) (n := h) (y := m.toNat) ⟨by omega, by omega⟩ w, run_bound (P := P) (k := k) (n := l) (y := h.toNat) ⟨by omega, by omega⟩ w]

theorem qt_ss {x : Operand} {lo hi : Option Operand} {s : ByteArray} {l h : Int} (hx : ev T x = some (.string s)) (hl : bnd T 0 lo = some l) (hh : bnd T s.size hi = some h) (b : 0 ≤ l ∧ l ≤ h ∧ h ≤ (s.size : Int)) :
    Qt P (.ss x lo hi) T w (.string (s.extract l.toNat h.toNat)) := by
  rintro ⟨dst, o, ty, pos, after, guard⟩ ρ hc ha
  cases o <;> simp only [chkO, Bool.false_eq_true] at hc
  rename_i t x' lo' hi' mx'
  cases mx' <;> simp only [Bool.false_eq_true, Bool.and_eq_true] at hc
  obtain ⟨⟨⟨e1, e2⟩, e3⟩, hu⟩ := hc
  have e1 := oeq_eq e1; have e2 := oopt_eq e2; have e3 := oopt_eq e3; subst e1 e2 e3
  split at hu
  · rename_i hu'
    have kl := map_opt hl (fun y hy => ha.2 y (by simp only [MK.ops, List.mem_append]; exact .inl (.inr hy)))
    have kh := map_opt hh (fun y hy => ha.2 y (by simp only [MK.ops, List.mem_append]; exact .inr hy))
    have kl' : (lo.map ρ = none ∧ l = 0) ∨ ∃ k, lo.map ρ = some (.int k l) := kl.imp (fun h => ⟨by rw [h.1]; rfl, by simpa using h.2⟩) id
    have kh' : (hi.map ρ = none ∧ h = s.size) ∨ ∃ k, hi.map ρ = some (.int k h) := kh.imp (fun h => ⟨by rw [h.1]; rfl, h.2⟩) id
    simp only [execOp, ha.2 _ (by simp [MK.ops]) _ hx, Instr.sliceAt, Instr.slice, Sem.run_bind, run_underlying hu' w, Result.andThen_ok, Option.map_none, Option.isSome_none, Bool.false_eq_true, if_false, run_bounds2 kl' kh' b w]
    rfl
  · simp at hu
theorem qt_sl {x : Operand} {lo hi mx : Option Operand} {a : Option Addr} {len cap sz : Nat} {l h m : Int} {a' : Option Addr} (hx : ev T x = some (.slice a len cap)) (hl : bnd T 0 lo = some l) (hh : bnd T len hi = some h) (hm : bnd T cap mx = some m)
    (b : 0 ≤ l ∧ l ≤ h ∧ h ≤ m ∧ m ≤ (cap : Int)) (ha' : a' = match a with | none => none | some ⟨b, o, sp⟩ => some (if m.toNat = l.toNat then ⟨b, o, sp⟩ else (⟨b, o, sp⟩ : Addr).add (l.toNat * sz))) :
    Qt P (.sl x lo hi mx sz) T w (.slice a' (h.toNat - l.toNat) (m.toNat - l.toNat)) := by
  rintro ⟨dst, o, ty, pos, after, guard⟩ ρ hc ha
  cases o <;> simp only [chkO, Bool.false_eq_true, Bool.and_eq_true] at hc
  rename_i t x' lo' hi' mx'
  obtain ⟨⟨⟨⟨⟨e1, e2⟩, e3⟩, e4⟩, e5⟩, hu⟩ := hc
  have e1 := oeq_eq e1; have e2 := oopt_eq e2; have e3 := oopt_eq e3; have e4 := oopt_eq e4; subst e1 e2 e3 e4
  split at hu
  · rename_i e hu'
    have kl := map_opt hl (fun y hy => ha.2 y (by simp only [MK.ops, List.mem_append]; exact .inl (.inl (.inr hy))))
    have kh := map_opt hh (fun y hy => ha.2 y (by simp only [MK.ops, List.mem_append]; exact .inl (.inr hy)))
    have km := map_opt hm (fun y hy => ha.2 y (by simp only [MK.ops, List.mem_append]; exact .inr hy))
    have kl' : (lo.map ρ = none ∧ l = 0) ∨ ∃ k, lo.map ρ = some (.int k l) := kl.imp (fun h => ⟨by rw [h.1]; rfl, by simpa using h.2⟩) id
    have kh' : (hi.map ρ = none ∧ h = len) ∨ ∃ k, hi.map ρ = some (.int k h) := kh.imp (fun h => ⟨by rw [h.1]; rfl, h.2⟩) id
    have hb : (Instr.sliceBounds true len cap (lo.map ρ) (hi.map ρ) (mx.map ρ)).run P w = .ok (l.toNat, h.toNat, m.toNat) w := by
      rcases km with ⟨rfl, rfl⟩ | ⟨k3, e⟩
      · rw [Option.map_none, run_bounds2 kl' kh' ⟨b.1, b.2.1, b.2.2.1⟩ w]; simp
      · rw [e]
        rcases kh' with ⟨hn, _⟩ | ⟨k2, hh2⟩
        · have : mx.isSome = true := by cases mx <;> simp at e ⊢
          have h2 : hi.isSome = false := by cases hi <;> simp at hn ⊢
          simp [h2] at e5
          rw [e5] at this; simp at this
        · exact run_bounds3 kl' hh2 b w
    simp only [execOp, ha.2 _ (by simp [MK.ops]) _ hx, Instr.sliceAt, Instr.slice, Sem.run_bind, run_underlying hu' w, Result.andThen_ok, hb, run_size hu w, Sem.run_pure]
    subst ha'
    cases a with
    | none => simp
    | some ad => simp only [Option.map_some]; congr 3; split <;> rfl
  · simp at hu
theorem qt_sp {x : Operand} {lo hi : Option Operand} {b o n sz : Nat} {l h : Int} (hx : ev T x = some (.pointer (some ⟨b, o, none⟩))) (hl : bnd T 0 lo = some l) (hh : bnd T n hi = some h) (bb : 0 ≤ l ∧ l ≤ h ∧ h ≤ (n : Int)) :
    Qt P (.sp x lo hi n sz) T w (.slice (some ⟨b, slo lo o n l.toNat sz, none⟩) (h.toNat - l.toNat) (n - l.toNat)) := by
  rintro ⟨dst, op, ty, pos, after, guard⟩ ρ hc ha
  cases op <;> simp only [chkO, Bool.false_eq_true] at hc
  rename_i t x' lo' hi' mx'
  cases mx' <;> simp only [Bool.false_eq_true, Bool.and_eq_true] at hc
  obtain ⟨⟨⟨e1, e2⟩, e3⟩, hu⟩ := hc
  have e1 := oeq_eq e1; have e2 := oopt_eq e2; have e3 := oopt_eq e3; subst e1 e2 e3
  split at hu
  · rename_i k e hu'
    simp only [Bool.and_eq_true, decide_eq_true_eq] at hu
    obtain ⟨rfl, hu⟩ := hu
    have kl := map_opt hl (fun y hy => ha.2 y (by simp only [MK.ops, List.mem_append]; exact .inl (.inr hy)))
    have kh := map_opt hh (fun y hy => ha.2 y (by simp only [MK.ops, List.mem_append]; exact .inr hy))
    have kl' : (lo.map ρ = none ∧ l = 0) ∨ ∃ k, lo.map ρ = some (.int k l) := kl.imp (fun h => ⟨by rw [h.1]; rfl, by simpa using h.2⟩) id
    have kh' : (hi.map ρ = none ∧ h = k) ∨ ∃ k, hi.map ρ = some (.int k h) := kh.imp (fun h => ⟨by rw [h.1]; rfl, h.2⟩) id
    simp only [execOp, ha.2 _ (by simp [MK.ops]) _ hx, Instr.sliceAt, Instr.sureAddr, Sem.run_bind, run_underlying hu' w, Result.andThen_ok, Option.map_none, run_bounds2 kl' kh' bb w, run_size hu w, Sem.run_pure]
    have : (if k = l.toNat then (⟨b, o, none⟩ : Addr) else (⟨b, o, none⟩ : Addr).add (l.toNat * sz)) = ⟨b, slo lo o k l.toNat sz, none⟩ := by
      unfold slo
      rcases kl with ⟨rfl, e⟩ | ⟨kk, e⟩
      · have : l.toNat = 0 := by rw [e]; rfl
        simp [this, Addr.add]
      · cases lo with
        | none => simp at e
        | some y => simp only; split <;> simp [add_plain]
    rw [this]
  · simp at hu
theorem isB_eq {c : Call} {b : Builtin} (h : isB c b = true) : c.callee = .builtin b := by
  unfold isB at h
  split at h
  · rename_i b' e; simp only [decide_eq_true_eq] at h; rw [e, h]
  · simp at h
theorem run_builtin {c : Call} {b : Builtin} (h : isB c b = true) (ρ : Operand → Value) (o : Oper) (ho : o.op = .call c) :
    ∃ cs, ∀ w, (execOp ρ o).run P w = (builtin b c.argTypes o.type cs ⟨c.args.toList.map ρ⟩).run P w := by
  refine ⟨c.args.map fun | .const _ => true | _ => false, fun w => ?_⟩
  simp only [execOp, ho, resolve, isB_eq h, Sem.run_bind, Sem.run_pure, Result.andThen_ok, invoke, map_arr]
  rfl
theorem qt_ln1 {x : Operand} {a : Option Addr} {n c : Nat} (hx : ev T x = some (.slice a n c)) : Qt P (.ln false x) T w (.int .i64 n) := by
  rintro ⟨dst, op, ty, pos, after, guard⟩ ρ hc ha
  cases op <;> simp only [chkO, Bool.false_eq_true, Bool.and_eq_true] at hc
  rename_i c
  obtain ⟨⟨h1, h2⟩, hc⟩ := hc
  obtain ⟨cs, hr⟩ := run_builtin (P := P) h1 ρ ⟨dst, .call c, ty, pos, after, guard⟩ rfl
  have h2 := oeqs_eq h2
  rw [hr, ← h2]
  split at hc
  · rename_i t ht
    split at hc
    · simp at hc
    · rename_i hu'
      simp [builtin, Builtin.len_, ht, Sem.run_bind, run_underlying hu' w, ha.2 _ (by simp [MK.ops]) _ hx, goInt]
    · simp at hc
  · simp at hc
theorem qt_ln2 {x : Operand} {s : ByteArray} (hx : ev T x = some (.string s)) : Qt P (.ln true x) T w (.int .i64 s.size) := by
  rintro ⟨dst, op, ty, pos, after, guard⟩ ρ hc ha
  cases op <;> simp only [chkO, Bool.false_eq_true, Bool.and_eq_true] at hc
  rename_i c
  obtain ⟨⟨h1, h2⟩, hc⟩ := hc
  obtain ⟨cs, hr⟩ := run_builtin (P := P) h1 ρ ⟨dst, .call c, ty, pos, after, guard⟩ rfl
  have h2 := oeqs_eq h2
  rw [hr, ← h2]
  split at hc
  · rename_i t ht
    split at hc
    · rename_i hu'
      simp [builtin, Builtin.len_, ht, Sem.run_bind, run_underlying hu' w, ha.2 _ (by simp [MK.ops]) _ hx, goInt]
    · simp at hc
    · simp at hc
  · simp at hc
theorem qt_la {x : Operand} {n : Nat} {v : Value} (_hx : ev T x = some v) : Qt P (.la n x) T w (.int .i64 n) := by
  rintro ⟨dst, op, ty, pos, after, guard⟩ ρ hc ha
  cases op <;> simp only [chkO, Bool.false_eq_true, Bool.and_eq_true] at hc
  rename_i c
  obtain ⟨⟨h1, h2⟩, hc⟩ := hc
  obtain ⟨cs, hr⟩ := run_builtin (P := P) h1 ρ ⟨dst, .call c, ty, pos, after, guard⟩ rfl
  have h2 := oeqs_eq h2
  rw [hr, ← h2]
  split at hc
  · rename_i t ht
    split at hc
    · rename_i k e hu'
      simp only [decide_eq_true_eq] at hc; subst hc
      simp [builtin, Builtin.len_, ht, Sem.run_bind, run_underlying hu' w, goInt]
    · simp at hc
  · simp at hc
theorem qt_mx {x y : Operand} {k j : IntKind} {a c : Int} (hx : ev T x = some (.int k a)) (hy : ev T y = some (.int j c)) : Qt P (.mm true x y) T w (.int k (max a c)) := by
  rintro ⟨dst, op, ty, pos, after, guard⟩ ρ hc ha
  cases op <;> simp only [chkO, Bool.false_eq_true, Bool.and_eq_true, if_true] at hc
  rename_i cc
  obtain ⟨h1, h2⟩ := hc
  obtain ⟨cs, hr⟩ := run_builtin (P := P) h1 ρ ⟨dst, .call cc, ty, pos, after, guard⟩ rfl
  have h2 := oeqs_eq h2
  rw [hr, ← h2]
  have e : max a c = if c > a then c else a := by rw [Int.max_def]; split <;> split <;> omega
  simp [builtin, Builtin.max_, Builtin.max2, ha.2 _ (by simp [MK.ops]) _ hx, ha.2 _ (by simp [MK.ops]) _ hy, e]
theorem qt_mn {x y : Operand} {k j : IntKind} {a c : Int} (hx : ev T x = some (.int k a)) (hy : ev T y = some (.int j c)) : Qt P (.mm false x y) T w (.int k (min a c)) := by
  rintro ⟨dst, op, ty, pos, after, guard⟩ ρ hc ha
  cases op <;> simp only [chkO, Bool.false_eq_true, Bool.and_eq_true, if_false] at hc
  rename_i cc
  obtain ⟨h1, h2⟩ := hc
  obtain ⟨cs, hr⟩ := run_builtin (P := P) h1 ρ ⟨dst, .call cc, ty, pos, after, guard⟩ rfl
  have h2 := oeqs_eq h2
  rw [hr, ← h2]
  have e : min a c = if c < a then c else a := by rw [Int.min_def]; split <;> split <;> omega
  simp [builtin, Builtin.min_, Builtin.min2, ha.2 _ (by simp [MK.ops]) _ hx, ha.2 _ (by simp [MK.ops]) _ hy, e]
theorem some_u {t : TypeId} (h : (P.underlying t).isSome = true) : ∃ d, P.underlying t = some d := Option.isSome_iff_exists.1 h
theorem qt_ci {x : Operand} {k j : IntKind} {a : Int} (hx : ev T x = some (.int j a)) : Qt P (.ci k x) T w (.int k (k.wrap a)) := by
  rintro ⟨dst, op, ty, pos, after, guard⟩ ρ hc ha
  cases op <;> simp only [chkO, Bool.false_eq_true, Bool.and_eq_true] at hc
  obtain ⟨⟨e1, h2⟩, h3⟩ := hc
  have e1 := oeq_eq e1; subst e1
  obtain ⟨d, hd⟩ := some_u h3
  simp only [execOp, ha.2 _ (by simp [MK.ops]) _ hx, convert, Sem.run_bind, run_underlying hd w, run_underlying (isI_u h2) w, Result.andThen_ok]
  cases d <;> rfl
theorem qt_cs {x : Operand} {s : ByteArray} (hx : ev T x = some (.string s)) : Qt P (.cs x) T w (.string s) := by
  rintro ⟨dst, op, ty, pos, after, guard⟩ ρ hc ha
  cases op <;> simp only [chkO, Bool.false_eq_true, Bool.and_eq_true] at hc
  obtain ⟨⟨e1, h2⟩, h3⟩ := hc
  have e1 := oeq_eq e1; subst e1
  obtain ⟨d, hd⟩ := some_u h2
  split at h3
  · rename_i hu
    simp only [execOp, ha.2 _ (by simp [MK.ops]) _ hx, convert, Sem.run_bind, run_underlying hd w, run_underlying hu w, Result.andThen_ok]
    cases d <;> rfl
  · simp at h3
theorem zeroIs_run {t : TypeId} {z : ZZ} (h : zeroIs P t z = true) (w : World) : ∃ v, (zeroValue t).run P w = .ok v w ∧ v.cells.toList = zx z := by
  unfold zeroIs at h
  split at h
  · rename_i i hi
    split at h
    · rename_i v hv
      exact ⟨v, by simp [zeroValue, typeInfo, hi, hv], veqs_eq h⟩
    · simp at h
  · simp at h
theorem run_load1 {t : TypeId} {b off : Nat} {l : List Value} {E : TypeId} {v : Value} (h : rdAs P t none = true) (hb : Blr w b l E) (hv : l[off]? = some v) : (loadVar t ⟨b, off, none⟩).run P w = .ok v w := by
  simp only [loadVar, Sem.run_bind, run_isAgg (rdAs_one h) w, Result.andThen_ok, Bool.false_eq_true, if_false]
  simp [load, Sem.run, hb.cell, hv]
theorem run_cells {b off n : Nat} {l : List Value} {E : TypeId} (hb : Blr w b l E) (hn : off + n ≤ l.length) : (loadCells ⟨b, off, none⟩ n).run P w = .ok ⟨(l.drop off).take n⟩ w := by
  have hl : ((l.drop off).take n).length = n := by simp; omega
  have := run_loadCells_list (P := P) w ⟨b, off, none⟩ ((l.drop off).take n) (fun j v hj => by
    rw [add_plain, hb.cell]
    rw [List.getElem?_take] at hj
    split at hj
    · rwa [List.getElem?_drop] at hj
    · simp at hj)
  rw [hl] at this
  exact this
theorem run_loadm {t : TypeId} {b off n : Nat} {l : List Value} {E : TypeId} (h : rdAs P t (some n) = true) (hb : Blr w b l E) (hn : off + n ≤ l.length) : (loadVar t ⟨b, off, none⟩).run P w = .ok (.agg ⟨(l.drop off).take n⟩) w := by
  obtain ⟨h1, h2⟩ := rdAs_many h
  simp only [loadVar, Sem.run_bind, run_isAgg h1 w, Result.andThen_ok, if_true, run_size h2 w, run_cells hb hn]
  rfl
theorem qt_ld1r {x : Operand} {b off : Nat} {l : List Value} {E : TypeId} {v : Value} (hx : ev T x = some (.pointer (some ⟨b, off, none⟩))) (hb : Blr w b l E) (hv : l[off]? = some v) : Qt P (.ld x none) T w v := by
  rintro ⟨dst, op, ty, pos, after, guard⟩ ρ hc ha
  cases op <;> simp only [chkO, Bool.false_eq_true, Bool.and_eq_true] at hc
  obtain ⟨e1, h2⟩ := hc
  have e1 := oeq_eq e1; subst e1
  simp only [execOp, ha.2 _ (by simp [MK.ops]) _ hx, Instr.loadAt, Instr.sureAddr, Sem.run_bind, Sem.run_pure, Result.andThen_ok, run_load1 h2 hb hv]
theorem qt_ldmr {x : Operand} {b off n : Nat} {l : List Value} {E : TypeId} (hx : ev T x = some (.pointer (some ⟨b, off, none⟩))) (hb : Blr w b l E) (hn : off + n ≤ l.length) : Qt P (.ld x (some n)) T w (.agg ⟨(l.drop off).take n⟩) := by
  rintro ⟨dst, op, ty, pos, after, guard⟩ ρ hc ha
  cases op <;> simp only [chkO, Bool.false_eq_true, Bool.and_eq_true] at hc
  obtain ⟨e1, h2⟩ := hc
  have e1 := oeq_eq e1; subst e1
  simp only [execOp, ha.2 _ (by simp [MK.ops]) _ hx, Instr.loadAt, Instr.sureAddr, Sem.run_bind, Sem.run_pure, Result.andThen_ok, run_loadm h2 hb hn]

theorem qt_ld1 {x : Operand} {b off : Nat} {l : List Value} {E : TypeId} {v : Value} (hx : ev T x = some (.pointer (some ⟨b, off, none⟩))) (hb : Blk w b l E) (hv : l[off]? = some v) : Qt P (.ld x none) T w v := qt_ld1r hx hb.r hv
theorem qt_ldm {x : Operand} {b off n : Nat} {l : List Value} {E : TypeId} (hx : ev T x = some (.pointer (some ⟨b, off, none⟩))) (hb : Blk w b l E) (hn : off + n ≤ l.length) : Qt P (.ld x (some n)) T w (.agg ⟨(l.drop off).take n⟩) := qt_ldmr hx hb.r hn
end Go.En
