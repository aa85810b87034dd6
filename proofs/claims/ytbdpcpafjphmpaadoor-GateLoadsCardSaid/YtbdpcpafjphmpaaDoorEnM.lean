/- Structs and arrays compared cell by cell; a string ranged over; a row cleared. -/
import Derived.Test.YtbdpcpafjphmpaaDoorEnQ
import Derived.Test.YtbdpcpafjphmpaaDoorEnO
import Derived.Laws.StructEq
set_option linter.unusedSimpArgs false
set_option linter.unusedVariables false
namespace Go.En
variable {P : Program} {T : TT} {w w0 : World}

def Fit1 : CKd → Value → Prop
  | .i k, v => ∃ n, v = .int k n
  | .s, v => ∃ s, v = .string s
  | .b, v => ∃ b, v = .bool b
def Fits : List CKd → List Value → Prop
  | [], [] => True
  | k :: ks, v :: vs => Fit1 k v ∧ Fits ks vs
  | _, _ => False
theorem Fits.len : ∀ {ks : List CKd} {vs : List Value}, Fits ks vs → vs.length = ks.length
  | [], [], _ => rfl
  | _ :: _, _ :: _, h => by simp [h.2.len]
  | [], _ :: _, h => h.elim
  | _ :: _, [], h => h.elim
theorem Fits.app : ∀ {a b : List CKd} {vs : List Value}, Fits (a ++ b) vs → Fits a (vs.take a.length) ∧ Fits b (vs.drop a.length)
  | [], b, vs, h => ⟨by simp [Fits], by simpa using h⟩
  | k :: a, b, v :: vs, h => by
    have := Fits.app (a := a) h.2
    exact ⟨⟨h.1, this.1⟩, this.2⟩
  | _ :: _, _, [], h => h.elim
theorem Fits.mk : ∀ {a b : List CKd} {us vs : List Value}, Fits a us → Fits b vs → Fits (a ++ b) (us ++ vs)
  | [], _, [], _, _, h => h
  | _ :: a, _, _ :: us, _, h, h' => ⟨h.1, h.2.mk h'⟩
  | [], _, _ :: _, _, h, _ => h.elim
  | _ :: _, _, [], _, h, _ => h.elim
theorem fits_bys : ∀ (bs : List UInt8), Fits (List.replicate bs.length (.i .u8)) (bys bs)
  | [] => trivial
  | b :: bs => ⟨⟨_, rfl⟩, fits_bys bs⟩
/-- are both lists the same? -/
noncomputable def deqv (a b : List Value) : Bool := @decide (a = b) (Classical.propDecidable _)
theorem deqv_t {a b : List Value} (h : a = b) : deqv a b = true := by unfold deqv; simp [h]
theorem deqv_f {a b : List Value} (h : a ≠ b) : deqv a b = false := by unfold deqv; simp [h]
theorem deqv_iff {a b : List Value} : deqv a b = true ↔ a = b := by unfold deqv; simp
theorem deqv_not {a b : List Value} : deqv a b = false ↔ a ≠ b := by unfold deqv; simp
theorem deqv_eq {a b : List Value} {q : Bool} (h : q = true ↔ a = b) : deqv a b = q := by
  cases q with
  | true => exact deqv_t (h.1 rfl)
  | false => exact deqv_f (fun e => by have := h.2 e; cases this)
def agT (P : Program) (t : TypeId) : Bool := match P.underlying t with | some (.struct _) | some (.array ..) => true | _ => false
def vof (P : Program) (t : TypeId) (cs : List Value) : Value := match agT P t with | true => .agg ⟨cs⟩ | false => cs.headD undef
theorem info_of {t : TypeId} {n : Nat} (h : hasSize P t n = true) : ∃ i, P.info? t = some i ∧ i.size = n := hasSize_info h
theorem part_fit {d : Nat} {t : TypeId} {ks : List CKd} {cs : List Value} {off : Nat} (h : flatK P d t = some ks) (hs : hasSize P t ks.length = true) (hf : Fits ks ((cs.drop off).take ks.length)) (w : World) :
    (part t ⟨cs⟩ off).run P w = .ok (vof P t ((cs.drop off).take ks.length)) w := by
  obtain ⟨i, hi, hz⟩ := hasSize_info hs
  have one : ∀ k, isAg P t = some false → ks = [k] → agT P t = false → (part t ⟨cs⟩ off).run P w = .ok (vof P t ((cs.drop off).take ks.length)) w := by
    intro k ha e hag
    subst e
    have hl := hf.len
    have hg : ∃ v, cs[off]? = some v := by
      simp only [List.length_take, List.length_drop, List.length_singleton] at hl
      exact ⟨cs[off]'(by omega), List.getElem?_eq_getElem _⟩
    obtain ⟨v, hv⟩ := hg
    have hlt := (List.getElem?_eq_some_iff.1 hv).1
    have e1 : (cs.drop off).take [k].length = [v] := by
      rw [List.drop_eq_getElem_cons hlt, (List.getElem?_eq_some_iff.1 hv).2]; rfl
    rw [run_part_one (by unfold rdAs; rw [ha]) hv w, e1]
    unfold vof
    rw [hag]
    rfl
  cases d with
  | zero => simp [flatK] at h
  | succ d =>
    unfold flatK at h
    split at h
    · rename_i k hu; cases h; exact one _ (by unfold isAg; rw [hu]) rfl (by unfold agT; rw [hu])
    · rename_i hu; cases h; exact one _ (by unfold isAg; rw [hu]) rfl (by unfold agT; rw [hu])
    · rename_i hu; cases h; exact one _ (by unfold isAg; rw [hu]) rfl (by unfold agT; rw [hu])
    · rename_i n e hu
      rw [run_part_many (n := ks.length) (by unfold rdAs isAg; rw [hu, hi]; simp [hz]) w]
      unfold vof agT
      rw [hu]
    · rename_i fs hu
      rw [run_part_many (n := ks.length) (by unfold rdAs isAg; rw [hu, hi]; simp [hz]) w]
      unfold vof agT
      rw [hu]
    · cases h
theorem deqv_split {a b : List Value} {n : Nat} (ha : (a.take n).length = (b.take n).length) : deqv a b = (deqv (a.take n) (b.take n) && deqv (a.drop n) (b.drop n)) := by
  refine deqv_eq ?_
  rw [Bool.and_eq_true, deqv_iff, deqv_iff]
  constructor
  · rintro ⟨h1, h2⟩
    rw [← List.take_append_drop n a, h1, h2, List.take_append_drop]
  · intro h; rw [h]; exact ⟨rfl, rfl⟩
theorem eq_flat : ∀ (d : Nat) (t : TypeId) (ks : List CKd), flatK P d t = some ks → ∀ (m : Nat) (xs ys : List Value), Fits ks xs → Fits ks ys → ∀ w : World, (Op.equalIn (d + m) t (vof P t xs) (vof P t ys)).run P w = .ok (deqv xs ys) w
  | 0, _, _, h, _, _, _, _, _, _ => by simp [flatK] at h
  | d + 1, t, ks, h, m, xs, ys, hx, hy, w => by
    unfold flatK at h
    rw [show d + 1 + m = d + m + 1 by omega]
    split at h
    · rename_i k hu
      cases h
      match xs, hx with
      | [x], hx => match ys, hy with
        | [y], hy =>
          obtain ⟨⟨a, rfl⟩, _⟩ := hx
          obtain ⟨⟨b, rfl⟩, _⟩ := hy
          simp only [vof, agT, hu, List.headD_cons, Op.equalIn, Sem.run_bind, run_underlying hu w, Result.andThen_ok, if_true, Sem.run_pure]
          congr 1
          refine (deqv_eq ?_).symm
          simp
    · rename_i hu
      cases h
      match xs, hx with
      | [x], hx => match ys, hy with
        | [y], hy =>
          obtain ⟨⟨a, rfl⟩, _⟩ := hx
          obtain ⟨⟨b, rfl⟩, _⟩ := hy
          simp only [vof, agT, hu, List.headD_cons, Op.equalIn, Sem.run_bind, run_underlying hu w, Result.andThen_ok, if_true, Sem.run_pure]
          congr 1
          refine (deqv_eq ?_).symm
          constructor
          · intro h
            rw [beq_toListBytes] at h
            have h : a.toList = b.toList := by simpa using h
            rw [toList_data, toList_data] at h
            obtain ⟨⟨a⟩⟩ := a
            obtain ⟨⟨b⟩⟩ := b
            simp only at h
            rw [h]
          · intro h
            cases h
            rw [beq_toListBytes]
            simp
    · rename_i hu
      cases h
      match xs, hx with
      | [x], hx => match ys, hy with
        | [y], hy =>
          obtain ⟨⟨a, rfl⟩, _⟩ := hx
          obtain ⟨⟨b, rfl⟩, _⟩ := hy
          simp only [vof, agT, hu, List.headD_cons, Op.equalIn, Sem.run_bind, run_underlying hu w, Result.andThen_ok, if_true, Sem.run_pure]
          congr 1
          refine (deqv_eq ?_).symm
          simp
    · rename_i n e hu
      cases hl : flatK P d e with
      | none => rw [hl] at h; cases h
      | some l =>
        rw [hl] at h
        simp only [Option.bind_some] at h
        split at h
        · rename_i hs
          cases h
          obtain ⟨i, hi, hz⟩ := hasSize_info hs
          have hco : P.cellsOf e = l.length := by simp [Program.cellsOf, hi, hz]
          have hag : agT P t = true := by unfold agT; rw [hu]
          simp only [vof, hag]
          rw [run_equalIn_array w (d + m) ⟨xs⟩ ⟨ys⟩ hu hi, hco, List.range_eq_range']
          have key : ∀ (n k : Nat), Fits (List.replicate n l).flatten (xs.drop (k * l.length)) → Fits (List.replicate n l).flatten (ys.drop (k * l.length)) →
              (Op.eqItems (d + m) e l.length ⟨xs⟩ ⟨ys⟩ (List.range' k n)).run P w = .ok (deqv (xs.drop (k * l.length)) (ys.drop (k * l.length))) w := by
            intro n
            induction n with
            | zero =>
              intro k h1 h2
              have e1 := h1.len
              have e2 := h2.len
              simp at e1 e2
              rw [deqv_t (by rw [List.drop_eq_nil_of_le (by omega), List.drop_eq_nil_of_le (by omega)])]
              simp [Op.eqItems]
            | succ n ih =>
              intro k h1 h2
              rw [List.replicate_succ, List.flatten_cons] at h1 h2
              obtain ⟨a1, b1⟩ := h1.app
              obtain ⟨a2, b2⟩ := h2.app
              rw [List.drop_drop] at b1 b2
              rw [List.range'_succ]
              have p1 := part_fit hl hs a1 w
              have p2 := part_fit hl hs a2 w
              have p3 := eq_flat d e l hl m _ _ a1 a2 w
              simp only [Op.eqItems, Sem.run_bind, p1, p2, p3, Result.andThen_ok]
              have hi2 := ih (k + 1) (by rw [Nat.add_mul, Nat.one_mul]; exact b1) (by rw [Nat.add_mul, Nat.one_mul]; exact b2)
              have hlen : ((xs.drop (k * l.length)).take l.length).length = ((ys.drop (k * l.length)).take l.length).length := by rw [a1.len, a2.len]
              rw [deqv_split hlen, List.drop_drop, List.drop_drop]
              rw [Nat.add_mul, Nat.one_mul] at hi2
              cases hq : deqv ((xs.drop (k * l.length)).take l.length) ((ys.drop (k * l.length)).take l.length)
              · simp
              · simpa using hi2
          have := key n 0 (by simpa using hx) (by simpa using hy)
          simpa using this
        · cases h
    · rename_i fs hu
      split at h
      · cases h
      · rename_i hsh
        have hag : agT P t = true := by unfold agT; rw [hu]
        simp only [vof, hag]
        have hfo : P.fieldsOf t = fs := by simp [Program.fieldsOf, hu]
        rw [run_equalIn_struct w (d + m) t ⟨xs⟩ ⟨ys⟩ (by rw [hfo]; exact hu) (by simpa using hsh), hfo]
        have key : ∀ (fs : List Field) (off : Nat) (ks : List CKd), flF P (flatK P d) off fs = some ks → Fits ks (xs.drop off) → Fits ks (ys.drop off) →
            (Op.eqFields (d + m) ⟨xs⟩ ⟨ys⟩ fs).run P w = .ok (deqv (xs.drop off) (ys.drop off)) w := by
          intro fs
          induction fs with
          | nil =>
            intro off ks hk h1 h2
            simp only [flF, Option.some.injEq] at hk
            subst hk
            have e1 := h1.len
            have e2 := h2.len
            simp at e1 e2
            rw [deqv_t (by rw [List.drop_eq_nil_of_le (by omega), List.drop_eq_nil_of_le (by omega)])]
            simp [Op.eqFields]
          | cons f fs ih =>
            intro off ks hk h1 h2
            unfold flF at hk
            cases hl : flatK P d f.type with
            | none => rw [hl] at hk; cases hk
            | some l =>
              rw [hl] at hk
              simp only [Option.bind_some] at hk
              split at hk
              · rename_i hcond
                simp only [Bool.and_eq_true, decide_eq_true_eq, Bool.not_eq_true', beq_eq_false_iff_ne, ne_eq] at hcond
                obtain ⟨⟨hoff, hnm⟩, hs⟩ := hcond
                cases hr : flF P (flatK P d) (off + l.length) fs with
                | none => rw [hr] at hk; cases hk
                | some rest =>
                  rw [hr] at hk
                  simp only [Option.map_some, Option.some.injEq] at hk
                  subst hk
                  obtain ⟨a1, b1⟩ := h1.app
                  obtain ⟨a2, b2⟩ := h2.app
                  rw [List.drop_drop] at b1 b2
                  have p1 := part_fit hl hs a1 w
                  have p2 := part_fit hl hs a2 w
                  have p3 := eq_flat d f.type l hl m _ _ a1 a2 w
                  simp only [Op.eqFields, ne_eq, hnm, not_false_eq_true, if_true, hoff, Sem.run_bind, p1, p2, p3, Result.andThen_ok]
                  have hi2 := ih _ _ hr b1 b2
                  have hlen : ((xs.drop off).take l.length).length = ((ys.drop off).take l.length).length := by rw [a1.len, a2.len]
                  rw [deqv_split hlen, List.drop_drop, List.drop_drop]
                  cases hq : deqv ((xs.drop off).take l.length) ((ys.drop off).take l.length)
                  · simp
                  · simpa using hi2
              · cases hk
        have := key fs.toList 0 ks h (by simpa using hx) (by simpa using hy)
        simpa using this
    · cases h
theorem ceqs_eq : ∀ {a b : List CKd}, ceqs a b = true → a = b
  | [], [], _ => rfl
  | x :: a, y :: b, h => by
    simp only [ceqs, Bool.and_eq_true] at h
    have e := ceqs_eq h.2
    subst e
    have h1 := h.1
    cases x <;> cases y <;> simp [ceq] at h1 <;> first | rfl | (rw [h1])
  | [], _ :: _, h => by simp [ceqs] at h
  | _ :: _, [], h => by simp [ceqs] at h
def eqdv (op : BinOp) (q : Bool) : Bool := match op with | .eql => q | _ => !q
theorem qt_eqd {op : BinOp} {ks : List CKd} {x y : Operand} {a b : List Value} (hx : ev T x = some (.agg ⟨a⟩)) (hy : ev T y = some (.agg ⟨b⟩)) (ha' : Fits ks a) (hb' : Fits ks b) : Qt P (.eqd op ks x y) T w (.bool (eqdv op (deqv a b))) := by
  rintro ⟨dst, o, ty, pos, after, guard⟩ ρ hc ha
  cases o <;> try (simp [chkO] at hc; done)
  rename_i op' t x' y' t'
  simp only [chkO, Bool.and_eq_true, decide_eq_true_eq, Bool.not_eq_true'] at hc
  obtain ⟨⟨⟨⟨⟨⟨rfl, e1⟩, e2⟩, hop⟩, hgt⟩, hu⟩, hk⟩ := hc
  have e1 := oeq_eq e1; have e2 := oeq_eq e2; subst e1 e2
  split at hk
  · rename_i l hl
    have e := ceqs_eq hk
    subst e
    have hag : agT P t = true := by unfold agT; split at hu <;> simp_all
    have heq : (Op.equal t (.agg ⟨a⟩) (.agg ⟨b⟩)).run P w = .ok (deqv a b) w := by
      have := eq_flat 30 t l hl 9970 a b ha' hb' w
      simp only [vof, hag] at this
      exact this
    have hg : (eqGuard op t x y (.agg ⟨a⟩) (.agg ⟨b⟩)).run P w = .ok () w := by
      simp only [eqGuard, Sem.run_bind, run_program, Result.andThen_ok, hgt, Bool.not_false, Bool.not_true, Bool.false_eq_true, if_true, if_false, Sem.run_pure]
      try (split <;> simp only [Sem.run_bind, run_program, Result.andThen_ok, hgt, Bool.not_false, Bool.not_true, Bool.false_eq_true, if_true, if_false, Sem.run_pure])
    cases op <;> simp at hop
    · have hb : (binOp .eql t (.agg ⟨a⟩) (.agg ⟨b⟩)).run P w = .ok (.bool (deqv a b)) w := by
        show (do pure (.bool (← Op.equal t _ _)) : Sem Value).run P w = _
        rw [Sem.run_bind, heq]; rfl
      simp only [execOp, ha.2 _ (by simp [MK.ops]) _ hx, ha.2 _ (by simp [MK.ops]) _ hy, Sem.run_bind, hg, hb, Result.andThen_ok]
      rfl
    · have hb : (binOp .neq t (.agg ⟨a⟩) (.agg ⟨b⟩)).run P w = .ok (.bool (!deqv a b)) w := by
        show (do pure (.bool (!(← Op.equal t _ _))) : Sem Value).run P w = _
        rw [Sem.run_bind, heq]; rfl
      simp only [execOp, ha.2 _ (by simp [MK.ops]) _ hx, ha.2 _ (by simp [MK.ops]) _ hy, Sem.run_bind, hg, hb, Result.andThen_ok]
      rfl
  · simp at hk
theorem g_eqd {E : Env} {ks' : List KI} {D : List Deferred} {Q : QX} {l : List MOp} {t : Nat} {g : Option (Nat × Bool)} {op : BinOp} {ks : List CKd} {x y : Operand} (a b : List Value) (hg : gv T ⟨some t, g, .eqd op ks x y⟩ = some true) (hx : ev T x = some (.agg ⟨a⟩)) (hy : ev T y = some (.agg ⟨b⟩)) (ha : Fits ks a) (hb : Fits ks b)
    (h : G E (.r l :: ks') ((t, .bool (eqdv op (deqv a b))) :: T) D w Q) : G E (.r (⟨some t, g, .eqd op ks x y⟩ :: l) :: ks') T D w Q := g_qt hg (qt_eqd hx hy ha hb) h
end Go.En
