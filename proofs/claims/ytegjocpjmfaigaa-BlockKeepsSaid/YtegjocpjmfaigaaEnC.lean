/- The resolved operations that leave the world alone yield what 'pev' says. -/
import Derived.Test.YtegjocpjmfaigaaEnB
set_option linter.unusedSimpArgs false
set_option linter.unusedVariables false
namespace Go.En
variable {P : Program} {T : TT} {w : World}

theorem add_plain (b o n : Nat) : (⟨b, o, none⟩ : Addr).add n = ⟨b, o + n, none⟩ := by unfold Addr.add; split <;> simp_all
theorem hasSize_info {t : TypeId} {n : Nat} (h : hasSize P t n = true) : ∃ i, P.info? t = some i ∧ i.size = n := by
  unfold hasSize at h
  split at h
  · rename_i i hi; exact ⟨i, hi, by simpa using h⟩
  · simp at h
theorem run_size {t : TypeId} {n : Nat} (h : hasSize P t n = true) (w : World) : (sizeOf t).run P w = .ok n w := by
  obtain ⟨i, hi, rfl⟩ := hasSize_info h
  simp [sizeOf, typeInfo, hi]
theorem run_isAgg {t : TypeId} {b : Bool} (h : isAg P t = some b) (w : World) : (isAgg t).run P w = .ok b w := by
  unfold isAg at h
  unfold isAgg
  split at h
  · rename_i hu; rw [Sem.run_bind, run_underlying hu w]; simp at h; subst h; rfl
  · rename_i hu; rw [Sem.run_bind, run_underlying hu w]; simp at h; subst h; rfl
  · rename_i d h1 h2 hu
    rw [Sem.run_bind, run_underlying hu w]
    simp at h; subst h
    cases d <;> first | rfl | exact (h1 _ rfl).elim | exact (h2 _ _ rfl).elim
  · simp at h
theorem rdAs_one {t : TypeId} (h : rdAs P t none = true) : isAg P t = some false := by
  unfold rdAs at h; split at h <;> simp_all
theorem rdAs_many {t : TypeId} {n : Nat} (h : rdAs P t (some n) = true) : isAg P t = some true ∧ hasSize P t n = true := by
  unfold rdAs at h
  cases ha : isAg P t with
  | none => simp [ha] at h
  | some b =>
    cases b with
    | false => simp [ha] at h
    | true =>
      cases hi : P.info? t with
      | none => simp [ha, hi] at h
      | some i => exact ⟨rfl, by simp [hasSize, hi]; simpa [ha, hi] using h⟩
theorem run_part_one {t : TypeId} {cs : List Value} {off : Nat} {v : Value} (h : rdAs P t none = true) (hv : cs[off]? = some v) (w : World) : (part t ⟨cs⟩ off).run P w = .ok v w := by
  simp only [part, Sem.run_bind, run_isAgg (rdAs_one h) w, Result.andThen_ok]
  simp [hv]
theorem run_part_many {t : TypeId} {cs : List Value} {off n : Nat} (h : rdAs P t (some n) = true) (w : World) : (part t ⟨cs⟩ off).run P w = .ok (.agg ⟨(cs.drop off).take n⟩) w := by
  obtain ⟨h1, h2⟩ := rdAs_many h
  simp only [part, Sem.run_bind, run_isAgg h1 w, Result.andThen_ok, if_true, run_size h2 w]
  simp

/-- the shape of every such proof: the model's operation is the one that was looked up -/
theorem qt_mv {x : Operand} {v : Value} (hx : ev T x = some v) : Qt P (.mv x) T w v := by
  rintro ⟨dst, op, ty, pos, after, guard⟩ ρ hc ha
  cases op <;> simp only [chkO, Bool.false_eq_true] at hc <;>
    (have e := oeq_eq hc; subst e; simp [execOp, ha.2 _ (by simp [MK.ops]) _ hx])

theorem qt_pkt {c a b : Operand} {v : Value} (hx : ev T c = some (.bool true)) (ha' : ev T a = some v) : Qt P (.pk c a b) T w v := by
  rintro ⟨dst, op, ty, pos, after, guard⟩ ρ hc ha
  cases op <;> simp only [chkO, Bool.false_eq_true, Bool.and_eq_true] at hc
  obtain ⟨⟨e1, e2⟩, e3⟩ := hc
  have e1 := oeq_eq e1; have e2 := oeq_eq e2; have e3 := oeq_eq e3
  subst e1 e2 e3
  simp [execOp, ha.2 _ (by simp [MK.ops]) _ hx, ha.2 _ (by simp [MK.ops]) _ ha', asBool]
theorem qt_pkf {c a b : Operand} {v : Value} (hx : ev T c = some (.bool false)) (ha' : ev T b = some v) : Qt P (.pk c a b) T w v := by
  rintro ⟨dst, op, ty, pos, after, guard⟩ ρ hc ha
  cases op <;> simp only [chkO, Bool.false_eq_true, Bool.and_eq_true] at hc
  obtain ⟨⟨e1, e2⟩, e3⟩ := hc
  have e1 := oeq_eq e1; have e2 := oeq_eq e2; have e3 := oeq_eq e3
  subst e1 e2 e3
  simp [execOp, ha.2 _ (by simp [MK.ops]) _ hx, ha.2 _ (by simp [MK.ops]) _ ha', asBool]
theorem qt_nc {x : Operand} {a : Addr} (hx : ev T x = some (.pointer (some a))) : Qt P (.nc x) T w (.pointer (some a)) := by
  rintro ⟨dst, op, ty, pos, after, guard⟩ ρ hc ha
  cases op <;> simp only [chkO, Bool.false_eq_true] at hc
  have e := oeq_eq hc; subst e
  simp [execOp, ha.2 _ (by simp [MK.ops]) _ hx]
theorem qt_fa {x : Operand} {b o off : Nat} (hx : ev T x = some (.pointer (some ⟨b, o, none⟩))) : Qt P (.fa x off) T w (.pointer (some ⟨b, o + off, none⟩)) := by
  rintro ⟨dst, op, ty, pos, after, guard⟩ ρ hc ha
  cases op <;> simp only [chkO, Bool.false_eq_true, Bool.and_eq_true] at hc
  obtain ⟨e, hc⟩ := hc
  have e := oeq_eq e; subst e
  split at hc
  · rename_i fs hu
    split at hc
    · rename_i fd hf
      simp only [Bool.and_eq_true, decide_eq_true_eq] at hc
      obtain ⟨rfl, hc⟩ := hc
      split at hc
      · rename_i i hi
        have hsz : (sizeOf fd.type).run P w = .ok i.size w := by simp [sizeOf, typeInfo, hi]
        simp only [decide_eq_true_eq] at hc
        simp [execOp, ha.2 _ (by simp [MK.ops]) _ hx, Instr.fieldAt, Sem.run_bind, run_underlying hu w, hf, Instr.sureAddr, fieldPlace, hsz, hc, add_plain]
      · simp at hc
    · simp at hc
  · simp at hc
theorem qt_fl1 {x : Operand} {l : List Value} {off : Nat} {v : Value} (hx : ev T x = some (.agg ⟨l⟩)) (hv : l[off]? = some v) : Qt P (.fl x off none) T w v := by
  rintro ⟨dst, op, ty, pos, after, guard⟩ ρ hc ha
  cases op <;> simp only [chkO, Bool.false_eq_true, Bool.and_eq_true] at hc
  obtain ⟨e, hc⟩ := hc
  have e := oeq_eq e; subst e
  split at hc
  · rename_i fs hu
    split at hc
    · rename_i fd hf
      simp only [Bool.and_eq_true, decide_eq_true_eq] at hc
      obtain ⟨rfl, hc⟩ := hc
      simp [execOp, ha.2 _ (by simp [MK.ops]) _ hx, Instr.field, Sem.run_bind, run_underlying hu w, hf, asAgg, run_part_one hc hv w]
    · simp at hc
  · simp at hc
theorem qt_flm {x : Operand} {l : List Value} {off n : Nat} (hx : ev T x = some (.agg ⟨l⟩)) : Qt P (.fl x off (some n)) T w (.agg ⟨(l.drop off).take n⟩) := by
  rintro ⟨dst, op, ty, pos, after, guard⟩ ρ hc ha
  cases op <;> simp only [chkO, Bool.false_eq_true, Bool.and_eq_true] at hc
  obtain ⟨e, hc⟩ := hc
  have e := oeq_eq e; subst e
  split at hc
  · rename_i fs hu
    split at hc
    · rename_i fd hf
      simp only [Bool.and_eq_true, decide_eq_true_eq] at hc
      obtain ⟨rfl, hc⟩ := hc
      simp [execOp, ha.2 _ (by simp [MK.ops]) _ hx, Instr.field, Sem.run_bind, run_underlying hu w, hf, asAgg, run_part_many hc w]
    · simp at hc
  · simp at hc
theorem qt_ias {x i : Operand} {b o len cap sz : Nat} {k : IntKind} {j : Int} (hx : ev T x = some (.slice (some ⟨b, o, none⟩) len cap)) (hi : ev T i = some (.int k j)) (h : 0 ≤ j ∧ j < (len : Int)) :
    Qt P (.ias x i sz) T w (.pointer (some ⟨b, o + j.toNat * sz, none⟩)) := by
  rintro ⟨dst, op, ty, pos, after, guard⟩ ρ hc ha
  cases op <;> simp only [chkO, Bool.false_eq_true, Bool.and_eq_true] at hc
  obtain ⟨⟨e1, e2⟩, hc⟩ := hc
  have e1 := oeq_eq e1; have e2 := oeq_eq e2; subst e1 e2
  split at hc
  · rename_i e hu
    simp [execOp, ha.2 _ (by simp [MK.ops]) _ hx, ha.2 _ (by simp [MK.ops]) _ hi, Instr.indexAt, asIntOf, Sem.run_bind, run_underlying hu w, h, run_size hc w, add_plain]
  · simp at hc
theorem qt_iaa {x i : Operand} {b o len sz : Nat} {k : IntKind} {j : Int} (hx : ev T x = some (.pointer (some ⟨b, o, none⟩))) (hi : ev T i = some (.int k j)) (h : 0 ≤ j ∧ j < (len : Int)) :
    Qt P (.iaa x i len sz) T w (.pointer (some ⟨b, o + j.toNat * sz, none⟩)) := by
  rintro ⟨dst, op, ty, pos, after, guard⟩ ρ hc ha
  cases op <;> simp only [chkO, Bool.false_eq_true, Bool.and_eq_true] at hc
  obtain ⟨⟨e1, e2⟩, hc⟩ := hc
  have e1 := oeq_eq e1; have e2 := oeq_eq e2; subst e1 e2
  split at hc
  · rename_i l e hu
    simp only [Bool.and_eq_true, decide_eq_true_eq] at hc
    obtain ⟨rfl, hc⟩ := hc
    simp [execOp, ha.2 _ (by simp [MK.ops]) _ hx, ha.2 _ (by simp [MK.ops]) _ hi, Instr.indexAt, asIntOf, Instr.sureAddr, Sem.run_bind, run_underlying hu w, h, run_size hc w, add_plain]
  · simp at hc
theorem qt_ixa1 {x i : Operand} {l : List Value} {len sz : Nat} {k : IntKind} {j : Int} {v : Value} (hx : ev T x = some (.agg ⟨l⟩)) (hi : ev T i = some (.int k j)) (h : 0 ≤ j ∧ j < (len : Int)) (hv : l[j.toNat * sz]? = some v) :
    Qt P (.ixa x i len sz none) T w v := by
  rintro ⟨dst, op, ty, pos, after, guard⟩ ρ hc ha
  cases op <;> simp only [chkO, Bool.false_eq_true, Bool.and_eq_true] at hc
  obtain ⟨⟨e1, e2⟩, hc⟩ := hc
  have e1 := oeq_eq e1; have e2 := oeq_eq e2; subst e1 e2
  split at hc
  · rename_i l e hu
    simp only [Bool.and_eq_true, decide_eq_true_eq] at hc
    obtain ⟨⟨rfl, hc⟩, hc'⟩ := hc
    simp [execOp, ha.2 _ (by simp [MK.ops]) _ hx, ha.2 _ (by simp [MK.ops]) _ hi, Instr.index, asIntOf, Sem.run_bind, run_underlying hu w, h, run_size hc w, run_part_one hc' hv w]
  · simp at hc
theorem qt_ixam {x i : Operand} {l : List Value} {len sz n : Nat} {k : IntKind} {j : Int} (hx : ev T x = some (.agg ⟨l⟩)) (hi : ev T i = some (.int k j)) (h : 0 ≤ j ∧ j < (len : Int)) :
    Qt P (.ixa x i len sz (some n)) T w (.agg ⟨(l.drop (j.toNat * sz)).take n⟩) := by
  rintro ⟨dst, op, ty, pos, after, guard⟩ ρ hc ha
  cases op <;> simp only [chkO, Bool.false_eq_true, Bool.and_eq_true] at hc
  obtain ⟨⟨e1, e2⟩, hc⟩ := hc
  have e1 := oeq_eq e1; have e2 := oeq_eq e2; subst e1 e2
  split at hc
  · rename_i l e hu
    simp only [Bool.and_eq_true, decide_eq_true_eq] at hc
    obtain ⟨⟨rfl, hc⟩, hc'⟩ := hc
    simp [execOp, ha.2 _ (by simp [MK.ops]) _ hx, ha.2 _ (by simp [MK.ops]) _ hi, Instr.index, asIntOf, Sem.run_bind, run_underlying hu w, h, run_size hc w, run_part_many hc' w]
  · simp at hc
theorem qt_ixs {x i : Operand} {s : ByteArray} {k : IntKind} {j : Int} (hx : ev T x = some (.string s)) (hi : ev T i = some (.int k j)) (h : 0 ≤ j ∧ j < (s.data.toList.length : Int)) :
    Qt P (.ixs x i) T w (.int .u8 (s.data.toList.getD j.toNat 0).toNat) := by
  rintro ⟨dst, op, ty, pos, after, guard⟩ ρ hc ha
  cases op <;> simp only [chkO, Bool.false_eq_true, Bool.and_eq_true] at hc
  obtain ⟨⟨e1, e2⟩, hc⟩ := hc
  have e1 := oeq_eq e1; have e2 := oeq_eq e2; subst e1 e2
  split at hc
  · rename_i hu
    have hlt : j.toNat < s.data.size := by have := h.2; rw [Array.length_toList] at this; omega
    have hg : s[j.toNat]? = some (s.data.toList.getD j.toNat 0) := by
      rw [getElem?_pos s j.toNat hlt]
      simp [List.getD, ByteArray.getElem_eq_getElem_data, Array.getElem?_eq_getElem hlt]
    simp only [execOp, ha.2 _ (by simp [MK.ops]) _ hx, ha.2 _ (by simp [MK.ops]) _ hi, Instr.index, asIntOf, Sem.run_bind, Sem.run_pure, Result.andThen_ok, run_underlying hu w, h.1, if_true, hg]
  · simp at hc
theorem qt_ex {x : Operand} {l : List Value} {i : Nat} {v : Value} (hx : ev T x = some (.tuple ⟨l⟩)) (hv : l[i]? = some v) : Qt P (.ex x i) T w v := by
  rintro ⟨dst, op, ty, pos, after, guard⟩ ρ hc ha
  cases op <;> simp only [chkO, Bool.false_eq_true, Bool.and_eq_true, decide_eq_true_eq] at hc
  obtain ⟨e, rfl⟩ := hc
  have e := oeq_eq e; subst e
  simp [execOp, ha.2 _ (by simp [MK.ops]) _ hx, Instr.extract, hv]
theorem qt_nt {x : Operand} {b : Bool} (hx : ev T x = some (.bool b)) : Qt P (.nt x) T w (.bool !b) := by
  rintro ⟨dst, op, ty, pos, after, guard⟩ ρ hc ha
  cases op <;> simp only [chkO, Bool.false_eq_true] at hc
  rename_i uop t y
  cases uop <;> simp only [Bool.false_eq_true] at hc
  have e := oeq_eq hc; subst e
  simp [execOp, ha.2 _ (by simp [MK.ops]) _ hx, Op.unary]

theorem isI_u {t : TypeId} {k : IntKind} (h : isI P t k = true) : P.underlying t = some (.int k) := by
  unfold isI at h
  split at h
  · rename_i k' hu; simp only [decide_eq_true_eq] at h; rw [hu, h]
  · simp at h
theorem guard_int (op : BinOp) (t : TypeId) (x y : Operand) (k j : IntKind) (a b : Int) (w : World) : (eqGuard op t x y (.int k a) (.int j b)).run P w = .ok () w := by
  unfold eqGuard
  cases op <;> rfl
theorem qt_ar {op : BinOp} {k j j' : IntKind} {x y : Operand} {e : Bool} {a b : Int} (hx : ev T x = some (.int j a)) (hy : ev T y = some (.int j' b)) (hj : j = k) (hj' : j' = k) :
    Qt P (.ar op k x y e) T w (.int k (k.wrap (arv op a b))) := by
  rintro ⟨dst, o, ty, pos, after, guard⟩ ρ hc ha
  cases o <;> simp only [chkO, Bool.false_eq_true, Bool.and_eq_true, decide_eq_true_eq] at hc
  obtain ⟨⟨⟨⟨rfl, e1⟩, e2⟩, hop⟩, hi⟩ := hc
  have e1 := oeq_eq e1; have e2 := oeq_eq e2; subst e1 e2 hj hj'
  simp only [execOp, ha.2 _ (by simp [MK.ops]) _ hx, ha.2 _ (by simp [MK.ops]) _ hy, Sem.run_bind, guard_int, Result.andThen_ok]
  cases op <;> simp at hop <;> simp [binOp, Op.intArith, arv]
theorem wrap_in {k : IntKind} {n : Int} (h : inK k n) : k.wrap n = n := by
  obtain ⟨h1, h2⟩ := h
  cases k <;> simp [IntKind.wrap, IntKind.min, IntKind.max, IntKind.bits, IntKind.signed] at * <;> omega
theorem qt_dvq {k j j' : IntKind} {x y : Operand} {a b : Int} (hx : ev T x = some (.int j a)) (hy : ev T y = some (.int j' b)) (hj : j = k) (hj' : j' = k) (hb : b ≠ 0) :
    Qt P (.dv .quo k x y) T w (.int k (k.wrap (a.tdiv b))) := by
  rintro ⟨dst, o, ty, pos, after, guard⟩ ρ hc ha
  cases o <;> simp only [chkO, Bool.false_eq_true, Bool.and_eq_true, decide_eq_true_eq] at hc
  obtain ⟨⟨⟨⟨rfl, e1⟩, e2⟩, hop⟩, hi⟩ := hc
  have e1 := oeq_eq e1; have e2 := oeq_eq e2; subst e1 e2 hj hj'
  simp only [execOp, ha.2 _ (by simp [MK.ops]) _ hx, ha.2 _ (by simp [MK.ops]) _ hy, Sem.run_bind, guard_int, Result.andThen_ok]
  simp [binOp, Op.intDiv, hb]
theorem qt_dvr {k j j' : IntKind} {x y : Operand} {a b : Int} (hx : ev T x = some (.int j a)) (hy : ev T y = some (.int j' b)) (hj : j = k) (hj' : j' = k) (hb : b ≠ 0) :
    Qt P (.dv .rem k x y) T w (.int k (a.tmod b)) := by
  rintro ⟨dst, o, ty, pos, after, guard⟩ ρ hc ha
  cases o <;> simp only [chkO, Bool.false_eq_true, Bool.and_eq_true, decide_eq_true_eq] at hc
  obtain ⟨⟨⟨⟨rfl, e1⟩, e2⟩, hop⟩, hi⟩ := hc
  have e1 := oeq_eq e1; have e2 := oeq_eq e2; subst e1 e2 hj hj'
  simp only [execOp, ha.2 _ (by simp [MK.ops]) _ hx, ha.2 _ (by simp [MK.ops]) _ hy, Sem.run_bind, guard_int, Result.andThen_ok]
  simp [binOp, Op.intDiv, hb]
theorem qt_bt {op : BinOp} {k j j' : IntKind} {x y : Operand} {a b : Int} (hx : ev T x = some (.int j a)) (hy : ev T y = some (.int j' b)) (hj : j = k) (hj' : j' = k) :
    Qt P (.bt op k x y) T w (.int k (btv op k a b)) := by
  rintro ⟨dst, o, ty, pos, after, guard⟩ ρ hc ha
  cases o <;> simp only [chkO, Bool.false_eq_true, Bool.and_eq_true, decide_eq_true_eq] at hc
  obtain ⟨⟨⟨⟨rfl, e1⟩, e2⟩, hop⟩, hi⟩ := hc
  have e1 := oeq_eq e1; have e2 := oeq_eq e2; subst e1 e2 hj hj'
  simp only [execOp, ha.2 _ (by simp [MK.ops]) _ hx, ha.2 _ (by simp [MK.ops]) _ hy, Sem.run_bind, guard_int, Result.andThen_ok]
  cases op <;> simp at hop <;> simp [binOp, Op.intBits, btv]
theorem qt_un {k j : IntKind} {x : Operand} {a : Int} (hx : ev T x = some (.int j a)) (hj : j = k) :
    Qt P (.un k x) T w (.int k (btv .xor k (if k.signed then -1 else k.max) a)) := by
  rintro ⟨dst, o, ty, pos, after, guard⟩ ρ hc ha
  cases o <;> try (simp [chkO] at hc; done)
  rename_i op t x'
  cases op <;> simp only [chkO, Bool.false_eq_true, Bool.and_eq_true] at hc
  obtain ⟨e1, hu⟩ := hc
  have e1 := oeq_eq e1; subst e1 hj
  simp only [execOp, ha.2 _ (by simp [MK.ops]) _ hx]
  rfl
theorem qt_sh {op : BinOp} {k j j' : IntKind} {x y : Operand} {a b : Int} (hx : ev T x = some (.int j a)) (hy : ev T y = some (.int j' b)) (hj : j = k) (hb : 0 ≤ b) :
    Qt P (.sh op k x y) T w (.int k (shv op k a b)) := by
  rintro ⟨dst, o, ty, pos, after, guard⟩ ρ hc ha
  cases o <;> simp only [chkO, Bool.false_eq_true, Bool.and_eq_true, decide_eq_true_eq] at hc
  obtain ⟨⟨⟨⟨rfl, e1⟩, e2⟩, hop⟩, hi⟩ := hc
  have e1 := oeq_eq e1; have e2 := oeq_eq e2; subst e1 e2 hj
  have hb' : ¬ b < 0 := by omega
  simp only [execOp, ha.2 _ (by simp [MK.ops]) _ hx, ha.2 _ (by simp [MK.ops]) _ hy, Sem.run_bind, guard_int, Result.andThen_ok]
  cases op <;> simp at hop <;> simp [binOp, Op.shift, shv, hb']
theorem qt_cm {op : BinOp} {k j : IntKind} {x y : Operand} {a b : Int} (hx : ev T x = some (.int k a)) (hy : ev T y = some (.int j b)) (hj : k = j) :
    Qt P (.cm op x y) T w (.bool (cmv op a b)) := by
  rintro ⟨dst, o, ty, pos, after, guard⟩ ρ hc ha
  cases o <;> simp only [chkO, Bool.false_eq_true, Bool.and_eq_true, decide_eq_true_eq] at hc
  obtain ⟨⟨⟨rfl, e1⟩, e2⟩, hop⟩ := hc
  have e1 := oeq_eq e1; have e2 := oeq_eq e2; subst e1 e2 hj
  simp only [execOp, ha.2 _ (by simp [MK.ops]) _ hx, ha.2 _ (by simp [MK.ops]) _ hy, Sem.run_bind, guard_int, Result.andThen_ok]
  cases op <;> simp at hop <;> simp [binOp, Op.intCmp, cmv] <;> rw [Bool.eq_iff_iff] <;> simp
theorem toList_data (s : ByteArray) : s.toList = s.data.toList := by
  have h : ∀ (n i : Nat) (r : List UInt8), s.size - i = n → ByteArray.toList.loop s i r = r.reverse ++ s.data.toList.drop i := by
    intro n
    induction n with
    | zero =>
      intro i r hn
      unfold ByteArray.toList.loop
      have : ¬ i < s.size := by omega
      rw [if_neg this]
      have hl : s.data.toList.length ≤ i := by rw [Array.length_toList]; show s.size ≤ i; omega
      rw [List.drop_eq_nil_of_le hl, List.append_nil]
    | succ n ih =>
      intro i r hn
      unfold ByteArray.toList.loop
      have hlt : i < s.size := by omega
      rw [if_pos hlt, ih _ _ (by omega)]
      have hl : i < s.data.toList.length := by rw [Array.length_toList]; exact hlt
      rw [List.drop_eq_getElem_cons hl]
      have : s.get! i = s.data.toList[i] := by simp [ByteArray.get!]; exact getElem!_pos s.data i hlt
      simp [this]
  unfold ByteArray.toList
  rw [h _ 0 [] rfl]
  simp
theorem guard_str (op : BinOp) (t : TypeId) (x y : Operand) (a b : ByteArray) (w : World) : (eqGuard op t x y (.string a) (.string b)).run P w = .ok () w := by
  unfold eqGuard
  cases op <;> rfl
theorem beq_dec (a b : List UInt8) : (a == b) = decide (a = b) := by rw [Bool.eq_iff_iff]; simp
theorem qt_see {x y : Operand} {a b : ByteArray} (hx : ev T x = some (.string a)) (hy : ev T y = some (.string b)) :
    Qt P (.se .eql x y) T w (.bool (decide (a.data.toList = b.data.toList))) := by
  rintro ⟨dst, o, ty, pos, after, guard⟩ ρ hc ha
  cases o <;> simp only [chkO, Bool.false_eq_true, Bool.and_eq_true, decide_eq_true_eq] at hc
  obtain ⟨⟨⟨rfl, e1⟩, e2⟩, hop⟩ := hc
  have e1 := oeq_eq e1; have e2 := oeq_eq e2; subst e1 e2
  simp only [execOp, ha.2 _ (by simp [MK.ops]) _ hx, ha.2 _ (by simp [MK.ops]) _ hy, Sem.run_bind, guard_str, Result.andThen_ok]
  simp only [binOp, Op.stringOp, toList_data, Sem.run_pure, Result.andThen_ok, beq_dec]
theorem qt_sen {x y : Operand} {a b : ByteArray} (hx : ev T x = some (.string a)) (hy : ev T y = some (.string b)) :
    Qt P (.se .neq x y) T w (.bool (!decide (a.data.toList = b.data.toList))) := by
  rintro ⟨dst, o, ty, pos, after, guard⟩ ρ hc ha
  cases o <;> simp only [chkO, Bool.false_eq_true, Bool.and_eq_true, decide_eq_true_eq] at hc
  obtain ⟨⟨⟨rfl, e1⟩, e2⟩, hop⟩ := hc
  have e1 := oeq_eq e1; have e2 := oeq_eq e2; subst e1 e2
  simp only [execOp, ha.2 _ (by simp [MK.ops]) _ hx, ha.2 _ (by simp [MK.ops]) _ hy, Sem.run_bind, guard_str, Result.andThen_ok]
  simp only [binOp, Op.stringOp, toList_data, Sem.run_pure, Result.andThen_ok, beq_dec]
theorem qt_sa {x y : Operand} {a b : ByteArray} (hx : ev T x = some (.string a)) (hy : ev T y = some (.string b)) (h : a.size + b.size ≤ 9223372036854775807) :
    Qt P (.sa x y) T w (.string (a ++ b)) := by
  rintro ⟨dst, o, ty, pos, after, guard⟩ ρ hc ha
  cases o <;> simp only [chkO, Bool.false_eq_true] at hc
  rename_i op t x' y' t'
  cases op <;> simp only [Bool.false_eq_true, Bool.and_eq_true] at hc
  obtain ⟨e1, e2⟩ := hc
  have e1 := oeq_eq e1; have e2 := oeq_eq e2; subst e1 e2
  have hn : ¬ ((a.size + b.size : Nat) : Int) > IntKind.i64.max := by
    simp only [IntKind.max, IntKind.signed, IntKind.bits]
    simp
    omega
  simp only [execOp, ha.2 _ (by simp [MK.ops]) _ hx, ha.2 _ (by simp [MK.ops]) _ hy, Sem.run_bind, guard_str, Result.andThen_ok]
  simp only [binOp, Op.stringOp, if_neg hn, Sem.run_pure, Result.andThen_ok]
theorem eq_bool (d : Nat) {t : TypeId} (h : P.underlying t = some .bool) (a b : Bool) (w : World) : (Op.equalIn (d + 1) t (.bool a) (.bool b)).run P w = .ok (a == b) w := by
  simp only [Op.equalIn, Sem.run_bind, run_underlying h w, Result.andThen_ok]; rfl
theorem eq_ptr (d : Nat) {t e : TypeId} (h : P.underlying t = some (.pointer e)) (a : Option Addr) (w : World) : (Op.equalIn (d + 1) t (.pointer a) (.pointer none)).run P w = .ok a.isNone w := by
  simp only [Op.equalIn, Sem.run_bind, run_underlying h w, Result.andThen_ok]; cases a <;> rfl
theorem eq_slc (d : Nat) {t e : TypeId} (h : P.underlying t = some (.slice e)) (a : Option Addr) (m n : Nat) (w : World) : (Op.equalIn (d + 1) t (.slice a m n) (.slice none 0 0)).run P w = .ok a.isNone w := by
  simp only [Op.equalIn, Sem.run_bind, run_underlying h w, Result.andThen_ok]; cases a <;> rfl
theorem qt_bee {x y : Operand} {a b : Bool} (hx : ev T x = some (.bool a)) (hy : ev T y = some (.bool b)) : Qt P (.be .eql x y) T w (.bool (a == b)) := by
  rintro ⟨dst, o, ty, pos, after, guard⟩ ρ hc ha
  cases o <;> simp only [chkO, Bool.false_eq_true, Bool.and_eq_true, decide_eq_true_eq] at hc
  rename_i op t x' y' t'
  obtain ⟨⟨⟨⟨rfl, e1⟩, e2⟩, hop⟩, hu⟩ := hc
  have e1 := oeq_eq e1; have e2 := oeq_eq e2; subst e1 e2
  split at hu
  · rename_i hu'
    have hg : (eqGuard .eql t x y (.bool a) (.bool b)).run P w = .ok () w := rfl
    have hb : (binOp .eql t (.bool a) (.bool b)).run P w = .ok (.bool (a == b)) w := by
      show (do pure (.bool (← Op.equal t (.bool a) (.bool b))) : Sem Value).run P w = _
      rw [Sem.run_bind, show Op.equal t (.bool a) (.bool b) = Op.equalIn (9999 + 1) t (.bool a) (.bool b) from rfl, eq_bool _ hu']; rfl
    simp only [execOp, ha.2 _ (by simp [MK.ops]) _ hx, ha.2 _ (by simp [MK.ops]) _ hy, Sem.run_bind, hg, hb, Result.andThen_ok]
    rfl
  · simp at hu
theorem qt_ben {x y : Operand} {a b : Bool} (hx : ev T x = some (.bool a)) (hy : ev T y = some (.bool b)) : Qt P (.be .neq x y) T w (.bool (!(a == b))) := by
  rintro ⟨dst, o, ty, pos, after, guard⟩ ρ hc ha
  cases o <;> simp only [chkO, Bool.false_eq_true, Bool.and_eq_true, decide_eq_true_eq] at hc
  rename_i op t x' y' t'
  obtain ⟨⟨⟨⟨rfl, e1⟩, e2⟩, hop⟩, hu⟩ := hc
  have e1 := oeq_eq e1; have e2 := oeq_eq e2; subst e1 e2
  split at hu
  · rename_i hu'
    have hg : (eqGuard .neq t x y (.bool a) (.bool b)).run P w = .ok () w := rfl
    have hb : (binOp .neq t (.bool a) (.bool b)).run P w = .ok (.bool (!(a == b))) w := by
      show (do pure (.bool (!(← Op.equal t (.bool a) (.bool b)))) : Sem Value).run P w = _
      rw [Sem.run_bind, show Op.equal t (.bool a) (.bool b) = Op.equalIn (9999 + 1) t (.bool a) (.bool b) from rfl, eq_bool _ hu']; rfl
    simp only [execOp, ha.2 _ (by simp [MK.ops]) _ hx, ha.2 _ (by simp [MK.ops]) _ hy, Sem.run_bind, hg, hb, Result.andThen_ok]
    rfl
  · simp at hu

end Go.En
