/- EnO EnM EnN EnP EnK EnY Qa0 Qa1 -/
import Derived.Test.YtocofjmknnckhaaGreatDoorPk2
import Derived.Laws.StructEq
import Derived.MapKept
import Derived.Laws.Externs
import Derived.Lib.BytesEntry
import Derived.Lib.Bytealg
import Derived.DeepKeys3
import Derived.Maps.RangeRun
import Derived.Test.YtocofjmknnckhaaGreatDoorChecked
import Derived.KernelRfl
set_option linter.unusedSimpArgs false
set_option linter.unusedVariables false
namespace Go.En
def ows {α : Type} (F : α → Res) : List α → Res
 | [] => emp
 | a :: l => (F a).and (ows F l)
section
variable {w w0 : World} {S0 : Nat → Prop} {L B : List Res}
theorem St.emp (hS : St w0 S0 w L) : St w0 S0 w (L ++ [En.emp]) := hS.new (Fr.refl _ _) (fun _ h => h.elim) (fun _ h => h.elim) trivial
theorem selB' {A B A' : List Res} (hS : St w0 S0 w (A ++ B)) (is : List Nat) (h : En.sel A is = some A') (hn : nodB is = true) : St w0 S0 w (A' ++ B) := by
 have hg := sel_get h
 refine ⟨?_, ?_, ?_, ?_, hS.fr⟩
 all_goals
  have look : ∀ (k : Nat) (r : Res), (A' ++ B)[k]? = some r → ∃ i, (A ++ B)[i]? = some r ∧ ((k < A'.length ∧ is[k]? = some i ∧ i < A.length) ∨ (A'.length ≤ k ∧ i = A.length + (k - A'.length))) := by
   intro k r hk
   by_cases hlt : k < A'.length
   ·rw [List.getElem?_append_left hlt] at hk
    obtain ⟨i, h1, h2⟩ := hg k r hk
    have hi := (List.getElem?_eq_some_iff.1 h2).1
    exact ⟨i, by rw [List.getElem?_append_left hi]; exact h2, .inl ⟨hlt, h1, hi⟩⟩
   ·rw [List.getElem?_append_right (by omega)] at hk
    exact ⟨A.length + (k - A'.length), by rw [List.getElem?_append_right (by omega), Nat.add_sub_cancel_left]; exact hk, .inr ⟨by omega, rfl⟩⟩
 ·intro k r hk; obtain ⟨i, hi, _⟩ := look k r hk; exact hS.ok i r hi
 ·intro k r hk; obtain ⟨i, hi, _⟩ := look k r hk; exact hS.bd i r hi
 ·intro k r hk; obtain ⟨i, hi, _⟩ := look k r hk; exact hS.src i r hi
 ·intro k k' r s hk hk' hne
  obtain ⟨i, hi, hi'⟩ := look k r hk
  obtain ⟨j, hj, hj'⟩ := look k' s hk'
  refine hS.dis i j r s hi hj (fun e => hne ?_)
  subst e
  rcases hi' with ⟨_, h1, h2⟩ | ⟨h1, h2⟩ <;> rcases hj' with ⟨_, h3, h4⟩ | ⟨h3, h4⟩
  ·exact (List.getElem?_inj (List.getElem?_eq_some_iff.1 h1).1 (nodB_ok hn)).1 (h1.trans h3.symm)
  ·omega
  ·omega
  ·omega
theorem St.ows_join {α : Type} {F : α → Res} : ∀ (l : List α) (x : α) (r : List α) {B : List Res}, St w0 S0 w (ows F l :: F x :: ows F r :: B) → St w0 S0 w (ows F (l ++ x :: r) :: B)
 | [], x, r, B, hS => by
  have hS := hS.tail
  have hS := hS.merge 0 1 rfl rfl (by decide)
  have hS : St w0 S0 w ((F x).and (ows F r) :: En.emp :: B) := hS
  exact selB' (A := [_, _]) (B := B) hS [0] rfl rfl
 | a :: l, x, r, B, hS => by
  have hS : St w0 S0 w ((F a).and (ows F l) :: F x :: ows F r :: B) := hS
  have hS := (hS.split 0 rfl).front
  have hS : St w0 S0 w (ows F l :: F a :: F x :: ows F r :: B) := hS
  have hS := selB' (A := [_, _, _, _]) (B := B) hS [0, 2, 3, 1] rfl rfl
  have hS := St.ows_join l x r hS
  have hS := selB' (A := [_, _]) (B := B) hS [1, 0] rfl rfl
  have hS := hS.merge 0 1 rfl rfl (by decide)
  have hS : St w0 S0 w ((F a).and (ows F (l ++ x :: r)) :: En.emp :: B) := hS
  exact selB' (A := [_, _]) (B := B) hS [0] rfl rfl
theorem St.ows_app {α : Type} {F : α → Res} {l : List α} {x : α} (hS : St w0 S0 w (ows F l :: F x :: B)) : St w0 S0 w (ows F (l ++ [x]) :: B) := by
 have hS := hS.emp.front
 have hS := selB' (A := [_, _, _]) (B := B) hS [1, 2, 0] rfl rfl
 exact St.ows_join l x [] hS
theorem ows_mem {α : Type} {F : α → Res} : ∀ {l : List α} {x : α}, (ows F l).ok w → x ∈ l → (F x).ok w
 | a :: l, x, h, hx => by
  rcases List.mem_cons.1 hx with e | hx
  ·subst e; exact h.1
  ·exact ows_mem (l := l) h.2.1 hx
end
variable {P : Program} {T : TT} {w w0 : World}
def Fit1 : CKd → Value → Prop
 | .i k, v => ∃ n, v = .int k n
 | .s, v => ∃ s, v = .string s
 | .b, v => ∃ b, v = .bool b
def Fits : List CKd → List Value → Prop
 | [], [] => True
 | k :: ks, v :: vs => Fit1 k v ∧ Fits ks vs
 | _, _ => False
theorem Fits.len : ∀ {ks : List CKd} {vs : List Value}, Fits ks vs → vs.length = ks.length
 | [], [], _ => rfl
 | _ :: _, _ :: _, h => by simp [h.2.len]
 | [], _ :: _, h => h.elim
 | _ :: _, [], h => h.elim
theorem Fits.app : ∀ {a b : List CKd} {vs : List Value}, Fits (a ++ b) vs → Fits a (vs.take a.length) ∧ Fits b (vs.drop a.length)
 | [], b, vs, h => ⟨by simp [Fits], by simpa using h⟩
 | k :: a, b, v :: vs, h => by
  have := Fits.app (a := a) h.2
  exact ⟨⟨h.1, this.1⟩, this.2⟩
 | _ :: _, _, [], h => h.elim
theorem Fits.mk : ∀ {a b : List CKd} {us vs : List Value}, Fits a us → Fits b vs → Fits (a ++ b) (us ++ vs)
 | [], _, [], _, _, h => h
 | _ :: a, _, _ :: us, _, h, h' => ⟨h.1, h.2.mk h'⟩
 | [], _, _ :: _, _, h, _ => h.elim
 | _ :: _, _, [], _, h, _ => h.elim
theorem fits_bys : ∀ (bs : List UInt8), Fits (List.replicate bs.length (.i .u8)) (bys bs)
 | [] => trivial
 | b :: bs => ⟨⟨_, rfl⟩, fits_bys bs⟩
noncomputable def deqv (a b : List Value) : Bool := @decide (a = b) (Classical.propDecidable _)
theorem deqv_t {a b : List Value} (h : a = b) : deqv a b = true := by unfold deqv; simp [h]
theorem deqv_f {a b : List Value} (h : a ≠ b) : deqv a b = false := by unfold deqv; simp [h]
theorem deqv_iff {a b : List Value} : deqv a b = true ↔ a = b := by unfold deqv; simp
theorem deqv_eq {a b : List Value} {q : Bool} (h : q = true ↔ a = b) : deqv a b = q := by
 cases q with
 | true => exact deqv_t (h.1 rfl)
 | false => exact deqv_f (fun e => by have := h.2 e; cases this)
def agT (P : Program) (t : TypeId) : Bool := match P.underlying t with | some (.struct _) | some (.array ..) => true | _ => false
def vof (P : Program) (t : TypeId) (cs : List Value) : Value := match agT P t with | true => .agg ⟨cs⟩ | false => cs.headD undef
theorem part_fit {d : Nat} {t : TypeId} {ks : List CKd} {cs : List Value} {off : Nat} (h : flatK P d t = some ks) (hs : hasSize P t ks.length = true) (hf : Fits ks ((cs.drop off).take ks.length)) (w : World) :
  (part t ⟨cs⟩ off).run P w = .ok (vof P t ((cs.drop off).take ks.length)) w := by
 obtain ⟨i, hi, hz⟩ := hasSize_info hs
 have one : ∀ k, isAg P t = some false → ks = [k] → agT P t = false → (part t ⟨cs⟩ off).run P w = .ok (vof P t ((cs.drop off).take ks.length)) w := by
  intro k ha e hag
  subst e
  have hl := hf.len
  have hg : ∃ v, cs[off]? = some v := by
   simp only [List.length_take, List.length_drop, List.length_singleton] at hl
   exact ⟨cs[off]'(by omega), List.getElem?_eq_getElem _⟩
  obtain ⟨v, hv⟩ := hg
  have hlt := (List.getElem?_eq_some_iff.1 hv).1
  have e1 : (cs.drop off).take [k].length = [v] := by
   rw [List.drop_eq_getElem_cons hlt, (List.getElem?_eq_some_iff.1 hv).2]; rfl
  rw [run_part_one (by unfold rdAs; rw [ha]) hv w, e1]
  unfold vof
  rw [hag]
  rfl
 cases d with
 | zero => simp [flatK] at h
 | succ d =>
  unfold flatK at h
  split at h
  ·rename_i k hu; cases h; exact one _ (by unfold isAg; rw [hu]) rfl (by unfold agT; rw [hu])
  ·rename_i hu; cases h; exact one _ (by unfold isAg; rw [hu]) rfl (by unfold agT; rw [hu])
  ·rename_i hu; cases h; exact one _ (by unfold isAg; rw [hu]) rfl (by unfold agT; rw [hu])
  ·rename_i n e hu
   rw [run_part_many (n := ks.length) (by unfold rdAs isAg; rw [hu, hi]; simp [hz]) w]
   unfold vof agT
   rw [hu]
  ·rename_i fs hu
   rw [run_part_many (n := ks.length) (by unfold rdAs isAg; rw [hu, hi]; simp [hz]) w]
   unfold vof agT
   rw [hu]
  ·cases h
theorem deqv_split {a b : List Value} {n : Nat} (ha : (a.take n).length = (b.take n).length) : deqv a b = (deqv (a.take n) (b.take n) && deqv (a.drop n) (b.drop n)) := by
 refine deqv_eq ?_
 rw [Bool.and_eq_true, deqv_iff, deqv_iff]
 constructor
 ·rintro ⟨h1, h2⟩
  rw [← List.take_append_drop n a, h1, h2, List.take_append_drop]
 ·intro h; rw [h]; exact ⟨rfl, rfl⟩
theorem eq_flat : ∀ (d : Nat) (t : TypeId) (ks : List CKd), flatK P d t = some ks → ∀ (m : Nat) (xs ys : List Value), Fits ks xs → Fits ks ys → ∀ w : World, (Op.equalIn (d + m) t (vof P t xs) (vof P t ys)).run P w = .ok (deqv xs ys) w
 | 0, _, _, h, _, _, _, _, _, _ => by simp [flatK] at h
 | d + 1, t, ks, h, m, xs, ys, hx, hy, w => by
  unfold flatK at h
  rw [show d + 1 + m = d + m + 1 by omega]
  split at h
  ·rename_i k hu
   cases h
   match xs, hx with
   | [x], hx => match ys, hy with
    | [y], hy =>
     obtain ⟨⟨a, rfl⟩, _⟩ := hx
     obtain ⟨⟨b, rfl⟩, _⟩ := hy
     simp only [vof, agT, hu, List.headD_cons, Op.equalIn, Sem.run_bind, run_underlying hu w, Result.andThen_ok, if_true, Sem.run_pure]
     congr 1
     refine (deqv_eq ?_).symm
     simp
  ·rename_i hu
   cases h
   match xs, hx with
   | [x], hx => match ys, hy with
    | [y], hy =>
     obtain ⟨⟨a, rfl⟩, _⟩ := hx
     obtain ⟨⟨b, rfl⟩, _⟩ := hy
     simp only [vof, agT, hu, List.headD_cons, Op.equalIn, Sem.run_bind, run_underlying hu w, Result.andThen_ok, if_true, Sem.run_pure]
     congr 1
     refine (deqv_eq ?_).symm
     constructor
     ·intro h
      rw [beq_toListBytes] at h
      have h : a.toList = b.toList := by simpa using h
      rw [toList_data, toList_data] at h
      obtain ⟨⟨a⟩⟩ := a
      obtain ⟨⟨b⟩⟩ := b
      simp only at h
      rw [h]
     ·intro h
      cases h
      rw [beq_toListBytes]
      simp
  ·rename_i hu
   cases h
   match xs, hx with
   | [x], hx => match ys, hy with
    | [y], hy =>
     obtain ⟨⟨a, rfl⟩, _⟩ := hx
     obtain ⟨⟨b, rfl⟩, _⟩ := hy
     simp only [vof, agT, hu, List.headD_cons, Op.equalIn, Sem.run_bind, run_underlying hu w, Result.andThen_ok, if_true, Sem.run_pure]
     congr 1
     refine (deqv_eq ?_).symm
     simp
  ·rename_i n e hu
   cases hl : flatK P d e with
   | none => rw [hl] at h; cases h
   | some l =>
    rw [hl] at h
    simp only [Option.bind_some] at h
    split at h
    ·rename_i hs
     cases h
     obtain ⟨i, hi, hz⟩ := hasSize_info hs
     have hco : P.cellsOf e = l.length := by simp [Program.cellsOf, hi, hz]
     have hag : agT P t = true := by unfold agT; rw [hu]
     simp only [vof, hag]
     rw [run_equalIn_array w (d + m) ⟨xs⟩ ⟨ys⟩ hu hi, hco, List.range_eq_range']
     have key : ∀ (n k : Nat), Fits (List.replicate n l).flatten (xs.drop (k * l.length)) → Fits (List.replicate n l).flatten (ys.drop (k * l.length)) →
       (Op.eqItems (d + m) e l.length ⟨xs⟩ ⟨ys⟩ (List.range' k n)).run P w = .ok (deqv (xs.drop (k * l.length)) (ys.drop (k * l.length))) w := by
      intro n
      induction n with
      | zero =>
       intro k h1 h2
       have e1 := h1.len
       have e2 := h2.len
       simp at e1 e2
       rw [deqv_t (by rw [List.drop_eq_nil_of_le (by omega), List.drop_eq_nil_of_le (by omega)])]
       simp [Op.eqItems]
      | succ n ih =>
       intro k h1 h2
       rw [List.replicate_succ, List.flatten_cons] at h1 h2
       obtain ⟨a1, b1⟩ := h1.app
       obtain ⟨a2, b2⟩ := h2.app
       rw [List.drop_drop] at b1 b2
       rw [List.range'_succ]
       have p1 := part_fit hl hs a1 w
       have p2 := part_fit hl hs a2 w
       have p3 := eq_flat d e l hl m _ _ a1 a2 w
       simp only [Op.eqItems, Sem.run_bind, p1, p2, p3, Result.andThen_ok]
       have hi2 := ih (k + 1) (by rw [Nat.add_mul, Nat.one_mul]; exact b1) (by rw [Nat.add_mul, Nat.one_mul]; exact b2)
       have hlen : ((xs.drop (k * l.length)).take l.length).length = ((ys.drop (k * l.length)).take l.length).length := by rw [a1.len, a2.len]
       rw [deqv_split hlen, List.drop_drop, List.drop_drop]
       rw [Nat.add_mul, Nat.one_mul] at hi2
       cases hq : deqv ((xs.drop (k * l.length)).take l.length) ((ys.drop (k * l.length)).take l.length)
       ·simp
       ·simpa using hi2
     have := key n 0 (by simpa using hx) (by simpa using hy)
     simpa using this
    ·cases h
  ·rename_i fs hu
   split at h
   ·cases h
   ·rename_i hsh
    have hag : agT P t = true := by unfold agT; rw [hu]
    simp only [vof, hag]
    have hfo : P.fieldsOf t = fs := by simp [Program.fieldsOf, hu]
    rw [run_equalIn_struct w (d + m) t ⟨xs⟩ ⟨ys⟩ (by rw [hfo]; exact hu) (by simpa using hsh), hfo]
    have key : ∀ (fs : List Field) (off : Nat) (ks : List CKd), flF P (flatK P d) off fs = some ks → Fits ks (xs.drop off) → Fits ks (ys.drop off) →
      (Op.eqFields (d + m) ⟨xs⟩ ⟨ys⟩ fs).run P w = .ok (deqv (xs.drop off) (ys.drop off)) w := by
     intro fs
     induction fs with
     | nil =>
      intro off ks hk h1 h2
      simp only [flF, Option.some.injEq] at hk
      subst hk
      have e1 := h1.len
      have e2 := h2.len
      simp at e1 e2
      rw [deqv_t (by rw [List.drop_eq_nil_of_le (by omega), List.drop_eq_nil_of_le (by omega)])]
      simp [Op.eqFields]
     | cons f fs ih =>
      intro off ks hk h1 h2
      unfold flF at hk
      cases hl : flatK P d f.type with
      | none => rw [hl] at hk; cases hk
      | some l =>
       rw [hl] at hk
       simp only [Option.bind_some] at hk
       split at hk
       ·rename_i hcond
        simp only [Bool.and_eq_true, decide_eq_true_eq, Bool.not_eq_true', beq_eq_false_iff_ne, ne_eq] at hcond
        obtain ⟨⟨hoff, hnm⟩, hs⟩ := hcond
        cases hr : flF P (flatK P d) (off + l.length) fs with
        | none => rw [hr] at hk; cases hk
        | some rest =>
         rw [hr] at hk
         simp only [Option.map_some, Option.some.injEq] at hk
         subst hk
         obtain ⟨a1, b1⟩ := h1.app
         obtain ⟨a2, b2⟩ := h2.app
         rw [List.drop_drop] at b1 b2
         have p1 := part_fit hl hs a1 w
         have p2 := part_fit hl hs a2 w
         have p3 := eq_flat d f.type l hl m _ _ a1 a2 w
         simp only [Op.eqFields, ne_eq, hnm, not_false_eq_true, if_true, hoff, Sem.run_bind, p1, p2, p3, Result.andThen_ok]
         have hi2 := ih _ _ hr b1 b2
         have hlen : ((xs.drop off).take l.length).length = ((ys.drop off).take l.length).length := by rw [a1.len, a2.len]
         rw [deqv_split hlen, List.drop_drop, List.drop_drop]
         cases hq : deqv ((xs.drop off).take l.length) ((ys.drop off).take l.length)
         ·simp
         ·simpa using hi2
       ·cases hk
    have := key fs.toList 0 ks h (by simpa using hx) (by simpa using hy)
    simpa using this
  ·cases h
theorem ceqs_eq : ∀ {a b : List CKd}, ceqs a b = true → a = b
 | [], [], _ => rfl
 | x :: a, y :: b, h => by
  simp only [ceqs, Bool.and_eq_true] at h
  have e := ceqs_eq h.2
  subst e
  have h1 := h.1
  cases x <;> cases y <;> simp [ceq] at h1 <;> first | rfl | (rw [h1])
 | [], _ :: _, h => by simp [ceqs] at h
 | _ :: _, [], h => by simp [ceqs] at h
def eqdv (op : BinOp) (q : Bool) : Bool := match op with | .eql => q | _ => !q
theorem qt_eqd {op : BinOp} {ks : List CKd} {x y : Operand} {a b : List Value} (hx : ev T x = some (.agg ⟨a⟩)) (hy : ev T y = some (.agg ⟨b⟩)) (ha' : Fits ks a) (hb' : Fits ks b) : Qt P (.eqd op ks x y) T w (.bool (eqdv op (deqv a b))) := by
 rintro ⟨dst, o, ty, pos, after, guard⟩ ρ hc ha
 cases o <;> try (simp [chkO] at hc; done)
 rename_i op' t x' y' t'
 simp only [chkO, Bool.and_eq_true, decide_eq_true_eq, Bool.not_eq_true'] at hc
 obtain ⟨⟨⟨⟨⟨⟨rfl, e1⟩, e2⟩, hop⟩, hgt⟩, hu⟩, hk⟩ := hc
 have e1 := oeq_eq e1; have e2 := oeq_eq e2; subst e1 e2
 split at hk
 ·rename_i l hl
  have e := ceqs_eq hk
  subst e
  have hag : agT P t = true := by unfold agT; split at hu <;> simp_all
  have heq : (Op.equal t (.agg ⟨a⟩) (.agg ⟨b⟩)).run P w = .ok (deqv a b) w := by
   have := eq_flat 30 t l hl 9970 a b ha' hb' w
   simp only [vof, hag] at this
   exact this
  have hg : (eqGuard op t x y (.agg ⟨a⟩) (.agg ⟨b⟩)).run P w = .ok () w := by
   simp only [eqGuard, Sem.run_bind, run_program, Result.andThen_ok, hgt, Bool.not_false, Bool.not_true, Bool.false_eq_true, if_true, if_false, Sem.run_pure]
   try (split <;> simp only [Sem.run_bind, run_program, Result.andThen_ok, hgt, Bool.not_false, Bool.not_true, Bool.false_eq_true, if_true, if_false, Sem.run_pure])
  cases op <;> simp at hop
  ·have hb : (binOp .eql t (.agg ⟨a⟩) (.agg ⟨b⟩)).run P w = .ok (.bool (deqv a b)) w := by
    show (do pure (.bool (← Op.equal t _ _)) : Sem Value).run P w = _
    rw [Sem.run_bind, heq]; rfl
   simp only [execOp, ha.2 _ (by simp [MK.ops]) _ hx, ha.2 _ (by simp [MK.ops]) _ hy, Sem.run_bind, hg, hb, Result.andThen_ok]
   rfl
  ·have hb : (binOp .neq t (.agg ⟨a⟩) (.agg ⟨b⟩)).run P w = .ok (.bool (!deqv a b)) w := by
    show (do pure (.bool (!(← Op.equal t _ _))) : Sem Value).run P w = _
    rw [Sem.run_bind, heq]; rfl
   simp only [execOp, ha.2 _ (by simp [MK.ops]) _ hx, ha.2 _ (by simp [MK.ops]) _ hy, Sem.run_bind, hg, hb, Result.andThen_ok]
   rfl
 ·simp at hk
theorem g_eqd {E : Env} {ks' : List KI} {D : List Deferred} {Q : QX} {l : List MOp} {t : Nat} {g : Option (Nat × Bool)} {op : BinOp} {ks : List CKd} {x y : Operand} (a b : List Value) (hg : gv T ⟨some t, g, .eqd op ks x y⟩ = some true) (hx : ev T x = some (.agg ⟨a⟩)) (hy : ev T y = some (.agg ⟨b⟩)) (ha : Fits ks a) (hb : Fits ks b)
  (h : G E (.r l :: ks') ((t, .bool (eqdv op (deqv a b))) :: T) D w Q) : G E (.r (⟨some t, g, .eqd op ks x y⟩ :: l) :: ks') T D w Q := g_qt hg (qt_eqd hx hy ha hb) h
variable {P : Program} {r : Option Nat} {T : TT} {w w0 : World} {S0 : Nat → Prop} {L : List Res} {K : Value → World → Prop}
theorem St.newObj (hS : St w0 S0 w L) (o : Obj) : St w0 S0 (w.alloc o) (L ++ [obj w.heap.size o]) :=
 hS.new (fr_alloc w o _) (fun b hb => by have : b = w.heap.size := hb; omega) (fun b hb => by have : b = w.heap.size := hb; rw [alloc_size]; omega) (by
  show (w.heap.push o)[w.heap.size]? = some o
  simp)
theorem St.putO (hS : St w0 S0 w L) {b : Nat} {o : Obj} (i : Nat) (hi : L[i]? = some (obj b o)) (o' : Obj) : St w0 S0 (w.putObj b o') (L.set i (obj b o')) := by
 have hb : w.heap[b]? = some o := hS.ok i _ hi
 have hlt := (Array.getElem?_eq_some_iff.1 hb).1
 exact hS.turn hi (fr_putObj w b o') (fun _ hb => .inl hb) (fun c hc => by have : c = b := hc; subst this; simpa using hlt) (World.putObj_heap_same hlt)
def noC : Obj → Bool
 | .cells .. => false
 | _ => true
theorem run_getO {b : Nat} {o : Obj} (hb : w.heap[b]? = some o) (hn : noC o = true) : (getObj b).run P w = .ok o w := by
 cases o <;> first | (simp [getObj, Sem.run, hb]; done) | simp [noC] at hn
theorem run_setO {b : Nat} {o : Obj} (o' : Obj) (hb : w.heap[b]? = some o) (hn : noC o = true) : (setObj b o').run P w = .ok () (w.putObj b o') := by
 cases o <;> first | (simp [setObj, Sem.run, hb, World.putObj]; done) | simp [noC] at hn
theorem ef_rg {x : Operand} {s : ByteArray} (hS : St w0 S0 w L) (hx : ev T x = some (.string s)) (h : ∀ b w', St w0 S0 w' (L ++ [obj b (.stringIter s 0)]) → K (.pointer (some ⟨b, 0, none⟩)) w') : Ef P r (.rg x) T w K := by
 refine ef_run ?_
 rintro ⟨dst, op, ty, pos, after, guard⟩ ρ hc ha
 cases op <;> simp only [chkO, Bool.false_eq_true, Bool.and_eq_true] at hc
 obtain ⟨e1, hu⟩ := hc
 have e1 := oeq_eq e1; subst e1
 split at hu
 ·rename_i hu'
  refine ⟨_, w.alloc (.stringIter s 0), ?_, h _ _ (hS.newObj _)⟩
  simp only [execOp, Instr.range, ha.2 _ (by simp [MK.ops]) _ hx, Sem.run_bind, run_underlying hu' w, Result.andThen_ok, run_newObj, Sem.run_pure]
  rfl
 ·simp at hu
theorem ef_nx {x : Operand} {s : ByteArray} {b pos : Nat} (hS : St w0 S0 w L) (i : Nat) (hi : L[i]? = some (obj b (.stringIter s pos))) (hx : ev T x = some (.pointer (some ⟨b, 0, none⟩)))
  (h1 : pos < s.size → ∀ w', St w0 S0 w' (L.set i (obj b (.stringIter s (pos + (Utf8.decode s pos).2)))) → K (.tuple ⟨[.bool true, .int .i64 pos, .int .i32 (Utf8.decode s pos).1]⟩) w')
  (h2 : ¬ pos < s.size → K (.tuple ⟨[.bool false]⟩) w) : Ef P r (.nx x) T w K := by
 have hb : w.heap[b]? = some (.stringIter s pos) := hS.ok i _ hi
 refine ef_run ?_
 rintro ⟨dst, op, ty, pos', after, guard⟩ ρ hc ha
 cases op <;> try (simp [chkO] at hc; done)
 rename_i y q
 cases q
 ·simp [chkO] at hc
 simp only [chkO] at hc
 have e1 := oeq_eq hc; subst e1
 by_cases hlt : pos < s.size
 ·refine ⟨_, w.putObj b (.stringIter s (pos + (Utf8.decode s pos).2)), ?_, h1 hlt _ (hS.putO i hi _)⟩
  simp only [execOp, Instr.next, ha.2 _ (by simp [MK.ops]) _ hx, Sem.run_bind, run_getO hb rfl, Result.andThen_ok, hlt, if_true, run_setO _ hb rfl, Sem.run_pure]
  rfl
 ·refine ⟨_, w, ?_, h2 hlt⟩
  simp only [execOp, Instr.next, ha.2 _ (by simp [MK.ops]) _ hx, Sem.run_bind, run_getO hb rfl, Result.andThen_ok, hlt, if_false, Sem.run_pure]
theorem ef_clr {x : Operand} {sz : Nat} {z : ZZ} {b off n c : Nat} {l : List Value} {E : TypeId} (hS : St w0 S0 w L) (i : Nat) (hi : L[i]? = some (cel b l E)) (hx : ev T x = some (.slice (some ⟨b, off, none⟩) n c)) (hn : off + n * sz ≤ l.length) (h1 : (zx z).all (·.oneCell') = true)
  (h : ∀ w', St w0 S0 w' (L.set i (cel b (spl l off (rep n z)) E)) → K (.tuple ⟨[]⟩) w') : Ef P r (.clr sz z x) T w K := by
 refine ef_run ?_
 rintro ⟨dst, op, ty, pos, after, guard⟩ ρ hc ha
 cases op <;> simp only [chkO, Bool.false_eq_true] at hc
 rename_i cl
 simp only [Bool.and_eq_true] at hc
 obtain ⟨⟨hb, he⟩, hc⟩ := hc
 obtain ⟨cs, hr⟩ := run_builtin (P := P) hb ρ ⟨dst, .call cl, ty, pos, after, guard⟩ rfl
 have he := oeqs_eq he
 simp only [hr, ← he, List.map_cons, List.map_nil, ha.2 _ (by simp [MK.ops]) _ hx]
 split at hc
 ·rename_i t ht
  split at hc
  ·rename_i e hu'
   simp only [Bool.and_eq_true, decide_eq_true_eq] at hc
   obtain ⟨⟨hs, hz⟩, hzl⟩ := hc
   obtain ⟨v, hv, hvl⟩ := zeroIs_run hz w
   have hrl : (rep n z).length = n * sz := by
    rw [rep, flat_len (k := sz) (fun l hl => by rw [List.eq_of_mem_replicate hl, hzl]), List.length_replicate]
   have hst := run_stores (P := P) (off := off) (b := b) (E := E) (rep n z) 0 l w (hS.b i hi) (by rw [hrl]; omega) (by
    rw [List.all_eq_true] at h1 ⊢
    intro u hu
    rw [rep, List.mem_flatten] at hu
    obtain ⟨l', hl', hu⟩ := hu
    rw [List.eq_of_mem_replicate hl'] at hu
    exact h1 u hu)
   rw [Nat.add_zero] at hst
   have hgo := h _ (hS.set i hi (spl l off (rep n z)) (spl_length (by rw [hrl]; omega)))
   refine ⟨_, _, ?_, hgo⟩
   cases n with
   | zero =>
    have : spl l off (rep 0 z) = l := by simp [spl, rep]
    rw [this, setB_self (hS.b i hi)]
    simp only [builtin, Sem.run_bind, Builtin.clear_, ht, List.getElem?_toArray, List.getElem?_cons_zero, run_underlying hu' w, Result.andThen_ok, Sem.run_pure]
   | succ n =>
    simp only [builtin, Sem.run_bind, Builtin.clear_, ht, List.getElem?_toArray, List.getElem?_cons_zero, run_underlying hu' w, Result.andThen_ok, hv, run_zeros hvl, hst, Sem.run_pure]
  ·simp at hc
 ·simp at hc
theorem ef_xl {f : FuncId} {fn : Func} {e : Array Value → Sem Value} {args : List Operand} {vs : List Value} {v : Value} (hf : P.funcs[f]? = some fn) (hn : Extern.findNext fn = none) (he : Extern.find fn = some e) (hx : evs T args = some vs) (hr : (e ⟨vs⟩).run P w = .ok v w) (h : K v w) : Ef P r (.xl f args) T w K := by
 refine ef_run ?_
 rintro ⟨dst, op, ty, pos, after, guard⟩ ρ hc ha
 cases op <;> simp only [chkO, Bool.false_eq_true] at hc
 rename_i c
 split at hc
 ·rename_i g hg
  simp only [Bool.and_eq_true, decide_eq_true_eq] at hc
  obtain ⟨⟨rfl, ho⟩, hc⟩ := hc
  have ho := oeqs_eq ho
  rw [hf] at hc
  simp only [Bool.and_eq_true, Bool.not_eq_true'] at hc
  refine ⟨v, w, ?_, h⟩
  have hval : ρ (.func f) = .func (.func f) #[] #[] := ha.2 _ (by simp [MK.ops]) _ rfl
  have hargs : c.args.map ρ = ⟨vs⟩ := by
   rw [map_arr, ← ho, evs_map (fun x hx => ha.2 x (by simp [MK.ops]; exact .inr hx)) hx]
  simp only [execOp, resolve, hg, Sem.run_bind, Sem.run_pure, Deferred.ofValue, hval, hargs, invoke, Result.andThen_ok]
  rw [show (#[] : Array Value) ++ ⟨vs⟩ ++ #[] = ⟨vs⟩ by simp, run_callFunc_extern hf hc.2 hc.1 hn he, hr]
  rfl
 ·simp at hc
theorem run_bytesX {v : Value} {E n : Nat} {bs : List UInt8} (h : Rd v E 1 n (bys bs) w) : (Extern.Bytes.bytesOf v).run P w = .ok ⟨bs.toArray⟩ w := by
 have hlen := h.len
 have hbl : bs.length = n := by simpa using hlen
 rcases h with ⟨⟨a, rfl⟩, rfl, hx⟩ | ⟨b, off, cap, l, rfl, hn, hl, hx, hB⟩
 ·have : bs = [] := by cases bs <;> simp [bys] at hx ⊢
  subst this
  cases a <;> rfl
 ·have hg := Lib.run_loadBytesX (P := P) w (bs.map fun b => (b.toNat : Int)) ⟨b, off, none⟩ .empty (fun j x hj => by
   rw [add_plain, hB.cell]
   have hj2 : (bys bs)[j]? = some (.int .u8 x) := by
    simp only [bys, List.getElem?_map] at hj ⊢
    cases hb : bs[j]? with
    | none => rw [hb] at hj; cases hj
    | some y => rw [hb] at hj; cases hj; rfl
   have hlt := (List.getElem?_eq_some_iff.1 hj2).1
   rw [← hx, List.getElem?_take_of_lt (by rw [bys_length] at hlt; omega), List.getElem?_drop] at hj2
   exact hj2)
  rw [List.length_map, hbl] at hg
  show (Extern.Bytes.loadBytes ⟨b, off, none⟩ n .empty).run P w = _
  rw [hg]
  congr 2
  apply Array.ext'
  simp [Lib.bytesOf]
  exact (List.map_congr_left fun b _ => by simp).trans (List.map_id _)
theorem run_cmpX {v u : Value} {E E' n m : Nat} {a b : List UInt8} (ha : Rd v E 1 n (bys a) w) (hb : Rd u E' 1 m (bys b) w) : (Extern.BytealgCompare.compare ⟨[v, u]⟩).run P w = .ok (.int .i64 (Lib.compareBytes a b)) w := by
 change Sem.run P (do pure (goInt (Extern.BytealgCompare.cmp (← Extern.Bytes.bytesOf v) (← Extern.Bytes.bytesOf u)))) w = _
 simp only [Sem.run_bind, run_bytesX ha, run_bytesX hb, Sem.run_pure, Result.andThen_ok]
 rw [Lib.cmp_eq]
 rfl
/-! ### maps -/
structure KL (P : Program) (kt : TypeId) (ok : Value → Prop) : Prop where
 check : ∀ (w : World) (em : Bool) {v : Value}, ok v → (Instr.checkKey em 10000 kt v).run P w = .ok () w
 find : ∀ (w : World) {x : Value}, ok x → ∀ es : List MapEntry, (∀ e ∈ es, ok e.key) →
  ((Instr.findKey kt x es).run P w = .ok none w ∧ ∀ e ∈ es, e.key ≠ x) ∨ ∃ (j : Nat) (e : MapEntry), (Instr.findKey kt x es).run P w = .ok (some (j, e.val)) w ∧ es[j]? = some e ∧ e.key = x
 stays : ∀ (w : World) {v : Value}, ok v → (Instr.keyThatStays v v).run P w = .ok v w
theorem ef_mkm (hS : St w0 S0 w L) (h : ∀ b w', St w0 S0 w' (L ++ [obj b (.map ⟨[]⟩ 0)]) → K (.map (some b)) w') : Ef P r .mkm T w K := by
 refine ef_run ?_
 rintro ⟨dst, op, ty, pos, after, guard⟩ ρ hc ha
 cases op <;> try (simp [chkO] at hc; done)
 rename_i t q
 cases q
 ·refine ⟨_, w.alloc (.map ⟨[]⟩ 0), ?_, h _ _ (hS.newObj _)⟩
  simp only [execOp, Instr.makeMap, Sem.run_bind, run_newObj, Result.andThen_ok, Sem.run_pure, Option.map_none]
  rfl
 ·simp [chkO] at hc
theorem isMap_of {t kt : TypeId} (h : isMap P t kt = true) : ∃ e, P.underlying t = some (.map kt e) := by
 unfold isMap at h
 split at h
 ·rename_i k e hu; simp at h; subst h; exact ⟨e, hu⟩
 ·cases h
theorem ef_mup {kt : TypeId} {ok : Value → Prop} (KW : KL P kt ok) {m k v : Operand} {b c : Nat} {key val : Value} {es : List MapEntry} (hS : St w0 S0 w L) (i : Nat) (hi : L[i]? = some (obj b (.map ⟨es⟩ c))) (hm : ev T m = some (.map (some b))) (hk : ev T k = some key) (hv : ev T v = some val)
  (hok : ok key) (hes : ∀ e ∈ es, ok e.key) (h1 : (∀ e ∈ es, e.key ≠ key) → ∀ w', St w0 S0 w' (L.set i (obj b (.map ⟨es ++ [⟨key, val, c⟩]⟩ (c + 1)))) → K undef w')
  (h2 : ∀ (j : Nat) (e : MapEntry), es[j]? = some e → e.key = key → ∀ w', St w0 S0 w' (L.set i (obj b (.map ⟨es.set j ⟨key, val, e.born⟩⟩ c))) → K undef w') : Ef P r (.mup kt m k v) T w K := by
 have hb : w.heap[b]? = some (.map ⟨es⟩ c) := hS.ok i _ hi
 refine ef_skip ?_
 rintro ⟨dst, op, ty, pos, after, guard⟩ ρ hc ha
 cases op <;> simp only [chkO, Bool.false_eq_true, Bool.and_eq_true] at hc
 obtain ⟨⟨⟨e1, e2⟩, e3⟩, hu⟩ := hc
 have e1 := oeq_eq e1; have e2 := oeq_eq e2; have e3 := oeq_eq e3; subst e1 e2 e3
 obtain ⟨et, hu⟩ := isMap_of hu
 rcases KW.find w hok es hes with ⟨hf, hne⟩ | ⟨j, e, hf, hj, he⟩
 ·refine ⟨w.putObj b (.map ⟨es ++ [⟨key, val, c⟩]⟩ (c + 1)), ?_, h1 hne _ (hS.putO i hi _)⟩
  simp only [execOp, Instr.mapUpdate, ha.2 _ (by simp [MK.ops]) _ hm, ha.2 _ (by simp [MK.ops]) _ hk, ha.2 _ (by simp [MK.ops]) _ hv, Sem.run_bind, run_underlying hu w, Result.andThen_ok, run_getO hb rfl, KW.check w false hok, hf, run_setO _ hb rfl, Sem.run_pure]
  congr 2
  simp
 ·refine ⟨w.putObj b (.map ⟨es.set j ⟨key, val, e.born⟩⟩ c), ?_, h2 j e hj he _ (hS.putO i hi _)⟩
  have hlt := (List.getElem?_eq_some_iff.1 hj).1
  have hks : (Instr.keyThatStays (((⟨es⟩ : Array MapEntry)[j]?.map (·.key)).getD key) key).run P w = .ok key w := by
   have : ((⟨es⟩ : Array MapEntry)[j]?.map (·.key)).getD key = key := by
    have : (⟨es⟩ : Array MapEntry)[j]? = some e := by simpa using hj
    rw [this]; exact he
   rw [this]; exact KW.stays w hok
  have hmod : (⟨es⟩ : Array MapEntry).modify j (fun e => { e with key := key, val := val }) = ⟨es.set j ⟨key, val, e.born⟩⟩ := by
   apply Array.ext'
   rw [Array.toList_modify]
   refine List.ext_getElem? fun i => ?_
   rw [List.getElem?_modify, List.getElem?_set]
   by_cases h : j = i
   ·subst h; simp [hj, hlt, (List.getElem?_eq_some_iff.1 hj).2]
   ·simp [h]
  simp only [execOp, Instr.mapUpdate, ha.2 _ (by simp [MK.ops]) _ hm, ha.2 _ (by simp [MK.ops]) _ hk, ha.2 _ (by simp [MK.ops]) _ hv, Sem.run_bind, run_underlying hu w, Result.andThen_ok, run_getO hb rfl, KW.check w false hok, hf, hks, hmod, run_setO _ hb rfl, Sem.run_pure]
def zv (ag : Bool) (z : ZZ) : Value := match ag with | true => .agg ⟨zx z⟩ | false => (zx z).headD undef
def lkv (ok : Bool) (v : Value) (q : Bool) : Value := match ok with | true => .tuple ⟨[v, .bool q]⟩ | false => v
theorem ef_mlk {kt : TypeId} {okp : Value → Prop} (KW : KL P kt okp) {ag ok : Bool} {z : ZZ} {m k : Operand} {b c : Nat} {key : Value} {es : List MapEntry} (hb : w.heap[b]? = some (.map ⟨es⟩ c)) (hm : ev T m = some (.map (some b))) (hk : ev T k = some key)
  (hok : okp key) (hes : ∀ e ∈ es, okp e.key) (h1 : (∀ e ∈ es, e.key ≠ key) → K (lkv ok (zv ag z) false) w)
  (h2 : ∀ (j : Nat) (e : MapEntry), es[j]? = some e → e.key = key → K (lkv ok e.val true) w) : Ef P r (.mlk kt ag z ok m k) T w K := by
 refine ef_run ?_
 rintro ⟨dst, op, ty, pos, after, guard⟩ ρ hc ha
 cases op <;> simp only [chkO, Bool.false_eq_true, Bool.and_eq_true, decide_eq_true_eq] at hc
 obtain ⟨⟨⟨e1, e2⟩, rfl⟩, hu⟩ := hc
 have e1 := oeq_eq e1; have e2 := oeq_eq e2; subst e1 e2
 split at hu
 ·rename_i k' e' hu'
  simp only [Bool.and_eq_true, decide_eq_true_eq] at hu
  obtain ⟨⟨rfl, hz⟩, hi⟩ := hu
  have hzv : (zeroValue e').run P w = .ok (zv ag z) w := by
   unfold zeroIs at hz
   split at hi
   ·rename_i i hi'
    rw [hi'] at hz
    simp only at hz
    split at hi
    ·rename_i cs hcs
     rw [hcs] at hz
     simp only at hz
     have := veqs_eq hz
     subst hi
     have : cs = ⟨zx z⟩ := by
      obtain ⟨l⟩ := cs
      simp [Value.cells] at this
      rw [this]
     simp [zeroValue, typeInfo, hi', hcs, zv, this]
    ·rename_i v hv1 hv
     simp only [Bool.and_eq_true, Bool.not_eq_true'] at hi
     obtain ⟨rfl, hi⟩ := hi
     have := veqs_eq hi
     simp [zeroValue, typeInfo, hi', hv, zv, ← this]
    ·cases hi
   ·cases hi
  rcases KW.find w hok es hes with ⟨hf, hne⟩ | ⟨j, e, hf, hj, he⟩
  ·refine ⟨_, w, ?_, h1 hne⟩
   simp only [execOp, Instr.lookup, ha.2 _ (by simp [MK.ops]) _ hm, ha.2 _ (by simp [MK.ops]) _ hk, Sem.run_bind, run_underlying hu' w, Result.andThen_ok, run_getO hb rfl, KW.check w _ hok, hf, hzv, Sem.run_pure]
   cases ok <;> rfl
  ·refine ⟨_, w, ?_, h2 j e hj he⟩
   simp only [execOp, Instr.lookup, ha.2 _ (by simp [MK.ops]) _ hm, ha.2 _ (by simp [MK.ops]) _ hk, Sem.run_bind, run_underlying hu' w, Result.andThen_ok, run_getO hb rfl, KW.check w _ hok, hf, Sem.run_pure]
   cases ok <;> rfl
 ·simp at hu
section
variable {w w0 : World} {S0 S : Nat → Prop} {K : Value → World → Prop} {B L : List Res} {E : Env} {ks : List KI} {T : TT} {D : List Deferred} {Q : QX}
theorem Rd.form {v : Value} {E sz n : Nat} {xs : List Value} (h : Rd v E sz n xs w) : ∃ a c, v = .slice a n c := by
 rcases h with ⟨⟨a, rfl⟩, rfl, _⟩ | ⟨b, off, cap, l, rfl, _⟩
 ·exact ⟨_, _, rfl⟩
 ·exact ⟨_, _, rfl⟩
theorem Rd.block {v : Value} {E sz n : Nat} {xs : List Value} (h : Rd v E sz n xs w) (hn : 0 < n) : ∃ b off cap l, v = .slice (some ⟨b, off, none⟩) n cap ∧ n ≤ cap ∧ off + cap * sz ≤ l.length ∧ (l.drop off).take (n * sz) = xs ∧ Blr w b l E := by
 rcases h with ⟨_, rfl, _⟩ | h
 ·omega
 ·exact h
theorem Rd.take {b off n cap E k : Nat} {xs : List Value} (h : Rd (.slice (some ⟨b, off, none⟩) n cap) E 1 n xs w) (hk : k ≤ n) : Rd (.slice (some ⟨b, off, none⟩) k cap) E 1 k (xs.take k) w := by
 rcases h with ⟨⟨a', h⟩, rfl, rfl⟩ | ⟨b', off', cap', l, h, hn, hl, hx, hb⟩
 ·cases h
  have : k = 0 := by omega
  subst this
  exact .inl ⟨⟨_, rfl⟩, rfl, rfl⟩
 ·cases h
  refine .inr ⟨b, off, cap, l, rfl, by omega, hl, ?_, hb⟩
  rw [← hx, List.take_take]
  congr 1
  omega
theorem Rd.drop {b off n cap E k : Nat} {x : Operand} {xs : List Value} (h : Rd (.slice (some ⟨b, off, none⟩) n cap) E 1 n xs w) (hk : k ≤ n) : Rd (.slice (some ⟨b, slo (some x) off cap k 1, none⟩) (n - k) (cap - k)) E 1 (n - k) (xs.drop k) w := by
 rcases h with ⟨⟨a', h⟩, rfl, rfl⟩ | ⟨b', off', cap', l, h, hn, hl, hx, hb⟩
 ·cases h
  have : k = 0 := by omega
  subst this
  exact .inl ⟨⟨_, rfl⟩, rfl, rfl⟩
 ·cases h
  by_cases e : cap = k
  ·have : n = k := by omega
   subst this
   have hso : slo (some x) off cap n 1 = off := by simp only [slo, if_pos e]
   rw [hso]
   refine .inr ⟨b, off, cap - n, l, rfl, by omega, by omega, ?_, hb⟩
   have hxl : xs.length ≤ n := by rw [← hx]; simp; omega
   have hnil : xs.drop n = [] := List.drop_eq_nil_of_le hxl
   rw [hnil]
   simp
  ·have hso : slo (some x) off cap k 1 = off + k * 1 := by simp only [slo, if_neg e]
   rw [hso]
   refine .inr ⟨b, off + k * 1, cap - k, l, rfl, by omega, by omega, ?_, hb⟩
   rw [← hx, ← List.drop_drop, List.drop_take]
   simp
theorem selLen {L : List Res} : ∀ {is : List Nat} {R : List Res}, sel L is = some R → R.length = is.length ∧ ∀ i, i ∈ is → i < L.length
 | [], R, h => by simp [sel] at h; subst h; simp
 | i :: is, R, h => by
  simp only [sel] at h
  split at h
  ·rename_i r0 R0 h1 h2
   cases h
   obtain ⟨e, k⟩ := selLen h2
   refine ⟨by simp [e], fun j hj => ?_⟩
   rcases List.mem_cons.1 hj with rfl | hj
   ·exact (List.getElem?_eq_some_iff.1 h1).1
   ·exact k j hj
  ·cases h
theorem St.selB {A B A' : List Res} (hS : St w0 S0 w (A ++ B)) (is : List Nat) (h : En.sel A is = some A') (hn : nodB is = true) : St w0 S0 w (A' ++ B) := by
 obtain ⟨hl, hlt⟩ := selLen h
 refine hS.pick (is ++ (List.range B.length).map (· + A.length)) _ ?_ ?_
 ·intro k r hk
  by_cases e : k < A'.length
  ·rw [List.getElem?_append_left e] at hk
   obtain ⟨i, h1, h2⟩ := sel_get h k r hk
   refine ⟨i, ?_, ?_⟩
   ·rw [List.getElem?_append_left (by omega)]; exact h1
   ·rw [List.getElem?_append_left (List.getElem?_eq_some_iff.1 h2).1]; exact h2
  ·rw [List.getElem?_append_right (by omega)] at hk
   have hb := (List.getElem?_eq_some_iff.1 hk).1
   refine ⟨k - A'.length + A.length, ?_, ?_⟩
   ·rw [List.getElem?_append_right (by omega), ← hl]
    simp [hb]
   ·rw [List.getElem?_append_right (by omega), Nat.add_sub_cancel]; exact hk
 ·rw [List.nodup_append]
  refine ⟨nodB_ok hn, List.Pairwise.map _ (fun a b h => by omega) List.nodup_range, ?_⟩
  intro i hi j hj
  simp only [List.mem_map, List.mem_range] at hj
  obtain ⟨k, _, rfl⟩ := hj
  have := hlt i hi
  omega
theorem cmv_self (a : Int) : cmv BinOp.eql a a = true := by simp [cmv]
theorem g_atx {ι : Type} (n : Nat) (T' : ι → TT) (I : ι → World → Prop) (hn : noD n ks = true) (h1 : G E (insA (.l (fun T1 D1 w1 => D1 = D ∧ ∃ x, SubL (T' x) T1 ∧ I x w1)) n ks) T D w Q) (h2 : ∀ x T w, SubL (T' x) T → I x w → G E (ks.drop n) T D w Q) : G E ks T D w Q :=
 kq_ins n ks hn (fun T1 D1 w1 ⟨hD, x, hs, hI⟩ => hD ▸ h2 x T1 w1 hs hI) _ _ _ _ h1
theorem g_jx {ι : Type} {T' : ι → TT} {I : ι → World → Prop} (x : ι) (hs : SubL (T' x) T) (hI : I x w) : G E (.l (fun T1 D1 w1 => D1 = D ∧ ∃ x, SubL (T' x) T1 ∧ I x w1) :: ks) T D w Q := ⟨rfl, x, hs, hI⟩
theorem qt_bsR {P : Program} {T : TT} {w : World} {x : Operand} {v : Value} {E n : Nat} {bs : List UInt8} (hx : ev T x = some v) (hr : Rd v E 1 n (bys bs) w) : Qt P (.bs x) T w (.string ⟨bs.toArray⟩) := by
 rcases hr with ⟨⟨a, rfl⟩, rfl, hb⟩ | ⟨b, off, cap, l, rfl, hc, hl, hx', hB⟩
 ·have : bs = [] := by
   have := congrArg List.length hb
   simpa using this
  subst this
  exact qt_bs0 hx
 ·rw [Nat.mul_one] at hx'
  exact qt_bs hx hB (by omega) hx'
theorem bys_set (bs : List UInt8) (rest : List Value) (i : Nat) (x : UInt8) (h : i < bs.length) : spl (bys bs ++ rest) (0 + i * 1) [.int .u8 (x.toNat : Int)] = bys (bs.set i x) ++ rest := by
 have : spl (bys bs ++ rest) i [.int .u8 (x.toNat : Int)] = (bys bs ++ rest).set i (.int .u8 (x.toNat : Int)) := by
  rw [List.set_eq_take_append_cons_drop, if_pos (by simp; omega)]
  simp [spl]
 rw [Nat.zero_add, Nat.mul_one, this, List.set_append_left _ _ (by simpa using h)]
 simp [bys, List.map_set]
theorem d_l1r {l : List MOp} {i s : Nat} {g : Option (Nat × Bool)} {x : Operand} {b off : Nat} {cs : List Value} {ty : TypeId} {v : Value} {t : DT} (hl : l[i]? = some ⟨some s, g, .ld x none⟩) (hg : gv T ⟨some s, g, .ld x none⟩ = some true) (hx : ev T x = some (.pointer (some ⟨b, off, none⟩))) (hb : Blr w b cs ty) (hv : cs[off]? = some v)
  (h : G E (.d l t :: ks) ((s, v) :: T) D w Q) : G E (.d l (.q i t) :: ks) T D w Q := d_qt hl hg rfl (qt_ld1r hx hb hv) h
theorem rc_1r {l : List MOp} {j d : Nat} {g : Option (Nat × Bool)} {x : Operand} {b off : Nat} {cs : List Value} {ty : TypeId} {v : Value} {rc : List Nat} {T' : TT} (hl : l[j]? = some ⟨some d, g, .ld x none⟩) (hv : lk T d = some v) (hg : gv T' ⟨some d, g, .ld x none⟩ = some true) (hx : ev T' x = some (.pointer (some ⟨b, off, none⟩))) (hb : Blr w b cs ty) (hc : cs[off]? = some v)
  (h : RC E l rc T T' w) : RC E l (j :: rc) T T' w := rc_qt hl hv hg rfl (qt_ld1r hx hb hc) h
theorem q_c1 {P : Program} {a ty n b off : Nat} {l : List Value} {E : TypeId} {T : TT} {w : World} {K : Value → World → Prop} (ht : lk T a = some (.pointer (some ⟨b, off, none⟩))) (h1 : rdAs P ty (some n) = true) (hb : Blk w b l E) (hn : off + n ≤ l.length) (h : K (.agg ⟨(l.drop off).take n⟩) w) : QF P [.cell a ty] K .ret T [] w :=
 ⟨[_], ⟨_, _, [], ht, run_loadm h1 hb.r hn, rfl, rfl⟩, h⟩
theorem q_c2 {P : Program} {a ty n b off t : Nat} {l : List Value} {E : TypeId} {T : TT} {w : World} {K : Value → World → Prop} {u : Value} (ht : lk T a = some (.pointer (some ⟨b, off, none⟩))) (h1 : rdAs P ty (some n) = true) (hb : Blk w b l E) (hn : off + n ≤ l.length) (hu : lk T t = some u) (h : K (.tuple ⟨[.agg ⟨(l.drop off).take n⟩, u]⟩) w) : QF P [.cell a ty, .tmp t] K .ret T [] w :=
 ⟨[_, _], ⟨_, _, [u], ht, run_loadm h1 hb.r hn, ⟨_, [], hu, rfl, rfl⟩, rfl⟩, h⟩
theorem Rd.mid {b off n cap E i j : Nat} {x : Operand} {xs : List Value} (h : Rd (.slice (some ⟨b, off, none⟩) n cap) E 1 n xs w) (hi : i ≤ j) (hj : j ≤ n) : Rd (.slice (some ⟨b, slo (some x) off cap i 1, none⟩) (j - i) (cap - i)) E 1 (j - i) ((xs.drop i).take (j - i)) w :=
 Rd.take (Rd.drop h (by omega)) (by omega)
theorem qt_slh {P : Program} {T : TT} {w : World} {x hi : Operand} {a : Option Addr} {n c sz h : Nat} {k : IntKind} (hx : ev T x = some (.slice a n c)) (hsp : ∀ {y o v}, a = some ⟨y, o, some v⟩ → False) (hh : ev T hi = some (.int k (h : Int))) (hle : h ≤ n) (hc : n ≤ c) : Qt P (.sl x none (some hi) none sz) T w (.slice a h c) := by
 cases a with
 | none =>
  have e : pev T (.sl x none (some hi) none sz) = .rq (((0 : Nat) : Int) ≤ ((0 : Nat) : Int) ∧ ((0 : Nat) : Int) ≤ (h : Int) ∧ (h : Int) ≤ (c : Int) ∧ (c : Int) ≤ (c : Int)) (.slice none h c) := by
   simp [pev, hx, bnd, hh]
  exact (pev_rq e ⟨by omega, by omega, by omega, by omega⟩).2 w
 | some y =>
  obtain ⟨b, o, s⟩ := y
  cases s with
  | some s => exact (hsp rfl).elim
  | none =>
   have e : pev T (.sl x none (some hi) none sz) = .rq (((0 : Nat) : Int) ≤ ((0 : Nat) : Int) ∧ ((0 : Nat) : Int) ≤ (h : Int) ∧ (h : Int) ≤ (c : Int) ∧ (c : Int) ≤ (c : Int)) (.slice (some ⟨b, o, none⟩) h c) := by
    simp [pev, hx, bnd, hh, slo]
   exact (pev_rq e ⟨by omega, by omega, by omega, by omega⟩).2 w
theorem Rd.head {w : World} {a : Option Addr} {n c E m : Nat} {xs : List Value} (h : Rd (.slice a n c) E 1 n xs w) (hm : m ≤ n) : Rd (.slice a m c) E 1 m (xs.take m) w := by
 rcases h with ⟨⟨a', h⟩, rfl, rfl⟩ | ⟨b', off', cap', l, h, hn, hl, hx, hb⟩
 ·cases h
  have : m = 0 := by omega
  subst this
  exact .inl ⟨⟨_, rfl⟩, rfl, rfl⟩
 ·cases h
  refine .inr ⟨b', off', _, l, rfl, by omega, hl, ?_, hb⟩
  rw [← hx, List.take_take]
  congr 1
  omega
theorem row_blk {w0 w : World} {S0 : Nat → Prop} {L : List Res} {v : Value} {E n sz : Nat} {xs : List Value} (hS : St w0 S0 w L) (i : Nat) (hi : L[i]? = some (row v E sz n xs)) (hn : 0 < n) :
  ∃ b cap rest, v = .slice (some ⟨b, 0, none⟩) n cap ∧ n ≤ cap ∧ Blk w b (xs ++ rest) E ∧ (xs ++ rest).length = cap * sz := by
 obtain ⟨a, m, c, hv⟩ := hS.rowb i hi hn
 rcases hS.ok i _ hi with ⟨hv', _⟩ | ⟨bw, capw, restw, hv', hcap, hxl, hl', hB⟩
 ·rw [hv] at hv'; cases hv'
 ·exact ⟨bw, capw, restw, hv', hcap, hB, hl'⟩
theorem cmv_neq (a : Int) : cmv BinOp.neq a a = false := by simp [cmv]
def Ext (w0 : World) (p : Value × List UInt8) : Prop := ∃ E, Rd p.1 E 1 p.2.length (bys p.2) w0
end
section
variable {P : Program} {r : Option Nat} {T : TT} {w w0 : World} {S0 : Nat → Prop} {L : List Res} {K : Value → World → Prop}
def keyK (P : Program) (kt : TypeId) (v : Value) : Prop := ∃ l, keyOf P kt v = some l
theorem kl_deep {kt : TypeId} {m : Nat} (hm : m + 1 ≤ 10000) (hk : P.keyTypeAt m kt = true) (ht : P.tiled m kt = true) (hwide : (match P.underlying kt with | some (.array _ _) | some (.struct _) => true | _ => false) = true) : KL P kt (keyK P kt) where
 check w em v hv := by
  obtain ⟨l, hl⟩ := hv
  exact (deep_law hm hk ht hwide).check w em hl
 find w x hx es hes := by
  obtain ⟨l, hl⟩ := hx
  exact (deep_law hm hk ht hwide).find w hl es hes
 stays w v hv := by
  obtain ⟨l, hl⟩ := hv
  exact (deep_law hm hk ht hwide).stays w hl
end
section
variable {P : Program} {r : Option Nat} {T : TT} {w w0 : World} {S0 : Nat → Prop} {L : List Res} {K : Value → World → Prop}
theorem ef_iv {x : Operand} {m : String} {t f : Nat} {v rv : Value} {args : List Operand} {vs : List Value} (hx : ev T x = some (.iface t v)) (ha : evs T args = some vs)
  (hm : (callMethod (.iface t v) m ⟨vs⟩).run P w = .ok (.enter f ⟨rv :: vs⟩) w) (h : CK P f (rv :: vs) w K) : Ef P r (.iv x m args) T w K := by
 rintro ⟨dst, op, ty, pos, after, guard⟩ a next Q hc hag hn
 refine ⟨about_true, ?_⟩
 rw [Oper.semAt_eq _ _ _ (chk_nd hc)]
 cases op <;> simp only [chkO, Bool.false_eq_true] at hc
 rename_i c
 split at hc
 ·rename_i y n hg
  simp only [Bool.and_eq_true, beq_iff_eq] at hc
  obtain ⟨⟨e1, rfl⟩, he⟩ := hc
  have e1 := oeq_eq e1
  have he := oeqs_eq he
  subst e1
  have hval : a.eval x = .iface t v := hag.2 _ (by simp [MK.ops]) _ hx
  have hargs : c.args.map a.eval = ⟨vs⟩ := by
   rw [map_arr, ← he, evs_map (fun x hx => hag.2 x (by simp [MK.ops]; exact .inr hx)) ha]
  have hrun : (execOp a.eval ⟨dst, .call c, ty, pos, after, guard⟩).run P w = .ok (.enter f ⟨rv :: vs⟩) w := by
   simp only [execOp, resolve, hg, Sem.run_bind, Sem.run_pure, hval, hargs, invoke, Result.andThen_ok]
   have e2 : (#[Value.iface t v] ++ (⟨vs⟩ : Array Value))[0]? = some (.iface t v) := by simp
   have e3 : (#[Value.iface t v] ++ (⟨vs⟩ : Array Value)).extract 1 (#[Value.iface t v] ++ (⟨vs⟩ : Array Value)).size = ⟨vs⟩ := by
    apply Array.ext'
    simp
   rw [e2]
   simp only [e3]
   exact hm
  rw [hrun]
  refine ⟨fun h => by simp [FW, Fence.wide] at h, ?_⟩
  refine (callsIn_wide (n := 0 - 1)).2 (Calls.mono h ?_)
  rintro e w' ⟨v, rfl, hk⟩
  exact hn v w' hk
 ·simp at hc
theorem run_zv {e : TypeId} {z : ZZ} {ag : Bool} (hz : zeroIs P e z = true) (hi : (match P.info? e with | some i => (match i.zero with | some (.agg _) => ag | some v => !ag && veqs [v] (zx z) | none => false) | none => false) = true) (w : World) : (zeroValue e).run P w = .ok (zv ag z) w := by
 unfold zeroIs at hz
 split at hi
 ·rename_i i hi'
  rw [hi'] at hz
  simp only at hz
  split at hi
  ·rename_i cs hcs
   rw [hcs] at hz
   simp only at hz
   have := veqs_eq hz
   subst hi
   have : cs = ⟨zx z⟩ := by
    obtain ⟨l⟩ := cs
    simp [Value.cells] at this
    rw [this]
   simp [zeroValue, typeInfo, hi', hcs, zv, this]
  ·rename_i v hv1 hv
   simp only [Bool.and_eq_true, Bool.not_eq_true'] at hi
   obtain ⟨rfl, hi⟩ := hi
   have := veqs_eq hi
   simp [zeroValue, typeInfo, hi', hv, zv, ← this]
  ·cases hi
 ·cases hi
theorem ef_me {kt : TypeId} {okp : Value → Prop} (KW : KL P kt okp) {ag : Bool} {z : ZZ} {m k : Operand} {b c : Nat} {key : Value} {es : List MapEntry} (hS : St w0 S0 w L) (i : Nat) (hi : L[i]? = some (obj b (.map ⟨es⟩ c))) (hm : ev T m = some (.map (some b))) (hk : ev T k = some key)
  (hok : okp key) (hes : ∀ e ∈ es, okp e.key) (h1 : (∀ e ∈ es, e.key ≠ key) → ∀ w', St w0 S0 w' (L.set i (obj b (.map ⟨es ++ [⟨key, zv ag z, c⟩]⟩ (c + 1)))) → K (.tuple ⟨[zv ag z, .int .i64 (c : Int)]⟩) w')
  (h2 : ∀ (j : Nat) (e : MapEntry), es[j]? = some e → e.key = key → ∀ w', St w0 S0 w' (L.set i (obj b (.map ⟨es⟩ c))) → K (.tuple ⟨[e.val, .int .i64 (e.born : Int)]⟩) w') : Ef P r (.me kt ag z m k) T w K := by
 have hb : w.heap[b]? = some (.map ⟨es⟩ c) := hS.ok i _ hi
 refine ef_run ?_
 rintro ⟨dst, op, ty, pos, after, guard⟩ ρ hc ha
 cases op <;> simp only [chkO, Bool.false_eq_true, Bool.and_eq_true] at hc
 obtain ⟨⟨e1, e2⟩, hu⟩ := hc
 have e1 := oeq_eq e1; have e2 := oeq_eq e2; subst e1 e2
 split at hu
 ·rename_i k' e' hu'
  simp only [Bool.and_eq_true, decide_eq_true_eq] at hu
  obtain ⟨⟨rfl, hz⟩, hz2⟩ := hu
  have hzv := run_zv hz hz2 w
  rcases KW.find w hok es hes with ⟨hf, hne⟩ | ⟨j, e, hf, hj, he⟩
  ·refine ⟨_, w.putObj b (.map ⟨es ++ [⟨key, zv ag z, c⟩]⟩ (c + 1)), ?_, h1 hne _ (hS.putO i hi _)⟩
   simp only [execOp, Instr.mapEntry, ha.2 _ (by simp [MK.ops]) _ hm, ha.2 _ (by simp [MK.ops]) _ hk, Sem.run_bind, run_underlying hu' w, Result.andThen_ok, run_getO hb rfl, KW.check w false hok, hf, hzv, run_setO _ hb rfl, Sem.run_pure]
   congr 2
   simp
  ·refine ⟨_, w.putObj b (.map ⟨es⟩ c), ?_, h2 j e hj he _ (hS.putO i hi _)⟩
   have hje : (⟨es⟩ : Array MapEntry)[j]? = some e := by simpa using hj
   have hks : (Instr.keyThatStays (((⟨es⟩ : Array MapEntry)[j]?.map (·.key)).getD key) key).run P w = .ok key w := by
    rw [hje]
    show (Instr.keyThatStays e.key key).run P w = _
    rw [he]; exact KW.stays w hok
   have hmod : (⟨es⟩ : Array MapEntry).modify j (fun e => { e with key := key }) = ⟨es⟩ := by
    apply Array.ext'
    rw [Array.toList_modify]
    refine List.ext_getElem? fun i => ?_
    rw [List.getElem?_modify]
    by_cases h : j = i
    ·subst h; simp [hj]; rw [← he]
    ·simp [h]
   simp only [execOp, Instr.mapEntry, ha.2 _ (by simp [MK.ops]) _ hm, ha.2 _ (by simp [MK.ops]) _ hk, Sem.run_bind, run_underlying hu' w, Result.andThen_ok, run_getO hb rfl, KW.check w false hok, hf, hks, hmod, run_setO _ hb rfl, Sem.run_pure]
   rw [hje]
   rfl
 ·cases hu
theorem ef_es {m s v : Operand} {b c n j : Nat} {val : Value} {e : MapEntry} {es : List MapEntry} (hS : St w0 S0 w L) (i : Nat) (hi : L[i]? = some (obj b (.map ⟨es⟩ c))) (hm : ev T m = some (.map (some b))) (hs : ev T s = some (.int .i64 (n : Int))) (hv : ev T v = some val)
  (hj : es[j]? = some e) (he : e.born = n) (hn : ∀ (k : Nat) (e' : MapEntry), k < j → es[k]? = some e' → e'.born ≠ n) (h : ∀ w', St w0 S0 w' (L.set i (obj b (.map ⟨es.set j ⟨e.key, val, e.born⟩⟩ c))) → K undef w') : Ef P r (.es m s v) T w K := by
 have hb : w.heap[b]? = some (.map ⟨es⟩ c) := hS.ok i _ hi
 refine ef_skip ?_
 rintro ⟨dst, op, ty, pos, after, guard⟩ ρ hc ha
 cases op <;> simp only [chkO, Bool.false_eq_true, Bool.and_eq_true] at hc
 obtain ⟨⟨e1, e2⟩, e3⟩ := hc
 have e1 := oeq_eq e1; have e2 := oeq_eq e2; have e3 := oeq_eq e3; subst e1 e2 e3
 have hlt := (List.getElem?_eq_some_iff.1 hj).1
 refine ⟨w.putObj b (.map ⟨es.set j ⟨e.key, val, e.born⟩⟩ c), ?_, h _ (hS.putO i hi _)⟩
 have hfi : (⟨es⟩ : Array MapEntry).findIdx? (fun e => (e.born : Int) == (n : Int)) = some j := by
  show es.toArray.findIdx? _ = _
  rw [List.findIdx?_toArray, List.findIdx?_eq_some_iff_getElem]
  refine ⟨hlt, ?_, fun k hk => ?_⟩
  ·rw [(List.getElem?_eq_some_iff.1 hj).2, he]; simp
  ·have := hn k _ hk (List.getElem?_eq_getElem (by omega))
   simp only [beq_iff_eq, Bool.not_eq_true, beq_eq_false_iff_ne]
   omega
 have hmod : (⟨es⟩ : Array MapEntry).modify j (fun e => { e with val := val }) = ⟨es.set j ⟨e.key, val, e.born⟩⟩ := by
  apply Array.ext'
  rw [Array.toList_modify]
  refine List.ext_getElem? fun i => ?_
  rw [List.getElem?_modify, List.getElem?_set]
  by_cases h : j = i
  ·subst h; rw [hj]; simp [hlt]
  ·simp [h]
 simp only [execOp, Instr.entryStore, ha.2 _ (by simp [MK.ops]) _ hm, ha.2 _ (by simp [MK.ops]) _ hs, ha.2 _ (by simp [MK.ops]) _ hv, Sem.run_bind, Sem.run_pure, Result.andThen_ok, run_getO hb rfl, asInt, asIntOf, hfi, hmod, run_setO _ hb rfl]
theorem qt_ta {t : TypeId} {ag : Bool} {z : ZZ} {x : Operand} {v : Value} (hx : ev T x = some (.iface t v)) : Qt P (.ta t ag z x) T w (.tuple ⟨[v, .bool true]⟩) := by
 rintro ⟨dst, op, ty, pos, after, guard⟩ ρ hc ha
 cases op <;> simp only [chkO, Bool.false_eq_true, Bool.and_eq_true, decide_eq_true_eq] at hc
 obtain ⟨⟨⟨⟨⟨rfl, e1⟩, rfl⟩, hu⟩, _⟩, _⟩ := hc
 have e1 := oeq_eq e1; subst e1
 have hval := ha.2 _ (by simp [MK.ops]) _ hx
 split at hu
 ·cases hu
 ·rename_i d hd hd'
  simp only [execOp, Instr.typeAssert, hval, Sem.run_bind, run_underlying hd' w, Result.andThen_ok]
  cases d <;> first | (exact absurd rfl (hd _)) | simp [Sem.run_pure]
 ·cases hu
end
section
variable {E : Env} {ks : List KI} {T : TT} {D : List Deferred} {w w0 : World} {S0 : Nat → Prop} {L : List Res} {Q : QX}
theorem g_df {l : List MOp} {x : Operand} {f : FuncId} {first cap : List Value} {args : List Operand} {vs : List Value} (hr : E.r = none) (hv : ev T x = some (.func (.func f) ⟨first⟩ ⟨cap⟩)) (hx : evs T args = some vs)
  (h : G E (.r l :: ks) T (⟨.fn (.func f) ⟨cap⟩, ⟨first⟩ ++ ⟨vs⟩⟩ :: D) w Q) : G E (.r (⟨none, none, .df x args⟩ :: l) :: ks) T D w Q := by
 obtain ⟨P', r', N'⟩ := E
 obtain rfl : r' = none := hr
 intro hd ops k a hm hk ha
 simp only [List.all_cons, Bool.and_eq_true] at hd
 obtain ⟨o, m', ho, hm', hc⟩ := hm 0 (by simp)
 simp at hm'
 subst hm'
 obtain ⟨e1, hg, hkk⟩ := chkOp_parts hc
 rw [List.length_cons, List.range'_succ, wpOpsIn_cons]
 unfold wpOpIn
 rw [Nat.add_zero] at ho
 rw [ho]
 simp only
 have hgu : o.guard = none := by
  cases hgo : o.guard with
  | none => rfl
  | some p => rw [hgo] at hg; simp [geq] at hg
 rw [show Region.wanted o (yielded ops a.tmps) = true by unfold Region.wanted; rw [hgu], if_pos rfl]
 refine ⟨about_true, ?_⟩
 obtain ⟨dst, op, ty, pos, after, guard⟩ := o
 show Oper.uponIn _ _ _ _ _ _ _ ((Oper.semAt none a.eval _).run _ _)
 rw [Oper.semAt_none]
 cases op <;> simp only [chkO, Bool.false_eq_true] at hkk
 rename_i c
 split at hkk
 ·rename_i g hgc
  simp only [Bool.and_eq_true] at hkk
  obtain ⟨e2, he⟩ := hkk
  have e2 := oeq_eq e2
  have he := oeqs_eq he
  have hag := ha.ag ((MK.df x args).ops)
  have hval : a.eval (.tmp g) = .func (.func f) ⟨first⟩ ⟨cap⟩ := by rw [← e2]; exact hag.2 _ (by simp [MK.ops]) _ hv
  have hargs : c.args.map a.eval = ⟨vs⟩ := by
   rw [map_arr, ← he, evs_map (fun x hx => hag.2 x (by simp [MK.ops]; exact .inr hx)) hx]
  have hrun : (execOp a.eval ⟨dst, .defer c, ty, pos, after, guard⟩).run P' w = .ok (.defer ⟨.fn (.func f) ⟨cap⟩, ⟨first⟩ ++ ⟨vs⟩⟩) w := by
   simp only [execOp, resolve, hgc, Sem.run_bind, Sem.run_pure, Deferred.ofValue, hval, hargs, Result.andThen_ok]
  rw [hrun, Oper.uponIn_defer]
  have e1 : dst = none := e1
  subst e1
  refine h hd.2 ops (k + 1) ({ a with defers := ⟨.fn (.func f) ⟨cap⟩, ⟨first⟩ ++ ⟨vs⟩⟩ :: a.defers } : Act) (fun j hj => ?_) (fun j m hm => hk (j + 1) m hm) ⟨by simp only [ha.ds], ha.sz, ha.get⟩
  obtain ⟨o, m, h1, h2, h3⟩ := hm (j + 1) (by simp; omega)
  exact ⟨o, m, by rw [show k + 1 + j = k + (j + 1) from by omega]; exact h1, by simpa using h2, h3⟩
 ·simp at hkk
def QD (P : Program) (rs : List ResultVar) (K : World → Prop) : QX := fun e T D w => match e with
 | .normal | .ret => D = [] ∧ (∃ vs, rvs P T w rs vs) ∧ K w
 | _ => False
theorem ckd_k {P : Program} {f : FuncId} {fn : Func} {m : MC} {N : Nat} {args : List Value} {w : World} {K : World → Prop} (hf : P.funcs[f]? = some fn) (hk : fn.body.any (fun c => chkC P c m && allD (dlt N) m) = true) (hN : fn.ntmps = N) (hnm : (fn.name == "runtime.NumGoroutine") = false) (ha : args.length ≤ N)
  (h : G ⟨P, none, N⟩ [.c m] (argT 0 args) [] w (QD P fn.results.toList K)) : CKD P f ⟨args⟩ w K := by
 cases hb : fn.body with
 | none => rw [hb] at hk; simp at hk
 | some c =>
  rw [hb] at hk
  simp only [Option.any_some, Bool.and_eq_true] at hk
  refine ⟨fun w => callFunc_of hf hb hnm _ w, ?_⟩
  refine CallsDIn.mono (callsDIn_of_wp (R := fun e w' => (∃ v, e = .returned v) ∧ K w') hf hb trivial ?_) (fun e u w' h => ⟨h.2.1, h.1, h.2.2⟩)
  have hT : Tm (argT 0 args) [] N { tmps := ⟨args⟩ ++ Array.replicate (fn.ntmps - (⟨args⟩ : Array Value).size) undef, defers := [] } := by
   refine ⟨rfl, by simp [hN]; omega, fun t v hv => ?_⟩
   obtain ⟨_, h2⟩ := argT_get args 0 t v hv
   have hlt : t < args.length := by simpa using (List.getElem?_eq_some_iff.1 h2).1
   rw [Array.getElem?_append_left (by simpa using hlt)]
   simpa using h2
  refine wpIn_mono (h hk.2 c _ hk.1 hk.2 hT) ?_
  rintro e a' w' ⟨T', D', ha', hq⟩
  have hl : a'.defers = D' := ha'.ds
  cases e with
  | normal => obtain ⟨rfl, ⟨vs, h1⟩, h2⟩ := hq; exact ⟨hl, one vs, rvs_run ha'.get h1, ⟨_, rfl⟩, h2⟩
  | ret => obtain ⟨rfl, ⟨vs, h1⟩, h2⟩ := hq; exact ⟨hl, one vs, rvs_run ha'.get h1, ⟨_, rfl⟩, h2⟩
  | _ => exact hq.elim
theorem qd_n {P : Program} {K : World → Prop} (h : K w) : QD P [] K .normal T [] w := ⟨rfl, ⟨[], rfl⟩, h⟩
theorem q_df {P : Program} {rs : List ResultVar} {K : Value → World → Prop} {f : FuncId} {cap args : Array Value} (h : CKD P f (args ++ cap) w fun w' => QF P rs K .ret T D w') : QF P rs K .ret T (⟨.fn (.func f) cap, args⟩ :: D) w :=
 .inr ⟨f, cap, rfl, h⟩
end
end Go.En
namespace Go.Proofs.YtocofjmknnckhaaGreatDoor
open Go.En
def m29 : MC := .sq (.rg [.o 2 (.al [(32, .int .u8 0)] 46)]) (.sq (.rg [.o 3 (.al [(1, .bool false), (8, .int .u32 0), (1, .slice none 0 0), (1, .int .i64 0)] 110)]) (.sq (.sq (.rg [.t 6 0, .o 7 (.ln false (.tmp 6)), .c 8 (.int .i64 0)]) (.bk 0 (.lp (.sq (.rg [.o 9 (.cm .lss (.tmp 8) (.tmp 7))]) (.sq (.cd (.tmp 9) (.sk) (.xt 0)) (.sq (.bk 1 (.sq (.rg [.o 10 (.ias (.tmp 6) (.tmp 8) 1), .o 11 (.ld (.tmp 10) none), .t 5 11]) (.rg [.t 12 5, .o 13 (.cl 54 [.tmp 3, .tmp 12])]))) (.rg [.o 14 (.ar .add .i64 (.tmp 8) (.const (.int .i64 1)) true), .t 8 14]))))))) (.sq (.rg [.o 15 (.cl 55 [.tmp 3]), .e (.st (.tmp 2) (.tmp 15) 32)]) (.rt))))
theorem k29 : Tryz.f29.body.any (fun c => chkC Tryz.prog c m29 && allD (dlt 16) m29) = true := by kernel_rfl
def m54 : MC := .sq (.rg [.c 4 (.pointer none)]) (.sq (.sq (.rg [.t 6 0, .o 7 (.pn .eql (.tmp 6))]) (.cd (.tmp 7) (.sq (.rg [.c 4 (.pointer none)]) (.rt)) (.sk))) (.sq (.sq (.rg [.t 8 0, .o 9 (.nc (.tmp 8)), .o 10 (.fa (.tmp 9) 0), .o 11 (.ld (.tmp 10) none), .o 12 (.nt (.tmp 11))]) (.cd (.tmp 12) (.rg [.t 13 0, .t 14 0, .o 15 (.ld (.global 0) (some 8)), .o 16 (.nc (.tmp 13)), .o 17 (.fa (.tmp 16) 0), .e (.st (.tmp 17) (.const (.bool true)) 1), .o 18 (.nc (.tmp 14)), .o 19 (.fa (.tmp 18) 1), .e (.st (.tmp 19) (.tmp 15) 8)]) (.sk))) (.sq (.rg [.t 20 0, .o 21 (.nc (.tmp 20)), .o 22 (.fa (.tmp 21) 10), .o 23 (.ld (.tmp 22) none), .t 24 1, .o 25 (.ln false (.tmp 24)), .o 26 (.ar .add .i64 (.tmp 23) (.tmp 25) true), .o 27 (.nc (.tmp 20)), .o 28 (.fa (.tmp 27) 10), .e (.st (.tmp 28) (.tmp 26) 1)]) (.sq (.rg [.t 29 0, .t 30 0, .o 31 (.nc (.tmp 30)), .o 32 (.fa (.tmp 31) 9), .o 33 (.ld (.tmp 32) none), .o 34 (.cl 101 [.tmp 33]), .t 35 1, .o 36 (.ap 5 1 1 [(1, .int .u8 0)] (.tmp 34) (.tmp 35)), .o 37 (.nc (.tmp 29)), .o 38 (.fa (.tmp 37) 9), .e (.st (.tmp 38) (.tmp 36) 1)]) (.sq (.bk 0 (.lp (.sq (.sq (.rg [.t 39 0, .o 40 (.nc (.tmp 39)), .o 41 (.fa (.tmp 40) 9), .o 42 (.ld (.tmp 41) none), .o 43 (.ln false (.tmp 42)), .o 44 (.cm .geq (.tmp 43) (.const (.int .i64 64)))]) (.cd (.tmp 44) (.sk) (.xt 0))) (.bk 1 (.sq (.rg [.o 5 (.al [(64, .int .u8 0)] 179)]) (.sq (.dr [.o 45 (.sp (.tmp 5) none none 64 1), .t 46 0, .o 47 (.nc (.tmp 46)), .o 48 (.fa (.tmp 47) 9), .o 49 (.ld (.tmp 48) none), .o 50 (.cp 1 (.tmp 45) (.tmp 49))] [0, 0, 2, 6, 14, 31] (.q 0 (.q 1 (.q 2 (.q 3 (.q 4 (.e 5 [] (.fin)))))))) (.sq (.dr [.t 51 0, .t 52 0, .o 53 (.nc (.tmp 52)), .o 54 (.fa (.tmp 53) 1), .o 55 (.ld (.tmp 54) (some 8)), .o 56 (.ld (.tmp 5) (some 64)), .o 57 (.cl 102 [.tmp 55, .tmp 56]), .o 58 (.nc (.tmp 51)), .o 59 (.fa (.tmp 58) 1), .e (.st (.tmp 59) (.tmp 57) 8)] [0, 0, 2, 6, 14, 0, 62, 127, 255, 511] (.q 0 (.q 1 (.q 2 (.q 3 (.q 4 (.q 5 (.e 6 [] (.q 7 (.q 8 (.e 9 [] (.fin)))))))))))) (.rg [.t 60 0, .t 61 0, .o 62 (.nc (.tmp 61)), .o 63 (.fa (.tmp 62) 9), .o 64 (.ld (.tmp 63) none), .o 65 (.sl (.tmp 64) (some (.const (.int .i64 64))) none none 1), .o 66 (.nc (.tmp 60)), .o 67 (.fa (.tmp 66) 9), .e (.st (.tmp 67) (.tmp 65) 1)])))))))) (.sq (.rg [.t 68 0, .t 4 68]) (.rt)))))))
theorem k54 : Tryz.f54.body.any (fun c => chkC Tryz.prog c m54 && allD (dlt 69) m54) = true := by kernel_rfl
def m55 : MC := .sq (.rg [.o 2 (.al [(32, .int .u8 0)] 46)]) (.sq (.rg [.o 3 (.al [(1, .bool false), (8, .int .u32 0), (1, .slice none 0 0), (1, .int .i64 0)] 110)]) (.sq (.sq (.rg [.t 10 0, .o 11 (.pn .neq (.tmp 10))]) (.cd (.tmp 11) (.sq (.rg [.t 12 0, .o 13 (.nc (.tmp 12)), .o 14 (.ld (.tmp 13) (some 11)), .e (.st (.tmp 3) (.tmp 14) 11)]) (.rg [.t 15 0, .o 16 (.nc (.tmp 15)), .o 17 (.fa (.tmp 16) 9), .o 18 (.ld (.tmp 17) none), .o 19 (.cl 103 [.tmp 18]), .o 20 (.fa (.tmp 3) 9), .e (.st (.tmp 20) (.tmp 19) 1)])) (.sk))) (.sq (.rg [.o 21 (.fa (.tmp 3) 10), .o 22 (.ld (.tmp 21) none), .o 23 (.ci .u64 (.tmp 22)), .o 24 (.ar .mul .u64 (.tmp 23) (.const (.int .u64 8)) false), .t 4 24]) (.sq (.rg [.o 25 (.fa (.tmp 3) 10), .o 26 (.ld (.tmp 25) none), .o 27 (.dv .rem .i64 (.tmp 26) (.const (.int .i64 64))), .o 28 (.ar .sub .i64 (.const (.int .i64 119)) (.tmp 27) true), .o 29 (.dv .rem .i64 (.tmp 28) (.const (.int .i64 64))), .o 30 (.ar .add .i64 (.const (.int .i64 1)) (.tmp 29) true), .o 31 (.ms 5 1 1 [(1, .int .u8 0)] (.tmp 30) (.tmp 30)), .t 5 31]) (.sq (.rg [.t 32 5, .o 33 (.ias (.tmp 32) (.const (.int .i64 0)) 1), .e (.st (.tmp 33) (.const (.int .u8 128)) 1)]) (.sq (.sq (.rg [.c 6 (.int .i64 56)]) (.bk 0 (.lp (.sq (.sq (.rg [.t 34 6, .o 35 (.cm .geq (.tmp 34) (.const (.int .i64 0)))]) (.cd (.tmp 35) (.sk) (.xt 0))) (.sq (.bk 1 (.rg [.t 38 5, .t 39 4, .t 40 6, .o 41 (.sh .shr .u64 (.tmp 39) (.tmp 40)), .o 42 (.ci .u8 (.tmp 41)), .o 43 (.bl 5 1 [.tmp 42]), .o 44 (.ap 5 1 1 [(1, .int .u8 0)] (.tmp 38) (.tmp 43)), .t 5 44])) (.rg [.t 36 6, .o 37 (.ar .sub .i64 (.tmp 36) (.const (.int .i64 8)) true), .t 6 37])))))) (.sq (.rg [.t 45 5, .o 46 (.cl 54 [.tmp 3, .tmp 45])]) (.sq (.rg [.o 7 (.al [(32, .int .u8 0)] 46)]) (.sq (.sq (.rg [.o 47 (.fa (.tmp 3) 1), .o 48 (.ld (.tmp 47) (some 8)), .c 49 (.int .i64 0)]) (.bk 2 (.lp (.sq (.rg [.o 50 (.cm .lss (.tmp 49) (.const (.int .i64 8)))]) (.sq (.cd (.tmp 50) (.sk) (.xt 2)) (.sq (.bk 3 (.sq (.rg [.t 51 49, .o 52 (.ixa (.tmp 48) (.tmp 49) 8 1 none), .t 8 51, .t 9 52]) (.rg [.t 53 8, .o 54 (.ar .mul .i64 (.const (.int .i64 4)) (.tmp 53) true), .o 55 (.sp (.tmp 7) (some (.tmp 54)) none 32 1), .t 56 9, .o 57 (.sh .shr .u32 (.tmp 56) (.const (.int .u64 24))), .o 58 (.ci .u8 (.tmp 57)), .t 59 9, .o 60 (.sh .shr .u32 (.tmp 59) (.const (.int .u64 16))), .o 61 (.ci .u8 (.tmp 60)), .t 62 9, .o 63 (.sh .shr .u32 (.tmp 62) (.const (.int .u64 8))), .o 64 (.ci .u8 (.tmp 63)), .t 65 9, .o 66 (.ci .u8 (.tmp 65)), .o 67 (.bl 5 1 [.tmp 58, .tmp 61, .tmp 64, .tmp 66]), .o 68 (.cp 1 (.tmp 55) (.tmp 67))]))) (.rg [.o 69 (.ar .add .i64 (.tmp 49) (.const (.int .i64 1)) true), .t 49 69]))))))) (.sq (.rg [.o 70 (.ld (.tmp 7) (some 32)), .e (.st (.tmp 2) (.tmp 70) 32)]) (.rt)))))))))))
theorem k55 : Tryz.f55.body.any (fun c => chkC Tryz.prog c m55 && allD (dlt 71) m55) = true := by kernel_rfl
def m102u0 : MC := .sq (.rg [.t 6 18]) (.rg [.t 7 19])
def m102v0 : MC := .bk 1 (.sq (.dr [.o 20 (.iaa (.tmp 5) (.const (.int .i64 0)) 8 1), .o 21 (.ld (.tmp 20) none), .o 22 (.iaa (.tmp 5) (.const (.int .i64 4)) 8 1), .o 23 (.ld (.tmp 22) none), .t 8 21, .t 9 23] [0, 1, 0, 4, 3, 31] (.q 0 (.q 1 (.q 2 (.q 3 (.q 4 (.q 5 (.fin)))))))) (.sq (.rg [.t 24 9, .o 25 (.cl 153 [.tmp 24, .const (.int .i64 (-6))]), .t 26 9, .o 27 (.cl 153 [.tmp 26, .const (.int .i64 (-11))]), .o 28 (.bt .xor .u32 (.tmp 25) (.tmp 27)), .t 29 9, .o 30 (.cl 153 [.tmp 29, .const (.int .i64 (-25))]), .o 31 (.bt .xor .u32 (.tmp 28) (.tmp 30)), .t 10 31]) (.sq (.dr [.o 32 (.iaa (.tmp 5) (.const (.int .i64 7)) 8 1), .o 33 (.ld (.tmp 32) none), .t 34 10, .o 35 (.ar .add .u32 (.tmp 33) (.tmp 34) false), .t 36 9, .o 37 (.iaa (.tmp 5) (.const (.int .i64 5)) 8 1), .o 38 (.ld (.tmp 37) none), .o 39 (.bt .and .u32 (.tmp 36) (.tmp 38)), .t 40 9, .o 41 (.un .u32 (.tmp 40)), .o 42 (.iaa (.tmp 5) (.const (.int .i64 6)) 8 1), .o 43 (.ld (.tmp 42) none), .o 44 (.bt .and .u32 (.tmp 41) (.tmp 43)), .o 45 (.bt .xor .u32 (.tmp 39) (.tmp 44)), .o 46 (.ar .add .u32 (.tmp 35) (.tmp 45) false), .t 47 6, .o 48 (.iaa (.global 1) (.tmp 47) 64 1), .o 49 (.ld (.tmp 48) none), .o 50 (.ar .add .u32 (.tmp 46) (.tmp 49) false), .t 51 7, .o 52 (.ar .add .u32 (.tmp 50) (.tmp 51) false), .t 11 52] [0, 1, 0, 7, 0, 0, 32, 112, 0, 256, 0, 1024, 3840, 8176, 16383, 0, 32768, 98304, 262143, 0, 1048575, 2097151] (.q 0 (.q 1 (.q 2 (.q 3 (.q 4 (.q 5 (.q 6 (.q 7 (.q 8 (.q 9 (.q 10 (.q 11 (.q 12 (.q 13 (.q 14 (.q 15 (.q 16 (.q 17 (.q 18 (.q 19 (.q 20 (.q 21 (.fin)))))))))))))))))))))))) (.sq (.rg [.t 53 8, .o 54 (.cl 153 [.tmp 53, .const (.int .i64 (-2))]), .t 55 8, .o 56 (.cl 153 [.tmp 55, .const (.int .i64 (-13))]), .o 57 (.bt .xor .u32 (.tmp 54) (.tmp 56)), .t 58 8, .o 59 (.cl 153 [.tmp 58, .const (.int .i64 (-22))]), .o 60 (.bt .xor .u32 (.tmp 57) (.tmp 59)), .t 12 60]) (.sq (.rg [.t 61 12, .t 62 8, .o 63 (.iaa (.tmp 5) (.const (.int .i64 1)) 8 1), .o 64 (.ld (.tmp 63) none), .o 65 (.bt .and .u32 (.tmp 62) (.tmp 64)), .t 66 8, .o 67 (.iaa (.tmp 5) (.const (.int .i64 2)) 8 1), .o 68 (.ld (.tmp 67) none), .o 69 (.bt .and .u32 (.tmp 66) (.tmp 68)), .o 70 (.bt .xor .u32 (.tmp 65) (.tmp 69)), .o 71 (.iaa (.tmp 5) (.const (.int .i64 1)) 8 1), .o 72 (.ld (.tmp 71) none), .o 73 (.iaa (.tmp 5) (.const (.int .i64 2)) 8 1), .o 74 (.ld (.tmp 73) none), .o 75 (.bt .and .u32 (.tmp 72) (.tmp 74)), .o 76 (.bt .xor .u32 (.tmp 70) (.tmp 75)), .o 77 (.ar .add .u32 (.tmp 61) (.tmp 76) false), .t 13 77]) (.rg [.t 78 11, .t 79 13, .o 80 (.ar .add .u32 (.tmp 78) (.tmp 79) false), .t 81 8, .o 82 (.iaa (.tmp 5) (.const (.int .i64 1)) 8 1), .o 83 (.ld (.tmp 82) none), .o 84 (.iaa (.tmp 5) (.const (.int .i64 2)) 8 1), .o 85 (.ld (.tmp 84) none), .o 86 (.iaa (.tmp 5) (.const (.int .i64 3)) 8 1), .o 87 (.ld (.tmp 86) none), .t 88 11, .o 89 (.ar .add .u32 (.tmp 87) (.tmp 88) false), .t 90 9, .o 91 (.iaa (.tmp 5) (.const (.int .i64 5)) 8 1), .o 92 (.ld (.tmp 91) none), .o 93 (.iaa (.tmp 5) (.const (.int .i64 6)) 8 1), .o 94 (.ld (.tmp 93) none), .o 95 (.bd [(8, .int .u32 0)] [(0, 1, .tmp 80), (1, 1, .tmp 81), (2, 1, .tmp 83), (3, 1, .tmp 85), (4, 1, .tmp 89), (5, 1, .tmp 90), (6, 1, .tmp 92), (7, 1, .tmp 94)]), .e (.st (.tmp 5) (.tmp 95) 8)]))))))
def m102 : MC := .sq (.rg [.o 2 (.bx 108 (.tmp 0)), .o 3 (.bx 179 (.tmp 1)), .o 4 (.al [(8, .int .u32 0)] 108)]) (.sq (.rg [.o 15 (.ld (.tmp 2) (some 8)), .o 5 (.al [(8, .int .u32 0)] 108), .e (.st (.tmp 5) (.tmp 15) 8)]) (.sq (.sq (.rg [.o 16 (.ld (.tmp 3) (some 64)), .o 17 (.cl 152 [.tmp 16])]) (.bk 0 (.rf (.tmp 17) [18, 19] m102u0 m102v0))) (.sq (.sq (.rg [.c 96 (.int .i64 0)]) (.bk 2 (.lp (.sq (.rg [.o 97 (.cm .lss (.tmp 96) (.const (.int .i64 8)))]) (.sq (.cd (.tmp 97) (.sk) (.xt 2)) (.sq (.bk 3 (.sq (.rg [.t 98 96, .t 14 98]) (.dr [.t 99 14, .o 100 (.iaa (.tmp 5) (.tmp 99) 8 1), .o 101 (.ld (.tmp 100) none), .t 102 14, .o 103 (.iaa (.tmp 2) (.tmp 102) 8 1), .o 104 (.ld (.tmp 103) none), .o 105 (.ar .add .u32 (.tmp 101) (.tmp 104) false), .o 106 (.iaa (.tmp 5) (.tmp 99) 8 1), .e (.st (.tmp 106) (.tmp 105) 1)] [0, 1, 3, 0, 8, 24, 63, 127, 255] (.q 0 (.q 1 (.q 2 (.q 3 (.q 4 (.q 5 (.q 6 (.q 7 (.e 8 [] (.fin))))))))))))) (.rg [.o 107 (.ar .add .i64 (.tmp 96) (.const (.int .i64 1)) true), .t 96 107]))))))) (.sq (.rg [.o 108 (.ld (.tmp 5) (some 8)), .e (.st (.tmp 4) (.tmp 108) 8)]) (.rt)))))
theorem k102 : Tryz.f102.body.any (fun c => chkC Tryz.prog c m102 && allD (dlt 109) m102) = true := by kernel_rfl
def m152 : MC := .sq (.rg [.o 1 (.bx 179 (.tmp 0)), .c 2 (.nilFunc)]) (.sq (.rg [.o 3 (.mf 178 [] [.tmp 1]), .t 2 3]) (.rt))
theorem k152 : Tryz.f152.body.any (fun c => chkC Tryz.prog c m152 && allD (dlt 4) m152) = true := by kernel_rfl
def m178 : MC := .sc (.sq (.rg [.o 3 (.al [(64, .int .u32 0)] 236)]) (.sq (.lb 0) (.sq (.rg [.c 9 (.int .i64 0)]) (.bk 0 (.lp (.sq (.rg [.o 10 (.cm .lss (.tmp 9) (.const (.int .i64 64)))]) (.sq (.cd (.tmp 10) (.sk) (.xt 0)) (.sq (.bk 1 (.sq (.rg [.t 11 9, .t 4 11]) (.sq (.sq (.rg [.t 12 4, .o 13 (.cm .lss (.tmp 12) (.const (.int .i64 16)))]) (.cd (.tmp 13) (.dr [.t 14 4, .t 15 4, .o 16 (.ar .mul .i64 (.const (.int .i64 4)) (.tmp 15) true), .o 17 (.iaa (.tmp 1) (.tmp 16) 64 1), .o 18 (.ld (.tmp 17) none), .o 19 (.ci .u32 (.tmp 18)), .o 20 (.sh .shl .u32 (.tmp 19) (.const (.int .u64 24))), .t 21 4, .o 22 (.ar .mul .i64 (.const (.int .i64 4)) (.tmp 21) true), .o 23 (.ar .add .i64 (.tmp 22) (.const (.int .i64 1)) true), .o 24 (.iaa (.tmp 1) (.tmp 23) 64 1), .o 25 (.ld (.tmp 24) none), .o 26 (.ci .u32 (.tmp 25)), .o 27 (.sh .shl .u32 (.tmp 26) (.const (.int .u64 16))), .o 28 (.bt .or .u32 (.tmp 20) (.tmp 27)), .t 29 4, .o 30 (.ar .mul .i64 (.const (.int .i64 4)) (.tmp 29) true), .o 31 (.ar .add .i64 (.tmp 30) (.const (.int .i64 2)) true), .o 32 (.iaa (.tmp 1) (.tmp 31) 64 1), .o 33 (.ld (.tmp 32) none), .o 34 (.ci .u32 (.tmp 33)), .o 35 (.sh .shl .u32 (.tmp 34) (.const (.int .u64 8))), .o 36 (.bt .or .u32 (.tmp 28) (.tmp 35)), .t 37 4, .o 38 (.ar .mul .i64 (.const (.int .i64 4)) (.tmp 37) true), .o 39 (.ar .add .i64 (.tmp 38) (.const (.int .i64 3)) true), .o 40 (.iaa (.tmp 1) (.tmp 39) 64 1), .o 41 (.ld (.tmp 40) none), .o 42 (.ci .u32 (.tmp 41)), .o 43 (.bt .or .u32 (.tmp 36) (.tmp 42)), .o 44 (.iaa (.tmp 3) (.tmp 14) 64 1), .e (.st (.tmp 44) (.tmp 43) 1)] [0, 0, 2, 6, 14, 30, 62, 0, 128, 384, 896, 1920, 3968, 8064, 16382, 0, 32768, 98304, 229376, 491520, 1015808, 2064384, 4194302, 0, 8388608, 25165824, 58720256, 125829120, 260046848, 536870910, 1073741823, 2147483647] (.q 0 (.q 1 (.q 2 (.q 3 (.q 4 (.q 5 (.q 6 (.q 7 (.q 8 (.q 9 (.q 10 (.q 11 (.q 12 (.q 13 (.q 14 (.q 15 (.q 16 (.q 17 (.q 18 (.q 19 (.q 20 (.q 21 (.q 22 (.q 23 (.q 24 (.q 25 (.q 26 (.q 27 (.q 28 (.q 29 (.q 30 (.e 31 [] (.fin)))))))))))))))))))))))))))))))))) (.sq (.dr [.t 45 4, .o 46 (.ar .sub .i64 (.tmp 45) (.const (.int .i64 15)) true), .o 47 (.iaa (.tmp 3) (.tmp 46) 64 1), .o 48 (.ld (.tmp 47) none), .t 49 4, .o 50 (.ar .sub .i64 (.tmp 49) (.const (.int .i64 2)) true), .o 51 (.iaa (.tmp 3) (.tmp 50) 64 1), .o 52 (.ld (.tmp 51) none), .t 5 48, .t 6 52] [0, 1, 3, 7, 0, 16, 48, 112, 15, 511] (.q 0 (.q 1 (.q 2 (.q 3 (.q 4 (.q 5 (.q 6 (.q 7 (.q 8 (.q 9 (.fin)))))))))))) (.sq (.rg [.t 53 5, .o 54 (.cl 153 [.tmp 53, .const (.int .i64 (-7))]), .t 55 5, .o 56 (.cl 153 [.tmp 55, .const (.int .i64 (-18))]), .o 57 (.bt .xor .u32 (.tmp 54) (.tmp 56)), .t 58 5, .o 59 (.sh .shr .u32 (.tmp 58) (.const (.int .u64 3))), .o 60 (.bt .xor .u32 (.tmp 57) (.tmp 59)), .t 7 60]) (.sq (.rg [.t 61 6, .o 62 (.cl 153 [.tmp 61, .const (.int .i64 (-17))]), .t 63 6, .o 64 (.cl 153 [.tmp 63, .const (.int .i64 (-19))]), .o 65 (.bt .xor .u32 (.tmp 62) (.tmp 64)), .t 66 6, .o 67 (.sh .shr .u32 (.tmp 66) (.const (.int .u64 10))), .o 68 (.bt .xor .u32 (.tmp 65) (.tmp 67)), .t 8 68]) (.dr [.t 69 4, .t 70 4, .o 71 (.ar .sub .i64 (.tmp 70) (.const (.int .i64 16)) true), .o 72 (.iaa (.tmp 3) (.tmp 71) 64 1), .o 73 (.ld (.tmp 72) none), .t 74 7, .o 75 (.ar .add .u32 (.tmp 73) (.tmp 74) false), .t 76 4, .o 77 (.ar .sub .i64 (.tmp 76) (.const (.int .i64 7)) true), .o 78 (.iaa (.tmp 3) (.tmp 77) 64 1), .o 79 (.ld (.tmp 78) none), .o 80 (.ar .add .u32 (.tmp 75) (.tmp 79) false), .t 81 8, .o 82 (.ar .add .u32 (.tmp 80) (.tmp 81) false), .o 83 (.iaa (.tmp 3) (.tmp 69) 64 1), .e (.st (.tmp 83) (.tmp 82) 1)] [0, 0, 2, 6, 14, 0, 62, 0, 128, 384, 896, 2046, 0, 8190, 16383, 32767] (.q 0 (.q 1 (.q 2 (.q 3 (.q 4 (.q 5 (.q 6 (.q 7 (.q 8 (.q 9 (.q 10 (.q 11 (.q 12 (.q 13 (.q 14 (.e 15 [] (.fin))))))))))))))))))))))) (.sq (.rg [.t 84 0, .t 85 4, .t 86 4, .o 87 (.iaa (.tmp 3) (.tmp 86) 64 1), .o 88 (.ld (.tmp 87) none), .o 89 (.cv (.tmp 84) [.tmp 85, .tmp 88]), .o 90 (.nt (.tmp 89))]) (.cd (.tmp 90) (.xt 0) (.sk)))))) (.rg [.o 91 (.ar .add .i64 (.tmp 9) (.const (.int .i64 1)) true), .t 9 91])))))))))
theorem k178 : Tryz.f178.body.any (fun c => chkC Tryz.prog c m178 && allD (dlt 92) m178) = true := by kernel_rfl
def m153 : MC := .sq (.rg [.c 4 (.int .u32 0)]) (.sq (.rg [.t 6 1, .o 7 (.ci .u64 (.tmp 6)), .o 8 (.bt .and .u64 (.tmp 7) (.const (.int .u64 31))), .t 5 8]) (.sq (.rg [.t 9 0, .t 10 5, .o 11 (.sh .shl .u32 (.tmp 9) (.tmp 10)), .t 12 0, .t 13 5, .o 14 (.ar .sub .u64 (.const (.int .u64 32)) (.tmp 13) false), .o 15 (.sh .shr .u32 (.tmp 12) (.tmp 14)), .o 16 (.bt .or .u32 (.tmp 11) (.tmp 15)), .t 4 16]) (.rt)))
theorem k153 : Tryz.f153.body.any (fun c => chkC Tryz.prog c m153 && allD (dlt 17) m153) = true := by kernel_rfl
def m101 : MC := .sq (.rg [.c 2 (.slice none 0 0)]) (.sq (.rg [.t 3 0, .t 4 0, .o 5 (.ln false (.tmp 4)), .t 6 0, .o 7 (.ln false (.tmp 6)), .o 8 (.sl (.tmp 3) none (some (.tmp 5)) (some (.tmp 7)) 1), .t 2 8]) (.rt))
theorem k101 : Tryz.f101.body.any (fun c => chkC Tryz.prog c m101 && allD (dlt 9) m101) = true := by kernel_rfl
def m103 : MC := .sq (.rg [.c 2 (.slice none 0 0)]) (.sq (.sq (.rg [.t 3 0, .o 4 (.sn .eql (.tmp 3))]) (.cd (.tmp 4) (.sq (.rg [.c 2 (.slice none 0 0)]) (.rt)) (.sk))) (.sq (.rg [.o 5 (.bl 5 1 []), .t 6 0, .o 7 (.ap 5 1 1 [(1, .int .u8 0)] (.tmp 5) (.tmp 6)), .t 2 7]) (.rt)))
theorem k103 : Tryz.f103.body.any (fun c => chkC Tryz.prog c m103 && allD (dlt 8) m103) = true := by kernel_rfl
def m31 : MC := .sq (.rg [.o 2 (.al [(32, .int .u8 0)] 46)]) (.sq (.rg [.o 9 (.bl 107 1 [.const (.int .u32 1779033703), .const (.int .u32 3144134277), .const (.int .u32 1013904242), .const (.int .u32 2773480762), .const (.int .u32 1359893119), .const (.int .u32 2600822924), .const (.int .u32 528734635), .const (.int .u32 1541459225)]), .t 3 9]) (.sq (.rg [.t 10 0, .o 11 (.cl 58 [.tmp 10]), .t 4 11]) (.sq (.rg [.o 12 (.cl 59 []), .t 5 12]) (.sq (.sq (.rg [.c 6 (.int .i64 0)]) (.bk 0 (.lp (.sq (.sq (.rg [.t 13 6, .t 14 4, .o 15 (.ln false (.tmp 14)), .o 16 (.cm .lss (.tmp 13) (.tmp 15))]) (.cd (.tmp 16) (.sk) (.xt 0))) (.sq (.bk 1 (.rg [.t 19 3, .t 20 4, .t 21 6, .t 22 6, .o 23 (.ar .add .i64 (.tmp 22) (.const (.int .i64 64)) true), .o 24 (.sl (.tmp 20) (some (.tmp 21)) (some (.tmp 23)) none 1), .t 25 5, .o 26 (.cl 60 [.tmp 19, .tmp 24, .tmp 25]), .t 3 26])) (.rg [.t 17 6, .o 18 (.ar .add .i64 (.tmp 17) (.const (.int .i64 64)) true), .t 6 18])))))) (.sq (.rg [.o 27 (.bd [(32, .int .u8 0)] []), .o 7 (.al [(32, .int .u8 0)] 46), .e (.st (.tmp 7) (.tmp 27) 32)]) (.sq (.sq (.rg [.c 8 (.int .i64 0)]) (.bk 2 (.lp (.sq (.sq (.rg [.t 28 8, .o 29 (.cm .lss (.tmp 28) (.const (.int .i64 32)))]) (.cd (.tmp 29) (.sk) (.xt 2))) (.sq (.bk 3 (.rg [.t 32 8, .t 33 3, .t 34 8, .o 35 (.dv .quo .i64 (.tmp 34) (.const (.int .i64 4))), .o 36 (.ias (.tmp 33) (.tmp 35) 1), .o 37 (.ld (.tmp 36) none), .t 38 8, .o 39 (.dv .rem .i64 (.tmp 38) (.const (.int .i64 4))), .o 40 (.ar .mul .i64 (.const (.int .i64 8)) (.tmp 39) true), .o 41 (.ar .sub .i64 (.const (.int .i64 24)) (.tmp 40) true), .o 42 (.ci .u64 (.tmp 41)), .o 43 (.sh .shr .u32 (.tmp 37) (.tmp 42)), .o 44 (.ci .u8 (.tmp 43)), .o 45 (.iaa (.tmp 7) (.tmp 32) 32 1), .e (.st (.tmp 45) (.tmp 44) 1)])) (.rg [.t 30 8, .o 31 (.ar .add .i64 (.tmp 30) (.const (.int .i64 1)) true), .t 8 31])))))) (.sq (.rg [.o 46 (.ld (.tmp 7) (some 32)), .e (.st (.tmp 2) (.tmp 46) 32)]) (.rt))))))))
theorem k31 : Tryz.f31.body.any (fun c => chkC Tryz.prog c m31 && allD (dlt 47) m31) = true := by kernel_rfl
def m58 : MC := .sq (.rg [.c 2 (.slice none 0 0)]) (.sq (.rg [.c 3 (.slice none 0 0)]) (.sq (.rg [.t 6 3, .t 7 0, .o 8 (.ap 5 1 1 [(1, .int .u8 0)] (.tmp 6) (.tmp 7)), .o 9 (.bl 5 1 [.const (.int .u8 128)]), .o 10 (.ap 5 1 1 [(1, .int .u8 0)] (.tmp 8) (.tmp 9)), .t 3 10]) (.sq (.bk 0 (.lp (.sq (.sq (.rg [.t 11 3, .o 12 (.ln false (.tmp 11)), .o 13 (.dv .rem .i64 (.tmp 12) (.const (.int .i64 64))), .o 14 (.cm .neq (.tmp 13) (.const (.int .i64 56)))]) (.cd (.tmp 14) (.sk) (.xt 0))) (.bk 1 (.rg [.t 15 3, .o 16 (.bl 5 1 [.const (.int .u8 0)]), .o 17 (.ap 5 1 1 [(1, .int .u8 0)] (.tmp 15) (.tmp 16)), .t 3 17]))))) (.sq (.rg [.t 18 0, .o 19 (.ln false (.tmp 18)), .o 20 (.ci .u64 (.tmp 19)), .o 21 (.ar .mul .u64 (.const (.int .u64 8)) (.tmp 20) false), .t 4 21]) (.sq (.sq (.rg [.c 5 (.int .i64 7)]) (.bk 2 (.lp (.sq (.sq (.rg [.t 22 5, .o 23 (.cm .geq (.tmp 22) (.const (.int .i64 0)))]) (.cd (.tmp 23) (.sk) (.xt 2))) (.sq (.bk 3 (.rg [.t 26 3, .t 27 4, .t 28 5, .o 29 (.ar .mul .i64 (.const (.int .i64 8)) (.tmp 28) true), .o 30 (.ci .u64 (.tmp 29)), .o 31 (.sh .shr .u64 (.tmp 27) (.tmp 30)), .o 32 (.ci .u8 (.tmp 31)), .o 33 (.bl 5 1 [.tmp 32]), .o 34 (.ap 5 1 1 [(1, .int .u8 0)] (.tmp 26) (.tmp 33)), .t 3 34])) (.rg [.t 24 5, .o 25 (.ar .sub .i64 (.tmp 24) (.const (.int .i64 1)) true), .t 5 25])))))) (.sq (.rg [.t 35 3, .t 2 35]) (.rt)))))))
theorem k58 : Tryz.f58.body.any (fun c => chkC Tryz.prog c m58 && allD (dlt 36) m58) = true := by kernel_rfl
def m59 : MC := .sq (.rg [.c 0 (.slice none 0 0)]) (.sq (.rg [.o 1 (.bl 107 1 [.const (.int .u32 1116352408), .const (.int .u32 1899447441), .const (.int .u32 3049323471), .const (.int .u32 3921009573), .const (.int .u32 961987163), .const (.int .u32 1508970993), .const (.int .u32 2453635748), .const (.int .u32 2870763221), .const (.int .u32 3624381080), .const (.int .u32 310598401), .const (.int .u32 607225278), .const (.int .u32 1426881987), .const (.int .u32 1925078388), .const (.int .u32 2162078206), .const (.int .u32 2614888103), .const (.int .u32 3248222580), .const (.int .u32 3835390401), .const (.int .u32 4022224774), .const (.int .u32 264347078), .const (.int .u32 604807628), .const (.int .u32 770255983), .const (.int .u32 1249150122), .const (.int .u32 1555081692), .const (.int .u32 1996064986), .const (.int .u32 2554220882), .const (.int .u32 2821834349), .const (.int .u32 2952996808), .const (.int .u32 3210313671), .const (.int .u32 3336571891), .const (.int .u32 3584528711), .const (.int .u32 113926993), .const (.int .u32 338241895), .const (.int .u32 666307205), .const (.int .u32 773529912), .const (.int .u32 1294757372), .const (.int .u32 1396182291), .const (.int .u32 1695183700), .const (.int .u32 1986661051), .const (.int .u32 2177026350), .const (.int .u32 2456956037), .const (.int .u32 2730485921), .const (.int .u32 2820302411), .const (.int .u32 3259730800), .const (.int .u32 3345764771), .const (.int .u32 3516065817), .const (.int .u32 3600352804), .const (.int .u32 4094571909), .const (.int .u32 275423344), .const (.int .u32 430227734), .const (.int .u32 506948616), .const (.int .u32 659060556), .const (.int .u32 883997877), .const (.int .u32 958139571), .const (.int .u32 1322822218), .const (.int .u32 1537002063), .const (.int .u32 1747873779), .const (.int .u32 1955562222), .const (.int .u32 2024104815), .const (.int .u32 2227730452), .const (.int .u32 2361852424), .const (.int .u32 2428436474), .const (.int .u32 2756734187), .const (.int .u32 3204031479), .const (.int .u32 3329325298)]), .t 0 1]) (.rt))
theorem k59 : Tryz.f59.body.any (fun c => chkC Tryz.prog c m59 && allD (dlt 2) m59) = true := by kernel_rfl
def m60 : MC := .sq (.rg [.c 6 (.slice none 0 0)]) (.sq (.rg [.o 23 (.ms 107 1 4 [(1, .int .u32 0)] (.const (.int .i64 64)) (.const (.int .i64 64))), .t 7 23]) (.sq (.sq (.rg [.c 8 (.int .i64 0)]) (.bk 0 (.lp (.sq (.sq (.rg [.t 24 8, .o 25 (.cm .lss (.tmp 24) (.const (.int .i64 16)))]) (.cd (.tmp 25) (.sk) (.xt 0))) (.sq (.bk 1 (.dr [.t 28 7, .t 29 8, .t 30 1, .t 31 8, .o 32 (.ar .mul .i64 (.const (.int .i64 4)) (.tmp 31) true), .o 33 (.ias (.tmp 30) (.tmp 32) 1), .o 34 (.ld (.tmp 33) none), .o 35 (.ci .u32 (.tmp 34)), .o 36 (.ar .mul .u32 (.tmp 35) (.const (.int .u32 16777216)) false), .t 37 1, .t 38 8, .o 39 (.ar .mul .i64 (.const (.int .i64 4)) (.tmp 38) true), .o 40 (.ar .add .i64 (.tmp 39) (.const (.int .i64 1)) true), .o 41 (.ias (.tmp 37) (.tmp 40) 1), .o 42 (.ld (.tmp 41) none), .o 43 (.ci .u32 (.tmp 42)), .o 44 (.ar .mul .u32 (.tmp 43) (.const (.int .u32 65536)) false), .o 45 (.ar .add .u32 (.tmp 36) (.tmp 44) false), .t 46 1, .t 47 8, .o 48 (.ar .mul .i64 (.const (.int .i64 4)) (.tmp 47) true), .o 49 (.ar .add .i64 (.tmp 48) (.const (.int .i64 2)) true), .o 50 (.ias (.tmp 46) (.tmp 49) 1), .o 51 (.ld (.tmp 50) none), .o 52 (.ci .u32 (.tmp 51)), .o 53 (.ar .mul .u32 (.tmp 52) (.const (.int .u32 256)) false), .o 54 (.ar .add .u32 (.tmp 45) (.tmp 53) false), .t 55 1, .t 56 8, .o 57 (.ar .mul .i64 (.const (.int .i64 4)) (.tmp 56) true), .o 58 (.ar .add .i64 (.tmp 57) (.const (.int .i64 3)) true), .o 59 (.ias (.tmp 55) (.tmp 58) 1), .o 60 (.ld (.tmp 59) none), .o 61 (.ci .u32 (.tmp 60)), .o 62 (.ar .add .u32 (.tmp 54) (.tmp 61) false), .o 63 (.ias (.tmp 28) (.tmp 29) 1), .e (.st (.tmp 63) (.tmp 62) 1)] [0, 0, 0, 0, 8, 28, 60, 124, 252, 0, 0, 1024, 3072, 7680, 15872, 32256, 65024, 131068, 0, 0, 524288, 1572864, 3932160, 8126464, 16515072, 33292288, 67108860, 0, 0, 268435456, 805306368, 2013265920, 4160749568, 8455716864, 17179869180, 34359738367, 68719476735] (.q 0 (.q 1 (.q 2 (.q 3 (.q 4 (.q 5 (.q 6 (.q 7 (.q 8 (.q 9 (.q 10 (.q 11 (.q 12 (.q 13 (.q 14 (.q 15 (.q 16 (.q 17 (.q 18 (.q 19 (.q 20 (.q 21 (.q 22 (.q 23 (.q 24 (.q 25 (.q 26 (.q 27 (.q 28 (.q 29 (.q 30 (.q 31 (.q 32 (.q 33 (.q 34 (.q 35 (.e 36 [] (.fin)))))))))))))))))))))))))))))))))))))))) (.rg [.t 26 8, .o 27 (.ar .add .i64 (.tmp 26) (.const (.int .i64 1)) true), .t 8 27])))))) (.sq (.sq (.rg [.c 9 (.int .i64 16)]) (.bk 2 (.lp (.sq (.sq (.rg [.t 64 9, .o 65 (.cm .lss (.tmp 64) (.const (.int .i64 64)))]) (.cd (.tmp 65) (.sk) (.xt 2))) (.sq (.bk 3 (.sq (.dr [.t 68 7, .t 69 9, .o 70 (.ar .sub .i64 (.tmp 69) (.const (.int .i64 15)) true), .o 71 (.ias (.tmp 68) (.tmp 70) 1), .o 72 (.ld (.tmp 71) none), .o 73 (.cl 112 [.tmp 72, .const (.int .u64 7)]), .t 74 7, .t 75 9, .o 76 (.ar .sub .i64 (.tmp 75) (.const (.int .i64 15)) true), .o 77 (.ias (.tmp 74) (.tmp 76) 1), .o 78 (.ld (.tmp 77) none), .o 79 (.cl 112 [.tmp 78, .const (.int .u64 18)]), .o 80 (.bt .xor .u32 (.tmp 73) (.tmp 79)), .t 81 7, .t 82 9, .o 83 (.ar .sub .i64 (.tmp 82) (.const (.int .i64 15)) true), .o 84 (.ias (.tmp 81) (.tmp 83) 1), .o 85 (.ld (.tmp 84) none), .o 86 (.sh .shr .u32 (.tmp 85) (.const (.int .u64 3))), .o 87 (.bt .xor .u32 (.tmp 80) (.tmp 86)), .t 10 87] [0, 0, 2, 7, 15, 31, 0, 0, 128, 448, 960, 2047, 4095, 0, 0, 16384, 57344, 122880, 253952, 524287, 1048575] (.q 0 (.q 1 (.q 2 (.q 3 (.q 4 (.q 6 (.q 7 (.q 8 (.q 9 (.q 10 (.q 13 (.q 14 (.q 15 (.q 16 (.q 17 (.q 18 (.e 5 [10, 17] (.e 11 [17] (.q 12 (.q 19 (.q 20 (.fin))))))))))))))))))))))) (.sq (.dr [.t 88 7, .t 89 9, .o 90 (.ar .sub .i64 (.tmp 89) (.const (.int .i64 2)) true), .o 91 (.ias (.tmp 88) (.tmp 90) 1), .o 92 (.ld (.tmp 91) none), .o 93 (.cl 112 [.tmp 92, .const (.int .u64 17)]), .t 94 7, .t 95 9, .o 96 (.ar .sub .i64 (.tmp 95) (.const (.int .i64 2)) true), .o 97 (.ias (.tmp 94) (.tmp 96) 1), .o 98 (.ld (.tmp 97) none), .o 99 (.cl 112 [.tmp 98, .const (.int .u64 19)]), .o 100 (.bt .xor .u32 (.tmp 93) (.tmp 99)), .t 101 7, .t 102 9, .o 103 (.ar .sub .i64 (.tmp 102) (.const (.int .i64 2)) true), .o 104 (.ias (.tmp 101) (.tmp 103) 1), .o 105 (.ld (.tmp 104) none), .o 106 (.sh .shr .u32 (.tmp 105) (.const (.int .u64 10))), .o 107 (.bt .xor .u32 (.tmp 100) (.tmp 106)), .t 11 107] [0, 0, 2, 7, 15, 31, 0, 0, 128, 448, 960, 2047, 4095, 0, 0, 16384, 57344, 122880, 253952, 524287, 1048575] (.q 0 (.q 1 (.q 2 (.q 3 (.q 4 (.q 6 (.q 7 (.q 8 (.q 9 (.q 10 (.q 13 (.q 14 (.q 15 (.q 16 (.q 17 (.q 18 (.e 5 [10, 17] (.e 11 [17] (.q 12 (.q 19 (.q 20 (.fin))))))))))))))))))))))) (.dr [.t 108 7, .t 109 9, .t 110 7, .t 111 9, .o 112 (.ar .sub .i64 (.tmp 111) (.const (.int .i64 16)) true), .o 113 (.ias (.tmp 110) (.tmp 112) 1), .o 114 (.ld (.tmp 113) none), .t 115 10, .o 116 (.ar .add .u32 (.tmp 114) (.tmp 115) false), .t 117 7, .t 118 9, .o 119 (.ar .sub .i64 (.tmp 118) (.const (.int .i64 7)) true), .o 120 (.ias (.tmp 117) (.tmp 119) 1), .o 121 (.ld (.tmp 120) none), .o 122 (.ar .add .u32 (.tmp 116) (.tmp 121) false), .t 123 11, .o 124 (.ar .add .u32 (.tmp 122) (.tmp 123) false), .o 125 (.ias (.tmp 108) (.tmp 109) 1), .e (.st (.tmp 125) (.tmp 124) 1)] [0, 0, 0, 0, 8, 28, 60, 0, 252, 0, 0, 1024, 3584, 7680, 16380, 0, 65532, 131071, 262143] (.q 0 (.q 1 (.q 2 (.q 3 (.q 4 (.q 5 (.q 6 (.q 7 (.q 8 (.q 9 (.q 10 (.q 11 (.q 12 (.q 13 (.q 14 (.q 15 (.q 16 (.q 17 (.e 18 [] (.fin)))))))))))))))))))))))) (.rg [.t 66 9, .o 67 (.ar .add .i64 (.tmp 66) (.const (.int .i64 1)) true), .t 9 67])))))) (.sq (.dr [.t 126 0, .o 127 (.ias (.tmp 126) (.const (.int .i64 0)) 1), .o 128 (.ld (.tmp 127) none), .t 129 0, .o 130 (.ias (.tmp 129) (.const (.int .i64 1)) 1), .o 131 (.ld (.tmp 130) none), .t 132 0, .o 133 (.ias (.tmp 132) (.const (.int .i64 2)) 1), .o 134 (.ld (.tmp 133) none), .t 135 0, .o 136 (.ias (.tmp 135) (.const (.int .i64 3)) 1), .o 137 (.ld (.tmp 136) none), .t 12 128, .t 13 131, .t 14 134, .t 15 137] [0, 1, 3, 0, 8, 24, 0, 64, 192, 0, 512, 1536, 7, 4159, 12799, 32767] (.q 0 (.q 1 (.q 2 (.q 3 (.q 4 (.q 5 (.q 6 (.q 7 (.q 8 (.q 9 (.q 10 (.q 11 (.q 12 (.q 13 (.q 14 (.q 15 (.fin)))))))))))))))))) (.sq (.dr [.t 138 0, .o 139 (.ias (.tmp 138) (.const (.int .i64 4)) 1), .o 140 (.ld (.tmp 139) none), .t 141 0, .o 142 (.ias (.tmp 141) (.const (.int .i64 5)) 1), .o 143 (.ld (.tmp 142) none), .t 144 0, .o 145 (.ias (.tmp 144) (.const (.int .i64 6)) 1), .o 146 (.ld (.tmp 145) none), .t 147 0, .o 148 (.ias (.tmp 147) (.const (.int .i64 7)) 1), .o 149 (.ld (.tmp 148) none), .t 16 140, .t 17 143, .t 18 146, .t 19 149] [0, 1, 3, 0, 8, 24, 0, 64, 192, 0, 512, 1536, 7, 4159, 12799, 32767] (.q 0 (.q 1 (.q 2 (.q 3 (.q 4 (.q 5 (.q 6 (.q 7 (.q 8 (.q 9 (.q 10 (.q 11 (.q 12 (.q 13 (.q 14 (.q 15 (.fin)))))))))))))))))) (.sq (.sq (.rg [.c 20 (.int .i64 0)]) (.bk 4 (.lp (.sq (.sq (.rg [.t 150 20, .o 151 (.cm .lss (.tmp 150) (.const (.int .i64 64)))]) (.cd (.tmp 151) (.sk) (.xt 4))) (.sq (.bk 5 (.sq (.dr [.t 154 19, .t 155 16, .o 156 (.cl 112 [.tmp 155, .const (.int .u64 6)]), .t 157 16, .o 158 (.cl 112 [.tmp 157, .const (.int .u64 11)]), .o 159 (.bt .xor .u32 (.tmp 156) (.tmp 158)), .t 160 16, .o 161 (.cl 112 [.tmp 160, .const (.int .u64 25)]), .o 162 (.bt .xor .u32 (.tmp 159) (.tmp 161)), .o 163 (.ar .add .u32 (.tmp 154) (.tmp 162) false), .t 164 16, .t 165 17, .o 166 (.bt .and .u32 (.tmp 164) (.tmp 165)), .t 167 16, .o 168 (.ar .sub .u32 (.const (.int .u32 4294967295)) (.tmp 167) false), .t 169 18, .o 170 (.bt .and .u32 (.tmp 168) (.tmp 169)), .o 171 (.bt .xor .u32 (.tmp 166) (.tmp 170)), .o 172 (.ar .add .u32 (.tmp 163) (.tmp 171) false), .t 173 2, .t 174 20, .o 175 (.ias (.tmp 173) (.tmp 174) 1), .o 176 (.ld (.tmp 175) none), .o 177 (.ar .add .u32 (.tmp 172) (.tmp 176) false), .t 178 7, .t 179 20, .o 180 (.ias (.tmp 178) (.tmp 179) 1), .o 181 (.ld (.tmp 180) none), .o 182 (.ar .add .u32 (.tmp 177) (.tmp 181) false), .t 21 182] [0, 0, 2, 0, 14, 30, 0, 94, 254, 511, 0, 0, 3072, 0, 8192, 0, 57344, 130048, 262143, 0, 0, 1572864, 3670016, 8388607, 0, 0, 50331648, 117440512, 268435455, 536870911] (.q 0 (.q 1 (.q 3 (.q 6 (.q 10 (.q 11 (.q 12 (.q 13 (.q 14 (.q 15 (.q 16 (.q 17 (.q 19 (.q 20 (.q 21 (.q 22 (.q 24 (.q 25 (.q 26 (.q 27 (.e 2 [22, 27] (.e 4 [22, 27] (.q 5 (.e 7 [22, 27] (.q 8 (.q 9 (.q 18 (.q 23 (.q 28 (.q 29 (.fin)))))))))))))))))))))))))))))))) (.sq (.rg [.t 183 12, .o 184 (.cl 112 [.tmp 183, .const (.int .u64 2)]), .t 185 12, .o 186 (.cl 112 [.tmp 185, .const (.int .u64 13)]), .o 187 (.bt .xor .u32 (.tmp 184) (.tmp 186)), .t 188 12, .o 189 (.cl 112 [.tmp 188, .const (.int .u64 22)]), .o 190 (.bt .xor .u32 (.tmp 187) (.tmp 189)), .t 191 12, .t 192 13, .o 193 (.bt .and .u32 (.tmp 191) (.tmp 192)), .t 194 12, .t 195 14, .o 196 (.bt .and .u32 (.tmp 194) (.tmp 195)), .o 197 (.bt .xor .u32 (.tmp 193) (.tmp 196)), .t 198 13, .t 199 14, .o 200 (.bt .and .u32 (.tmp 198) (.tmp 199)), .o 201 (.bt .xor .u32 (.tmp 197) (.tmp 200)), .o 202 (.ar .add .u32 (.tmp 190) (.tmp 201) false), .t 22 202]) (.sq (.rg [.t 203 18, .t 19 203]) (.sq (.rg [.t 204 17, .t 18 204]) (.sq (.rg [.t 205 16, .t 17 205]) (.sq (.rg [.t 206 15, .t 207 21, .o 208 (.ar .add .u32 (.tmp 206) (.tmp 207) false), .t 16 208]) (.sq (.rg [.t 209 14, .t 15 209]) (.sq (.rg [.t 210 13, .t 14 210]) (.sq (.rg [.t 211 12, .t 13 211]) (.rg [.t 212 21, .t 213 22, .o 214 (.ar .add .u32 (.tmp 212) (.tmp 213) false), .t 12 214]))))))))))) (.rg [.t 152 20, .o 153 (.ar .add .i64 (.tmp 152) (.const (.int .i64 1)) true), .t 20 153])))))) (.sq (.dr [.t 215 0, .o 216 (.ias (.tmp 215) (.const (.int .i64 0)) 1), .o 217 (.ld (.tmp 216) none), .t 218 12, .o 219 (.ar .add .u32 (.tmp 217) (.tmp 218) false), .t 220 0, .o 221 (.ias (.tmp 220) (.const (.int .i64 1)) 1), .o 222 (.ld (.tmp 221) none), .t 223 13, .o 224 (.ar .add .u32 (.tmp 222) (.tmp 223) false), .t 225 0, .o 226 (.ias (.tmp 225) (.const (.int .i64 2)) 1), .o 227 (.ld (.tmp 226) none), .t 228 14, .o 229 (.ar .add .u32 (.tmp 227) (.tmp 228) false), .t 230 0, .o 231 (.ias (.tmp 230) (.const (.int .i64 3)) 1), .o 232 (.ld (.tmp 231) none), .t 233 15, .o 234 (.ar .add .u32 (.tmp 232) (.tmp 233) false), .t 235 0, .o 236 (.ias (.tmp 235) (.const (.int .i64 4)) 1), .o 237 (.ld (.tmp 236) none), .t 238 16, .o 239 (.ar .add .u32 (.tmp 237) (.tmp 238) false), .t 240 0, .o 241 (.ias (.tmp 240) (.const (.int .i64 5)) 1), .o 242 (.ld (.tmp 241) none), .t 243 17, .o 244 (.ar .add .u32 (.tmp 242) (.tmp 243) false), .t 245 0, .o 246 (.ias (.tmp 245) (.const (.int .i64 6)) 1), .o 247 (.ld (.tmp 246) none), .t 248 18, .o 249 (.ar .add .u32 (.tmp 247) (.tmp 248) false), .t 250 0, .o 251 (.ias (.tmp 250) (.const (.int .i64 7)) 1), .o 252 (.ld (.tmp 251) none), .t 253 19, .o 254 (.ar .add .u32 (.tmp 252) (.tmp 253) false), .o 255 (.bl 107 1 [.tmp 219, .tmp 224, .tmp 229, .tmp 234, .tmp 239, .tmp 244, .tmp 249, .tmp 254]), .t 6 255] [0, 1, 3, 0, 15, 0, 32, 96, 0, 480, 0, 1024, 3072, 0, 15360, 0, 32768, 98304, 0, 491520, 0, 1048576, 3145728, 0, 15728640, 0, 33554432, 100663296, 0, 503316480, 0, 1073741824, 3221225472, 0, 16106127360, 0, 34359738368, 103079215104, 0, 515396075520, 1099511627775, 2199023255551] (.q 0 (.q 1 (.q 2 (.q 3 (.q 4 (.q 5 (.q 6 (.q 7 (.q 8 (.q 9 (.q 10 (.q 11 (.q 12 (.q 13 (.q 14 (.q 15 (.q 16 (.q 17 (.q 18 (.q 19 (.q 20 (.q 21 (.q 22 (.q 23 (.q 24 (.q 25 (.q 26 (.q 27 (.q 28 (.q 29 (.q 30 (.q 31 (.q 32 (.q 33 (.q 34 (.q 35 (.q 36 (.q 37 (.q 38 (.q 39 (.e 40 [] (.q 41 (.fin)))))))))))))))))))))))))))))))))))))))))))) (.rt))))))))
theorem k60 : Tryz.f60.body.any (fun c => chkC Tryz.prog c m60 && allD (dlt 256) m60) = true := by kernel_rfl
def m112 : MC := .sq (.rg [.c 4 (.int .u32 0)]) (.sq (.rg [.t 5 0, .t 6 1, .o 7 (.sh .shr .u32 (.tmp 5) (.tmp 6)), .t 8 0, .t 9 1, .o 10 (.ar .sub .u64 (.const (.int .u64 32)) (.tmp 9) false), .o 11 (.sh .shl .u32 (.tmp 8) (.tmp 10)), .o 12 (.bt .or .u32 (.tmp 7) (.tmp 11)), .t 4 12]) (.rt))
theorem k112 : Tryz.f112.body.any (fun c => chkC Tryz.prog c m112 && allD (dlt 13) m112) = true := by kernel_rfl
def m34 : MC := .sq (.rg [.c 2 (.slice none 0 0)]) (.sq (.rg [.c 3 (.slice none 0 0)]) (.sq (.rg [.t 4 3, .t 5 0, .o 6 (.ap 5 1 1 [(1, .int .u8 0)] (.tmp 4) (.tmp 5)), .t 2 6]) (.rt)))
theorem k34 : Tryz.f34.body.any (fun c => chkC Tryz.prog c m34 && allD (dlt 7) m34) = true := by kernel_rfl
end Go.Proofs.YtocofjmknnckhaaGreatDoor
namespace Go.En
abbrev U := UInt32
def w4 (x : U) : Value := .int .u32 (x.toNat : Int)
def ws (l : List U) : List Value := l.map w4
def sl (x : U) (k : Nat) : U := UInt32.ofNat (x.toNat * 2 ^ k)
def sr (x : U) (k : Nat) : U := UInt32.ofNat (x.toNat / 2 ^ k)
theorem wr32 (n : Int) : IntKind.u32.wrap n = n % 4294967296 := by
 unfold IntKind.wrap
 simp [IntKind.bits, IntKind.signed]
theorem wr32n (n : Nat) : IntKind.u32.wrap (n : Int) = ((UInt32.ofNat n).toNat : Int) := by
 rw [wr32, UInt32.toNat_ofNat']
 omega
theorem bv32 (x : U) : BitVec.ofInt IntKind.u32.bits (x.toNat : Int) = x.toBitVec := by
 apply BitVec.eq_of_toNat_eq
 rw [BitVec.toNat_ofInt]
 have := x.toNat_lt
 show _ = x.toNat
 have e : ((2 ^ IntKind.u32.bits : Nat) : Int) = 4294967296 := by decide
 rw [e]
 omega
theorem wr32u (x : U) : IntKind.u32.wrap (x.toNat : Int) = (x.toNat : Int) := by
 rw [wr32]
 have := x.toNat_lt
 omega
theorem uX (x y : U) : btv .xor .u32 (x.toNat : Int) (y.toNat : Int) = ((x ^^^ y).toNat : Int) := by
 unfold btv
 rw [bv32, bv32]
 exact wr32u (x ^^^ y)
theorem uA (x y : U) : btv .and .u32 (x.toNat : Int) (y.toNat : Int) = ((x &&& y).toNat : Int) := by
 unfold btv
 rw [bv32, bv32]
 exact wr32u (x &&& y)
theorem uO (x y : U) : btv .or .u32 (x.toNat : Int) (y.toNat : Int) = ((x ||| y).toNat : Int) := by
 unfold btv
 rw [bv32, bv32]
 exact wr32u (x ||| y)
theorem uP (x y : U) : IntKind.u32.wrap (arv .add (x.toNat : Int) (y.toNat : Int)) = ((x + y).toNat : Int) := by
 show IntKind.u32.wrap ((x.toNat : Int) + (y.toNat : Int)) = _
 rw [wr32, UInt32.toNat_add]
 omega
theorem uN (x : U) : btv .xor .u32 4294967295 (x.toNat : Int) = ((~~~x).toNat : Int) := by
 have h := uX (UInt32.ofNat 4294967295) x
 have e : (((UInt32.ofNat 4294967295).toNat : Nat) : Int) = 4294967295 := by decide
 rw [e] at h
 rw [h]
 congr 2
theorem uM (x : U) : IntKind.u32.wrap (arv .sub 4294967295 (x.toNat : Int)) = ((~~~x).toNat : Int) := by
 show IntKind.u32.wrap (4294967295 - (x.toNat : Int)) = _
 have : (~~~x).toNat = 4294967295 - x.toNat := by rw [UInt32.toNat_not]; rfl
 rw [wr32, this]
 have := x.toNat_lt
 omega
theorem uS (x : U) (k : Nat) (hk : k ≤ 32) : shv .shl .u32 (x.toNat : Int) (k : Int) = ((sl x k).toNat : Int) := by
 show IntKind.u32.wrap ((x.toNat : Int) * 2 ^ (min (k : Int).toNat IntKind.u32.bits)) = _
 have e : min (k : Int).toNat IntKind.u32.bits = k := by
  have : IntKind.u32.bits = 32 := by decide
  omega
 rw [e, show (x.toNat : Int) * 2 ^ k = ((x.toNat * 2 ^ k : Nat) : Int) by push_cast; rfl, wr32n]
 rfl
theorem uR (x : U) (k : Nat) (hk : k ≤ 32) : shv .shr .u32 (x.toNat : Int) (k : Int) = ((sr x k).toNat : Int) := by
 show (x.toNat : Int).fdiv (2 ^ (min (k : Int).toNat IntKind.u32.bits)) = _
 have e : min (k : Int).toNat IntKind.u32.bits = k := by
  have : IntKind.u32.bits = 32 := by decide
  omega
 unfold sr
 rw [e, UInt32.toNat_ofNat', show (2 : Int) ^ k = ((2 ^ k : Nat) : Int) by push_cast; rfl, Int.fdiv_eq_ediv_of_nonneg _ (Int.natCast_nonneg _)]
 have h1 : x.toNat / 2 ^ k ≤ x.toNat := Nat.div_le_self _ _
 have h2 := x.toNat_lt
 rw [Nat.mod_eq_of_lt (by omega)]
 norm_cast
theorem uK (x : U) (k : Nat) : IntKind.u32.wrap (arv .mul (x.toNat : Int) ((2 ^ k : Nat) : Int)) = ((sl x k).toNat : Int) := by
 show IntKind.u32.wrap ((x.toNat : Int) * ((2 ^ k : Nat) : Int)) = _
 rw [show (x.toNat : Int) * ((2 ^ k : Nat) : Int) = ((x.toNat * 2 ^ k : Nat) : Int) by push_cast; rfl, wr32n]
 rfl
theorem uB (b : UInt8) : IntKind.u32.wrap (b.toNat : Int) = ((b.toUInt32).toNat : Int) := by
 rw [wr32, UInt8.toNat_toUInt32]
 have := b.toNat_lt
 omega
theorem uC (x : U) : IntKind.u8.wrap (x.toNat : Int) = ((x.toUInt8).toNat : Int) := by
 unfold IntKind.wrap
 rw [UInt32.toNat_toUInt8]
 simp [IntKind.bits, IntKind.signed]
section
variable {T : TT} {x y : Operand} {a b : U}
theorem evi_w (h : ev T x = some (w4 a)) : evi T .u32 x = some (a.toNat : Int) := by unfold evi; rw [h]; rfl
theorem pvX (h : ev T x = some (w4 a)) (k : ev T y = some (w4 b)) : pev T (.bt .xor .u32 x y) = .ok (w4 (a ^^^ b)) := by
 unfold pev; simp only [evi_w h, evi_w k]; exact congrArg (fun n => R3.ok (.int .u32 n)) (uX a b)
theorem pvA (h : ev T x = some (w4 a)) (k : ev T y = some (w4 b)) : pev T (.bt .and .u32 x y) = .ok (w4 (a &&& b)) := by
 unfold pev; simp only [evi_w h, evi_w k]; exact congrArg (fun n => R3.ok (.int .u32 n)) (uA a b)
theorem pvO (h : ev T x = some (w4 a)) (k : ev T y = some (w4 b)) : pev T (.bt .or .u32 x y) = .ok (w4 (a ||| b)) := by
 unfold pev; simp only [evi_w h, evi_w k]; exact congrArg (fun n => R3.ok (.int .u32 n)) (uO a b)
theorem pvP (h : ev T x = some (w4 a)) (k : ev T y = some (w4 b)) : pev T (.ar .add .u32 x y false) = .ok (w4 (a + b)) := by
 unfold pev; simp only [evi_w h, evi_w k]; exact congrArg (fun n => R3.ok (.int .u32 n)) (uP a b)
theorem pvN (h : ev T x = some (w4 a)) : pev T (.un .u32 x) = .ok (w4 (~~~a)) := by
 unfold pev; simp only [evi_w h]; exact congrArg (fun n => R3.ok (.int .u32 n)) (uN a)
end
section
variable {E : Env} {ks : List KI} {T : TT} {D : List Deferred} {w : World} {Q : QX} {l : List MOp} {s i : Nat} {g : Option (Nat × Bool)} {x y : Operand} {a b : U} {t : DT}
theorem g_uX (hg : gv T ⟨some s, g, .bt .xor .u32 x y⟩ = some true) (h : ev T x = some (w4 a)) (k : ev T y = some (w4 b)) (hG : G E (.r l :: ks) ((s, w4 (a ^^^ b)) :: T) D w Q) : G E (.r (⟨some s, g, .bt .xor .u32 x y⟩ :: l) :: ks) T D w Q := g_ok hg (pvX h k) hG
theorem g_uA (hg : gv T ⟨some s, g, .bt .and .u32 x y⟩ = some true) (h : ev T x = some (w4 a)) (k : ev T y = some (w4 b)) (hG : G E (.r l :: ks) ((s, w4 (a &&& b)) :: T) D w Q) : G E (.r (⟨some s, g, .bt .and .u32 x y⟩ :: l) :: ks) T D w Q := g_ok hg (pvA h k) hG
theorem g_uO (hg : gv T ⟨some s, g, .bt .or .u32 x y⟩ = some true) (h : ev T x = some (w4 a)) (k : ev T y = some (w4 b)) (hG : G E (.r l :: ks) ((s, w4 (a ||| b)) :: T) D w Q) : G E (.r (⟨some s, g, .bt .or .u32 x y⟩ :: l) :: ks) T D w Q := g_ok hg (pvO h k) hG
theorem g_uP (hg : gv T ⟨some s, g, .ar .add .u32 x y false⟩ = some true) (h : ev T x = some (w4 a)) (k : ev T y = some (w4 b)) (hG : G E (.r l :: ks) ((s, w4 (a + b)) :: T) D w Q) : G E (.r (⟨some s, g, .ar .add .u32 x y false⟩ :: l) :: ks) T D w Q := g_ok hg (pvP h k) hG
theorem g_uN (hg : gv T ⟨some s, g, .un .u32 x⟩ = some true) (h : ev T x = some (w4 a)) (hG : G E (.r l :: ks) ((s, w4 (~~~a)) :: T) D w Q) : G E (.r (⟨some s, g, .un .u32 x⟩ :: l) :: ks) T D w Q := g_ok hg (pvN h) hG
theorem pv_mv {v : Value} (h : ev T x = some v) : pev T (.mv x) = .ok v := by unfold pev; simp only [h]
theorem g_mv {v : Value} (hg : gv T ⟨some s, g, .mv x⟩ = some true) (h : ev T x = some v) (hG : G E (.r l :: ks) ((s, v) :: T) D w Q) : G E (.r (⟨some s, g, .mv x⟩ :: l) :: ks) T D w Q := g_ok hg (pv_mv h) hG
theorem d_uX (hl : l[i]? = some ⟨some s, g, .bt .xor .u32 x y⟩) (hg : gv T ⟨some s, g, .bt .xor .u32 x y⟩ = some true) (h : ev T x = some (w4 a)) (k : ev T y = some (w4 b)) (hG : G E (.d l t :: ks) ((s, w4 (a ^^^ b)) :: T) D w Q) : G E (.d l (.q i t) :: ks) T D w Q := d_ok hl hg (pvX h k) hG
theorem d_uA (hl : l[i]? = some ⟨some s, g, .bt .and .u32 x y⟩) (hg : gv T ⟨some s, g, .bt .and .u32 x y⟩ = some true) (h : ev T x = some (w4 a)) (k : ev T y = some (w4 b)) (hG : G E (.d l t :: ks) ((s, w4 (a &&& b)) :: T) D w Q) : G E (.d l (.q i t) :: ks) T D w Q := d_ok hl hg (pvA h k) hG
theorem d_uP (hl : l[i]? = some ⟨some s, g, .ar .add .u32 x y false⟩) (hg : gv T ⟨some s, g, .ar .add .u32 x y false⟩ = some true) (h : ev T x = some (w4 a)) (k : ev T y = some (w4 b)) (hG : G E (.d l t :: ks) ((s, w4 (a + b)) :: T) D w Q) : G E (.d l (.q i t) :: ks) T D w Q := d_ok hl hg (pvP h k) hG
theorem d_uN (hl : l[i]? = some ⟨some s, g, .un .u32 x⟩) (hg : gv T ⟨some s, g, .un .u32 x⟩ = some true) (h : ev T x = some (w4 a)) (hG : G E (.d l t :: ks) ((s, w4 (~~~a)) :: T) D w Q) : G E (.d l (.q i t) :: ks) T D w Q := d_ok hl hg (pvN h) hG
theorem d_mv {v : Value} (hl : l[i]? = some ⟨some s, g, .mv x⟩) (hg : gv T ⟨some s, g, .mv x⟩ = some true) (h : ev T x = some v) (hG : G E (.d l t :: ks) ((s, v) :: T) D w Q) : G E (.d l (.q i t) :: ks) T D w Q := d_ok hl hg (pv_mv h) hG
end
def rr (x : U) (k : Nat) : U := sl x (32 - k) ||| sr x k
def H0 : List U := [0x6a09e667, 0xbb67ae85, 0x3c6ef372, 0xa54ff53a, 0x510e527f, 0x9b05688c, 0x1f83d9ab, 0x5be0cd19]
def KF : List U := [
 0x428a2f98, 0x71374491, 0xb5c0fbcf, 0xe9b5dba5, 0x3956c25b, 0x59f111f1, 0x923f82a4, 0xab1c5ed5,
 0xd807aa98, 0x12835b01, 0x243185be, 0x550c7dc3, 0x72be5d74, 0x80deb1fe, 0x9bdc06a7, 0xc19bf174,
 0xe49b69c1, 0xefbe4786, 0x0fc19dc6, 0x240ca1cc, 0x2de92c6f, 0x4a7484aa, 0x5cb0a9dc, 0x76f988da,
 0x983e5152, 0xa831c66d, 0xb00327c8, 0xbf597fc7, 0xc6e00bf3, 0xd5a79147, 0x06ca6351, 0x14292967,
 0x27b70a85, 0x2e1b2138, 0x4d2c6dfc, 0x53380d13, 0x650a7354, 0x766a0abb, 0x81c2c92e, 0x92722c85,
 0xa2bfe8a1, 0xa81a664b, 0xc24b8b70, 0xc76c51a3, 0xd192e819, 0xd6990624, 0xf40e3585, 0x106aa070,
 0x19a4c116, 0x1e376c08, 0x2748774c, 0x34b0bcb5, 0x391c0cb3, 0x4ed8aa4a, 0x5b9cca4f, 0x682e6ff3,
 0x748f82ee, 0x78a5636f, 0x84c87814, 0x8cc70208, 0x90befffa, 0xa4506ceb, 0xbef9a3f7, 0xc67178f2]
theorem KF_len : KF.length = 64 := rfl
def word (x : List UInt8) (i : Nat) : U := sl (x.getD (4 * i) 0).toUInt32 24 ||| sl (x.getD (4 * i + 1) 0).toUInt32 16 ||| sl (x.getD (4 * i + 2) 0).toUInt32 8 ||| (x.getD (4 * i + 3) 0).toUInt32
def g0 (x : U) : U := rr x 7 ^^^ rr x 18 ^^^ sr x 3
def g1 (x : U) : U := rr x 17 ^^^ rr x 19 ^^^ sr x 10
def nw (w : List U) (i : Nat) : U := w.getD (i - 16) 0 + g0 (w.getD (i - 15) 0) + w.getD (i - 7) 0 + g1 (w.getD (i - 2) 0)
def sch (x : List UInt8) : Nat → List U
 | 0 => []
 | n + 1 => sch x n ++ [if n < 16 then word x n else nw (sch x n) n]
theorem sch_len (x : List UInt8) : ∀ n, (sch x n).length = n
 | 0 => rfl
 | n + 1 => by rw [sch, List.length_append, sch_len x n]; rfl
theorem sch_pre (x : List UInt8) {i n m : Nat} (hi : i < n) (hn : n ≤ m) : (sch x m)[i]? = (sch x n)[i]? := by
 induction m with
 | zero => omega
 | succ m ih =>
  by_cases e : n = m + 1
  ·rw [e]
  ·rw [sch, List.getElem?_append_left (by rw [sch_len]; omega), ih (by omega)]
theorem sch_at (x : List UInt8) {i : Nat} (hi : i < 64) : (sch x 64).getD i 0 = if i < 16 then word x i else nw (sch x i) i := by
 rw [List.getD_eq_getElem?_getD, sch_pre x (n := i + 1) (by omega) (by omega), sch, List.getElem?_append_right (by rw [sch_len]; omega), sch_len, Nat.sub_self]
 rfl
def on1 (t : List U) (k w : U) : U := t.getD 7 0 + (rr (t.getD 4 0) 6 ^^^ rr (t.getD 4 0) 11 ^^^ rr (t.getD 4 0) 25) + ((t.getD 4 0 &&& t.getD 5 0) ^^^ (~~~(t.getD 4 0) &&& t.getD 6 0)) + k + w
def tw2 (t : List U) : U := (rr (t.getD 0 0) 2 ^^^ rr (t.getD 0 0) 13 ^^^ rr (t.getD 0 0) 22) + ((t.getD 0 0 &&& t.getD 1 0) ^^^ (t.getD 0 0 &&& t.getD 2 0) ^^^ (t.getD 1 0 &&& t.getD 2 0))
def rnd (t : List U) (k w : U) : List U := [on1 t k w + tw2 t, t.getD 0 0, t.getD 1 0, t.getD 2 0, t.getD 3 0 + on1 t k w, t.getD 4 0, t.getD 5 0, t.getD 6 0]
def rnds (s : List U) (x : List UInt8) : Nat → List U
 | 0 => s
 | n + 1 => rnd (rnds s x n) (KF.getD n 0) ((sch x 64).getD n 0)
theorem rnds_len {s : List U} (hs : s.length = 8) (x : List UInt8) : ∀ n, (rnds s x n).length = 8
 | 0 => hs
 | _ + 1 => rfl
def mixd (s : List U) (x : List UInt8) : List U := List.zipWith (· + ·) (rnds s x 64) s
theorem mixd_len {s : List U} (hs : s.length = 8) (x : List UInt8) : (mixd s x).length = 8 := by
 unfold mixd
 rw [List.length_zipWith, rnds_len hs, hs]
 rfl
def shaN (b : List UInt8) : Nat → List U
 | 0 => H0
 | n + 1 => mixd (shaN b n) ((b.drop (64 * n)).take 64)
theorem shaN_len (b : List UInt8) : ∀ n, (shaN b n).length = 8
 | 0 => rfl
 | n + 1 => mixd_len (shaN_len b n) _
theorem shaN_app (a b : List UInt8) : ∀ n, 64 * n ≤ a.length → shaN (a ++ b) n = shaN a n
 | 0, _ => rfl
 | n + 1, h => by
  rw [shaN, shaN, shaN_app a b n (by omega), List.drop_append_of_le_length (by omega), List.take_append_of_le_length (by rw [List.length_drop]; omega)]
def len8 (n : Nat) : List UInt8 := (List.range 8).map fun i => UInt8.ofNat (8 * n / 2 ^ (56 - 8 * i))
def tail (n : Nat) : List UInt8 := 128 :: List.replicate ((119 - n % 64) % 64) 0 ++ len8 n
def four (w : U) : List UInt8 := [(sr w 24).toUInt8, (sr w 16).toUInt8, (sr w 8).toUInt8, w.toUInt8]
def sha (b : List UInt8) : List UInt8 := (shaN (b ++ tail b.length) ((b ++ tail b.length).length / 64)).flatMap four
theorem len8_len (n : Nat) : (len8 n).length = 8 := by simp [len8]
theorem tail_len (n : Nat) : (tail n).length = 9 + (119 - n % 64) % 64 := by
 simp [tail, len8_len]
 omega
theorem tail_mod (n : Nat) : (n + (tail n).length) % 64 = 0 := by
 rw [tail_len]
 omega
theorem four_len (w : U) : (four w).length = 4 := rfl
theorem fm4_len : ∀ l : List U, (l.flatMap four).length = 4 * l.length
 | [] => rfl
 | x :: l => by rw [List.flatMap_cons, List.length_append, fm4_len l, four_len, List.length_cons]; omega
theorem sha_len (b : List UInt8) : (sha b).length = 32 := by
 unfold sha
 rw [fm4_len, shaN_len]
theorem ws_len (l : List U) : (ws l).length = l.length := by simp [ws]
theorem ws_get {l : List U} {i : Nat} (h : i < l.length) : (ws l)[i]? = some (w4 (l.getD i 0)) := by
 unfold ws
 rw [List.getElem?_map, List.getD_eq_getElem?_getD, List.getElem?_eq_getElem h]
 rfl
theorem ws_one (l : List U) : (ws l).all (·.oneCell') = true := one_ints fun v hv => by
 unfold ws at hv
 obtain ⟨x, _, rfl⟩ := List.mem_map.1 hv
 exact ⟨_, _, rfl⟩
theorem ws_zero (n : Nat) : List.replicate n (Value.int .u32 0) = ws (List.replicate n 0) := by simp [ws, w4]
theorem rotk : ∀ k : Fin 32, 0 < k.val → btv .and .u64 (IntKind.u64.wrap (-(k.val : Int))) 31 = ((32 - k.val : Nat) : Int) := by decide +kernel
end Go.En
