/- EnO EnM EnN EnP Na1 Sh Na2 Na3 Na4 -/
import Derived.Test.YtfffdhafbbbpcaaGreatDoorPt2
import Derived.Laws.StructEq
import Derived.MapKept
import Derived.Laws.Externs
import Derived.Lib.BytesEntry
import Derived.Lib.Bytealg
import Derived.Test.YtfffdhafbbbpcaaGreatDoorChecked
import Derived.KernelRfl
import Derived.Shelf.Small.Utf8
import Derived.Shelf.Small.Bits
import Derived.Shelf.Small.Strs
import Derived.Shelf.Strconv.Itoa0
import Derived.Shelf.Strings.Search1
import Derived.Shelf.Strings.Search2
import Derived.Shelf.Strings.Search3
import Derived.Shelf.Strings.Cut
import Derived.Shelf.Strings.Count
import Derived.Shelf.LaysM
import Derived.Shelf.Strings.Shaped
import Derived.Shelf.Sort.Plain
import Derived.Shelf.Strings.Prefix
import Derived.Shelf.Strings.Split
import Derived.Shelf.Strings.SplitShaped
import Derived.Shelf.Strings.Runes
import Derived.Shelf.Strings.IndexAny
import Derived.Shelf.Strings.AsciiSet
import Derived.Shelf.Strings.IndexAnyAll
import Derived.Shelf.Unicode.DecodeSlow
import Derived.Shelf.Slices.In.SortNone
import Derived.Shelf.Bytes.SlIndexAt
import Derived.Shelf.Bytes.Small
import Derived.Shelf.Bytes.IndexByte
import Derived.Test.YtfffdhafbbbpcaaGreatDoorProg
import Derived.Lib.SplitLaws
set_option linter.unusedSimpArgs false
set_option linter.unusedVariables false
namespace Go.En
def ows {α : Type} (F : α → Res) : List α → Res
 | [] => emp
 | a :: l => (F a).and (ows F l)
section
variable {w w0 : World} {S0 : Nat → Prop} {L B : List Res}
theorem St.emp (hS : St w0 S0 w L) : St w0 S0 w (L ++ [En.emp]) := hS.new (Fr.refl _ _) (fun _ h => h.elim) (fun _ h => h.elim) trivial
theorem selB' {A B A' : List Res} (hS : St w0 S0 w (A ++ B)) (is : List Nat) (h : En.sel A is = some A') (hn : nodB is = true) : St w0 S0 w (A' ++ B) := by
 have hg := sel_get h
 refine ⟨?_, ?_, ?_, ?_, hS.fr⟩
 all_goals
  have look : ∀ (k : Nat) (r : Res), (A' ++ B)[k]? = some r → ∃ i, (A ++ B)[i]? = some r ∧ ((k < A'.length ∧ is[k]? = some i ∧ i < A.length) ∨ (A'.length ≤ k ∧ i = A.length + (k - A'.length))) := by
   intro k r hk
   by_cases hlt : k < A'.length
   ·rw [List.getElem?_append_left hlt] at hk
    obtain ⟨i, h1, h2⟩ := hg k r hk
    have hi := (List.getElem?_eq_some_iff.1 h2).1
    exact ⟨i, by rw [List.getElem?_append_left hi]; exact h2, .inl ⟨hlt, h1, hi⟩⟩
   ·rw [List.getElem?_append_right (by omega)] at hk
    exact ⟨A.length + (k - A'.length), by rw [List.getElem?_append_right (by omega), Nat.add_sub_cancel_left]; exact hk, .inr ⟨by omega, rfl⟩⟩
 ·intro k r hk; obtain ⟨i, hi, _⟩ := look k r hk; exact hS.ok i r hi
 ·intro k r hk; obtain ⟨i, hi, _⟩ := look k r hk; exact hS.bd i r hi
 ·intro k r hk; obtain ⟨i, hi, _⟩ := look k r hk; exact hS.src i r hi
 ·intro k k' r s hk hk' hne
  obtain ⟨i, hi, hi'⟩ := look k r hk
  obtain ⟨j, hj, hj'⟩ := look k' s hk'
  refine hS.dis i j r s hi hj (fun e => hne ?_)
  subst e
  rcases hi' with ⟨_, h1, h2⟩ | ⟨h1, h2⟩ <;> rcases hj' with ⟨_, h3, h4⟩ | ⟨h3, h4⟩
  ·exact (List.getElem?_inj (List.getElem?_eq_some_iff.1 h1).1 (nodB_ok hn)).1 (h1.trans h3.symm)
  ·omega
  ·omega
  ·omega
theorem St.ows_join {α : Type} {F : α → Res} : ∀ (l : List α) (x : α) (r : List α) {B : List Res}, St w0 S0 w (ows F l :: F x :: ows F r :: B) → St w0 S0 w (ows F (l ++ x :: r) :: B)
 | [], x, r, B, hS => by
  have hS := hS.tail
  have hS := hS.merge 0 1 rfl rfl (by decide)
  have hS : St w0 S0 w ((F x).and (ows F r) :: En.emp :: B) := hS
  exact selB' (A := [_, _]) (B := B) hS [0] rfl rfl
 | a :: l, x, r, B, hS => by
  have hS : St w0 S0 w ((F a).and (ows F l) :: F x :: ows F r :: B) := hS
  have hS := (hS.split 0 rfl).front
  have hS : St w0 S0 w (ows F l :: F a :: F x :: ows F r :: B) := hS
  have hS := selB' (A := [_, _, _, _]) (B := B) hS [0, 2, 3, 1] rfl rfl
  have hS := St.ows_join l x r hS
  have hS := selB' (A := [_, _]) (B := B) hS [1, 0] rfl rfl
  have hS := hS.merge 0 1 rfl rfl (by decide)
  have hS : St w0 S0 w ((F a).and (ows F (l ++ x :: r)) :: En.emp :: B) := hS
  exact selB' (A := [_, _]) (B := B) hS [0] rfl rfl
theorem St.ows_nil {α : Type} (F : α → Res) (hS : St w0 S0 w B) : St w0 S0 w (ows F [] :: B) := hS.emp.front
theorem St.ows_app {α : Type} {F : α → Res} {l : List α} {x : α} (hS : St w0 S0 w (ows F l :: F x :: B)) : St w0 S0 w (ows F (l ++ [x]) :: B) := by
 have hS := hS.emp.front
 have hS := selB' (A := [_, _, _]) (B := B) hS [1, 2, 0] rfl rfl
 exact St.ows_join l x [] hS
theorem ows_mem {α : Type} {F : α → Res} : ∀ {l : List α} {x : α}, (ows F l).ok w → x ∈ l → (F x).ok w
 | a :: l, x, h, hx => by
  rcases List.mem_cons.1 hx with e | hx
  ·subst e; exact h.1
  ·exact ows_mem (l := l) h.2.1 hx
end
variable {P : Program} {T : TT} {w w0 : World}
def Fit1 : CKd → Value → Prop
 | .i k, v => ∃ n, v = .int k n
 | .s, v => ∃ s, v = .string s
 | .b, v => ∃ b, v = .bool b
def Fits : List CKd → List Value → Prop
 | [], [] => True
 | k :: ks, v :: vs => Fit1 k v ∧ Fits ks vs
 | _, _ => False
theorem Fits.len : ∀ {ks : List CKd} {vs : List Value}, Fits ks vs → vs.length = ks.length
 | [], [], _ => rfl
 | _ :: _, _ :: _, h => by simp [h.2.len]
 | [], _ :: _, h => h.elim
 | _ :: _, [], h => h.elim
theorem Fits.app : ∀ {a b : List CKd} {vs : List Value}, Fits (a ++ b) vs → Fits a (vs.take a.length) ∧ Fits b (vs.drop a.length)
 | [], b, vs, h => ⟨by simp [Fits], by simpa using h⟩
 | k :: a, b, v :: vs, h => by
  have := Fits.app (a := a) h.2
  exact ⟨⟨h.1, this.1⟩, this.2⟩
 | _ :: _, _, [], h => h.elim
theorem Fits.mk : ∀ {a b : List CKd} {us vs : List Value}, Fits a us → Fits b vs → Fits (a ++ b) (us ++ vs)
 | [], _, [], _, _, h => h
 | _ :: a, _, _ :: us, _, h, h' => ⟨h.1, h.2.mk h'⟩
 | [], _, _ :: _, _, h, _ => h.elim
 | _ :: _, _, [], _, h, _ => h.elim
theorem fits_bys : ∀ (bs : List UInt8), Fits (List.replicate bs.length (.i .u8)) (bys bs)
 | [] => trivial
 | b :: bs => ⟨⟨_, rfl⟩, fits_bys bs⟩
noncomputable def deqv (a b : List Value) : Bool := @decide (a = b) (Classical.propDecidable _)
theorem deqv_t {a b : List Value} (h : a = b) : deqv a b = true := by unfold deqv; simp [h]
theorem deqv_f {a b : List Value} (h : a ≠ b) : deqv a b = false := by unfold deqv; simp [h]
theorem deqv_iff {a b : List Value} : deqv a b = true ↔ a = b := by unfold deqv; simp
theorem deqv_eq {a b : List Value} {q : Bool} (h : q = true ↔ a = b) : deqv a b = q := by
 cases q with
 | true => exact deqv_t (h.1 rfl)
 | false => exact deqv_f (fun e => by have := h.2 e; cases this)
def agT (P : Program) (t : TypeId) : Bool := match P.underlying t with | some (.struct _) | some (.array ..) => true | _ => false
def vof (P : Program) (t : TypeId) (cs : List Value) : Value := match agT P t with | true => .agg ⟨cs⟩ | false => cs.headD undef
theorem part_fit {d : Nat} {t : TypeId} {ks : List CKd} {cs : List Value} {off : Nat} (h : flatK P d t = some ks) (hs : hasSize P t ks.length = true) (hf : Fits ks ((cs.drop off).take ks.length)) (w : World) :
  (part t ⟨cs⟩ off).run P w = .ok (vof P t ((cs.drop off).take ks.length)) w := by
 obtain ⟨i, hi, hz⟩ := hasSize_info hs
 have one : ∀ k, isAg P t = some false → ks = [k] → agT P t = false → (part t ⟨cs⟩ off).run P w = .ok (vof P t ((cs.drop off).take ks.length)) w := by
  intro k ha e hag
  subst e
  have hl := hf.len
  have hg : ∃ v, cs[off]? = some v := by
   simp only [List.length_take, List.length_drop, List.length_singleton] at hl
   exact ⟨cs[off]'(by omega), List.getElem?_eq_getElem _⟩
  obtain ⟨v, hv⟩ := hg
  have hlt := (List.getElem?_eq_some_iff.1 hv).1
  have e1 : (cs.drop off).take [k].length = [v] := by
   rw [List.drop_eq_getElem_cons hlt, (List.getElem?_eq_some_iff.1 hv).2]; rfl
  rw [run_part_one (by unfold rdAs; rw [ha]) hv w, e1]
  unfold vof
  rw [hag]
  rfl
 cases d with
 | zero => simp [flatK] at h
 | succ d =>
  unfold flatK at h
  split at h
  ·rename_i k hu; cases h; exact one _ (by unfold isAg; rw [hu]) rfl (by unfold agT; rw [hu])
  ·rename_i hu; cases h; exact one _ (by unfold isAg; rw [hu]) rfl (by unfold agT; rw [hu])
  ·rename_i hu; cases h; exact one _ (by unfold isAg; rw [hu]) rfl (by unfold agT; rw [hu])
  ·rename_i n e hu
   rw [run_part_many (n := ks.length) (by unfold rdAs isAg; rw [hu, hi]; simp [hz]) w]
   unfold vof agT
   rw [hu]
  ·rename_i fs hu
   rw [run_part_many (n := ks.length) (by unfold rdAs isAg; rw [hu, hi]; simp [hz]) w]
   unfold vof agT
   rw [hu]
  ·cases h
theorem deqv_split {a b : List Value} {n : Nat} (ha : (a.take n).length = (b.take n).length) : deqv a b = (deqv (a.take n) (b.take n) && deqv (a.drop n) (b.drop n)) := by
 refine deqv_eq ?_
 rw [Bool.and_eq_true, deqv_iff, deqv_iff]
 constructor
 ·rintro ⟨h1, h2⟩
  rw [← List.take_append_drop n a, h1, h2, List.take_append_drop]
 ·intro h; rw [h]; exact ⟨rfl, rfl⟩
theorem eq_flat : ∀ (d : Nat) (t : TypeId) (ks : List CKd), flatK P d t = some ks → ∀ (m : Nat) (xs ys : List Value), Fits ks xs → Fits ks ys → ∀ w : World, (Op.equalIn (d + m) t (vof P t xs) (vof P t ys)).run P w = .ok (deqv xs ys) w
 | 0, _, _, h, _, _, _, _, _, _ => by simp [flatK] at h
 | d + 1, t, ks, h, m, xs, ys, hx, hy, w => by
  unfold flatK at h
  rw [show d + 1 + m = d + m + 1 by omega]
  split at h
  ·rename_i k hu
   cases h
   match xs, hx with
   | [x], hx => match ys, hy with
    | [y], hy =>
     obtain ⟨⟨a, rfl⟩, _⟩ := hx
     obtain ⟨⟨b, rfl⟩, _⟩ := hy
     simp only [vof, agT, hu, List.headD_cons, Op.equalIn, Sem.run_bind, run_underlying hu w, Result.andThen_ok, if_true, Sem.run_pure]
     congr 1
     refine (deqv_eq ?_).symm
     simp
  ·rename_i hu
   cases h
   match xs, hx with
   | [x], hx => match ys, hy with
    | [y], hy =>
     obtain ⟨⟨a, rfl⟩, _⟩ := hx
     obtain ⟨⟨b, rfl⟩, _⟩ := hy
     simp only [vof, agT, hu, List.headD_cons, Op.equalIn, Sem.run_bind, run_underlying hu w, Result.andThen_ok, if_true, Sem.run_pure]
     congr 1
     refine (deqv_eq ?_).symm
     constructor
     ·intro h
      rw [beq_toListBytes] at h
      have h : a.toList = b.toList := by simpa using h
      rw [toList_data, toList_data] at h
      obtain ⟨⟨a⟩⟩ := a
      obtain ⟨⟨b⟩⟩ := b
      simp only at h
      rw [h]
     ·intro h
      cases h
      rw [beq_toListBytes]
      simp
  ·rename_i hu
   cases h
   match xs, hx with
   | [x], hx => match ys, hy with
    | [y], hy =>
     obtain ⟨⟨a, rfl⟩, _⟩ := hx
     obtain ⟨⟨b, rfl⟩, _⟩ := hy
     simp only [vof, agT, hu, List.headD_cons, Op.equalIn, Sem.run_bind, run_underlying hu w, Result.andThen_ok, if_true, Sem.run_pure]
     congr 1
     refine (deqv_eq ?_).symm
     simp
  ·rename_i n e hu
   cases hl : flatK P d e with
   | none => rw [hl] at h; cases h
   | some l =>
    rw [hl] at h
    simp only [Option.bind_some] at h
    split at h
    ·rename_i hs
     cases h
     obtain ⟨i, hi, hz⟩ := hasSize_info hs
     have hco : P.cellsOf e = l.length := by simp [Program.cellsOf, hi, hz]
     have hag : agT P t = true := by unfold agT; rw [hu]
     simp only [vof, hag]
     rw [run_equalIn_array w (d + m) ⟨xs⟩ ⟨ys⟩ hu hi, hco, List.range_eq_range']
     have key : ∀ (n k : Nat), Fits (List.replicate n l).flatten (xs.drop (k * l.length)) → Fits (List.replicate n l).flatten (ys.drop (k * l.length)) →
       (Op.eqItems (d + m) e l.length ⟨xs⟩ ⟨ys⟩ (List.range' k n)).run P w = .ok (deqv (xs.drop (k * l.length)) (ys.drop (k * l.length))) w := by
      intro n
      induction n with
      | zero =>
       intro k h1 h2
       have e1 := h1.len
       have e2 := h2.len
       simp at e1 e2
       rw [deqv_t (by rw [List.drop_eq_nil_of_le (by omega), List.drop_eq_nil_of_le (by omega)])]
       simp [Op.eqItems]
      | succ n ih =>
       intro k h1 h2
       rw [List.replicate_succ, List.flatten_cons] at h1 h2
       obtain ⟨a1, b1⟩ := h1.app
       obtain ⟨a2, b2⟩ := h2.app
       rw [List.drop_drop] at b1 b2
       rw [List.range'_succ]
       have p1 := part_fit hl hs a1 w
       have p2 := part_fit hl hs a2 w
       have p3 := eq_flat d e l hl m _ _ a1 a2 w
       simp only [Op.eqItems, Sem.run_bind, p1, p2, p3, Result.andThen_ok]
       have hi2 := ih (k + 1) (by rw [Nat.add_mul, Nat.one_mul]; exact b1) (by rw [Nat.add_mul, Nat.one_mul]; exact b2)
       have hlen : ((xs.drop (k * l.length)).take l.length).length = ((ys.drop (k * l.length)).take l.length).length := by rw [a1.len, a2.len]
       rw [deqv_split hlen, List.drop_drop, List.drop_drop]
       rw [Nat.add_mul, Nat.one_mul] at hi2
       cases hq : deqv ((xs.drop (k * l.length)).take l.length) ((ys.drop (k * l.length)).take l.length)
       ·simp
       ·simpa using hi2
     have := key n 0 (by simpa using hx) (by simpa using hy)
     simpa using this
    ·cases h
  ·rename_i fs hu
   split at h
   ·cases h
   ·rename_i hsh
    have hag : agT P t = true := by unfold agT; rw [hu]
    simp only [vof, hag]
    have hfo : P.fieldsOf t = fs := by simp [Program.fieldsOf, hu]
    rw [run_equalIn_struct w (d + m) t ⟨xs⟩ ⟨ys⟩ (by rw [hfo]; exact hu) (by simpa using hsh), hfo]
    have key : ∀ (fs : List Field) (off : Nat) (ks : List CKd), flF P (flatK P d) off fs = some ks → Fits ks (xs.drop off) → Fits ks (ys.drop off) →
      (Op.eqFields (d + m) ⟨xs⟩ ⟨ys⟩ fs).run P w = .ok (deqv (xs.drop off) (ys.drop off)) w := by
     intro fs
     induction fs with
     | nil =>
      intro off ks hk h1 h2
      simp only [flF, Option.some.injEq] at hk
      subst hk
      have e1 := h1.len
      have e2 := h2.len
      simp at e1 e2
      rw [deqv_t (by rw [List.drop_eq_nil_of_le (by omega), List.drop_eq_nil_of_le (by omega)])]
      simp [Op.eqFields]
     | cons f fs ih =>
      intro off ks hk h1 h2
      unfold flF at hk
      cases hl : flatK P d f.type with
      | none => rw [hl] at hk; cases hk
      | some l =>
       rw [hl] at hk
       simp only [Option.bind_some] at hk
       split at hk
       ·rename_i hcond
        simp only [Bool.and_eq_true, decide_eq_true_eq, Bool.not_eq_true', beq_eq_false_iff_ne, ne_eq] at hcond
        obtain ⟨⟨hoff, hnm⟩, hs⟩ := hcond
        cases hr : flF P (flatK P d) (off + l.length) fs with
        | none => rw [hr] at hk; cases hk
        | some rest =>
         rw [hr] at hk
         simp only [Option.map_some, Option.some.injEq] at hk
         subst hk
         obtain ⟨a1, b1⟩ := h1.app
         obtain ⟨a2, b2⟩ := h2.app
         rw [List.drop_drop] at b1 b2
         have p1 := part_fit hl hs a1 w
         have p2 := part_fit hl hs a2 w
         have p3 := eq_flat d f.type l hl m _ _ a1 a2 w
         simp only [Op.eqFields, ne_eq, hnm, not_false_eq_true, if_true, hoff, Sem.run_bind, p1, p2, p3, Result.andThen_ok]
         have hi2 := ih _ _ hr b1 b2
         have hlen : ((xs.drop off).take l.length).length = ((ys.drop off).take l.length).length := by rw [a1.len, a2.len]
         rw [deqv_split hlen, List.drop_drop, List.drop_drop]
         cases hq : deqv ((xs.drop off).take l.length) ((ys.drop off).take l.length)
         ·simp
         ·simpa using hi2
       ·cases hk
    have := key fs.toList 0 ks h (by simpa using hx) (by simpa using hy)
    simpa using this
  ·cases h
theorem ceqs_eq : ∀ {a b : List CKd}, ceqs a b = true → a = b
 | [], [], _ => rfl
 | x :: a, y :: b, h => by
  simp only [ceqs, Bool.and_eq_true] at h
  have e := ceqs_eq h.2
  subst e
  have h1 := h.1
  cases x <;> cases y <;> simp [ceq] at h1 <;> first | rfl | (rw [h1])
 | [], _ :: _, h => by simp [ceqs] at h
 | _ :: _, [], h => by simp [ceqs] at h
def eqdv (op : BinOp) (q : Bool) : Bool := match op with | .eql => q | _ => !q
theorem qt_eqd {op : BinOp} {ks : List CKd} {x y : Operand} {a b : List Value} (hx : ev T x = some (.agg ⟨a⟩)) (hy : ev T y = some (.agg ⟨b⟩)) (ha' : Fits ks a) (hb' : Fits ks b) : Qt P (.eqd op ks x y) T w (.bool (eqdv op (deqv a b))) := by
 rintro ⟨dst, o, ty, pos, after, guard⟩ ρ hc ha
 cases o <;> try (simp [chkO] at hc; done)
 rename_i op' t x' y' t'
 simp only [chkO, Bool.and_eq_true, decide_eq_true_eq, Bool.not_eq_true'] at hc
 obtain ⟨⟨⟨⟨⟨⟨rfl, e1⟩, e2⟩, hop⟩, hgt⟩, hu⟩, hk⟩ := hc
 have e1 := oeq_eq e1; have e2 := oeq_eq e2; subst e1 e2
 split at hk
 ·rename_i l hl
  have e := ceqs_eq hk
  subst e
  have hag : agT P t = true := by unfold agT; split at hu <;> simp_all
  have heq : (Op.equal t (.agg ⟨a⟩) (.agg ⟨b⟩)).run P w = .ok (deqv a b) w := by
   have := eq_flat 30 t l hl 9970 a b ha' hb' w
   simp only [vof, hag] at this
   exact this
  have hg : (eqGuard op t x y (.agg ⟨a⟩) (.agg ⟨b⟩)).run P w = .ok () w := by
   simp only [eqGuard, Sem.run_bind, run_program, Result.andThen_ok, hgt, Bool.not_false, Bool.not_true, Bool.false_eq_true, if_true, if_false, Sem.run_pure]
   try (split <;> simp only [Sem.run_bind, run_program, Result.andThen_ok, hgt, Bool.not_false, Bool.not_true, Bool.false_eq_true, if_true, if_false, Sem.run_pure])
  cases op <;> simp at hop
  ·have hb : (binOp .eql t (.agg ⟨a⟩) (.agg ⟨b⟩)).run P w = .ok (.bool (deqv a b)) w := by
    show (do pure (.bool (← Op.equal t _ _)) : Sem Value).run P w = _
    rw [Sem.run_bind, heq]; rfl
   simp only [execOp, ha.2 _ (by simp [MK.ops]) _ hx, ha.2 _ (by simp [MK.ops]) _ hy, Sem.run_bind, hg, hb, Result.andThen_ok]
   rfl
  ·have hb : (binOp .neq t (.agg ⟨a⟩) (.agg ⟨b⟩)).run P w = .ok (.bool (!deqv a b)) w := by
    show (do pure (.bool (!(← Op.equal t _ _))) : Sem Value).run P w = _
    rw [Sem.run_bind, heq]; rfl
   simp only [execOp, ha.2 _ (by simp [MK.ops]) _ hx, ha.2 _ (by simp [MK.ops]) _ hy, Sem.run_bind, hg, hb, Result.andThen_ok]
   rfl
 ·simp at hk
variable {P : Program} {r : Option Nat} {T : TT} {w w0 : World} {S0 : Nat → Prop} {L : List Res} {K : Value → World → Prop}
theorem St.newObj (hS : St w0 S0 w L) (o : Obj) : St w0 S0 (w.alloc o) (L ++ [obj w.heap.size o]) :=
 hS.new (fr_alloc w o _) (fun b hb => by have : b = w.heap.size := hb; omega) (fun b hb => by have : b = w.heap.size := hb; rw [alloc_size]; omega) (by
  show (w.heap.push o)[w.heap.size]? = some o
  simp)
theorem St.putO (hS : St w0 S0 w L) {b : Nat} {o : Obj} (i : Nat) (hi : L[i]? = some (obj b o)) (o' : Obj) : St w0 S0 (w.putObj b o') (L.set i (obj b o')) := by
 have hb : w.heap[b]? = some o := hS.ok i _ hi
 have hlt := (Array.getElem?_eq_some_iff.1 hb).1
 exact hS.turn hi (fr_putObj w b o') (fun _ hb => .inl hb) (fun c hc => by have : c = b := hc; subst this; simpa using hlt) (World.putObj_heap_same hlt)
def noC : Obj → Bool
 | .cells .. => false
 | _ => true
theorem run_getO {b : Nat} {o : Obj} (hb : w.heap[b]? = some o) (hn : noC o = true) : (getObj b).run P w = .ok o w := by
 cases o <;> first | (simp [getObj, Sem.run, hb]; done) | simp [noC] at hn
theorem run_setO {b : Nat} {o : Obj} (o' : Obj) (hb : w.heap[b]? = some o) (hn : noC o = true) : (setObj b o').run P w = .ok () (w.putObj b o') := by
 cases o <;> first | (simp [setObj, Sem.run, hb, World.putObj]; done) | simp [noC] at hn
theorem ef_rg {x : Operand} {s : ByteArray} (hS : St w0 S0 w L) (hx : ev T x = some (.string s)) (h : ∀ b w', St w0 S0 w' (L ++ [obj b (.stringIter s 0)]) → K (.pointer (some ⟨b, 0, none⟩)) w') : Ef P r (.rg x) T w K := by
 refine ef_run ?_
 rintro ⟨dst, op, ty, pos, after, guard⟩ ρ hc ha
 cases op <;> simp only [chkO, Bool.false_eq_true, Bool.and_eq_true] at hc
 obtain ⟨e1, hu⟩ := hc
 have e1 := oeq_eq e1; subst e1
 split at hu
 ·rename_i hu'
  refine ⟨_, w.alloc (.stringIter s 0), ?_, h _ _ (hS.newObj _)⟩
  simp only [execOp, Instr.range, ha.2 _ (by simp [MK.ops]) _ hx, Sem.run_bind, run_underlying hu' w, Result.andThen_ok, run_newObj, Sem.run_pure]
  rfl
 ·simp at hu
theorem ef_nx {x : Operand} {s : ByteArray} {b pos : Nat} (hS : St w0 S0 w L) (i : Nat) (hi : L[i]? = some (obj b (.stringIter s pos))) (hx : ev T x = some (.pointer (some ⟨b, 0, none⟩)))
  (h1 : pos < s.size → ∀ w', St w0 S0 w' (L.set i (obj b (.stringIter s (pos + (Utf8.decode s pos).2)))) → K (.tuple ⟨[.bool true, .int .i64 pos, .int .i32 (Utf8.decode s pos).1]⟩) w')
  (h2 : ¬ pos < s.size → K (.tuple ⟨[.bool false]⟩) w) : Ef P r (.nx x) T w K := by
 have hb : w.heap[b]? = some (.stringIter s pos) := hS.ok i _ hi
 refine ef_run ?_
 rintro ⟨dst, op, ty, pos', after, guard⟩ ρ hc ha
 cases op <;> try (simp [chkO] at hc; done)
 rename_i y q
 cases q
 ·simp [chkO] at hc
 simp only [chkO] at hc
 have e1 := oeq_eq hc; subst e1
 by_cases hlt : pos < s.size
 ·refine ⟨_, w.putObj b (.stringIter s (pos + (Utf8.decode s pos).2)), ?_, h1 hlt _ (hS.putO i hi _)⟩
  simp only [execOp, Instr.next, ha.2 _ (by simp [MK.ops]) _ hx, Sem.run_bind, run_getO hb rfl, Result.andThen_ok, hlt, if_true, run_setO _ hb rfl, Sem.run_pure]
  rfl
 ·refine ⟨_, w, ?_, h2 hlt⟩
  simp only [execOp, Instr.next, ha.2 _ (by simp [MK.ops]) _ hx, Sem.run_bind, run_getO hb rfl, Result.andThen_ok, hlt, if_false, Sem.run_pure]
theorem ef_clr {x : Operand} {sz : Nat} {z : ZZ} {b off n c : Nat} {l : List Value} {E : TypeId} (hS : St w0 S0 w L) (i : Nat) (hi : L[i]? = some (cel b l E)) (hx : ev T x = some (.slice (some ⟨b, off, none⟩) n c)) (hn : off + n * sz ≤ l.length) (h1 : (zx z).all (·.oneCell') = true)
  (h : ∀ w', St w0 S0 w' (L.set i (cel b (spl l off (rep n z)) E)) → K (.tuple ⟨[]⟩) w') : Ef P r (.clr sz z x) T w K := by
 refine ef_run ?_
 rintro ⟨dst, op, ty, pos, after, guard⟩ ρ hc ha
 cases op <;> simp only [chkO, Bool.false_eq_true] at hc
 rename_i cl
 simp only [Bool.and_eq_true] at hc
 obtain ⟨⟨hb, he⟩, hc⟩ := hc
 obtain ⟨cs, hr⟩ := run_builtin (P := P) hb ρ ⟨dst, .call cl, ty, pos, after, guard⟩ rfl
 have he := oeqs_eq he
 simp only [hr, ← he, List.map_cons, List.map_nil, ha.2 _ (by simp [MK.ops]) _ hx]
 split at hc
 ·rename_i t ht
  split at hc
  ·rename_i e hu'
   simp only [Bool.and_eq_true, decide_eq_true_eq] at hc
   obtain ⟨⟨hs, hz⟩, hzl⟩ := hc
   obtain ⟨v, hv, hvl⟩ := zeroIs_run hz w
   have hrl : (rep n z).length = n * sz := by
    rw [rep, flat_len (k := sz) (fun l hl => by rw [List.eq_of_mem_replicate hl, hzl]), List.length_replicate]
   have hst := run_stores (P := P) (off := off) (b := b) (E := E) (rep n z) 0 l w (hS.b i hi) (by rw [hrl]; omega) (by
    rw [List.all_eq_true] at h1 ⊢
    intro u hu
    rw [rep, List.mem_flatten] at hu
    obtain ⟨l', hl', hu⟩ := hu
    rw [List.eq_of_mem_replicate hl'] at hu
    exact h1 u hu)
   rw [Nat.add_zero] at hst
   have hgo := h _ (hS.set i hi (spl l off (rep n z)) (spl_length (by rw [hrl]; omega)))
   refine ⟨_, _, ?_, hgo⟩
   cases n with
   | zero =>
    have : spl l off (rep 0 z) = l := by simp [spl, rep]
    rw [this, setB_self (hS.b i hi)]
    simp only [builtin, Sem.run_bind, Builtin.clear_, ht, List.getElem?_toArray, List.getElem?_cons_zero, run_underlying hu' w, Result.andThen_ok, Sem.run_pure]
   | succ n =>
    simp only [builtin, Sem.run_bind, Builtin.clear_, ht, List.getElem?_toArray, List.getElem?_cons_zero, run_underlying hu' w, Result.andThen_ok, hv, run_zeros hvl, hst, Sem.run_pure]
  ·simp at hc
 ·simp at hc
theorem ef_xl {f : FuncId} {fn : Func} {e : Array Value → Sem Value} {args : List Operand} {vs : List Value} {v : Value} (hf : P.funcs[f]? = some fn) (hn : Extern.findNext fn = none) (he : Extern.find fn = some e) (hx : evs T args = some vs) (hr : (e ⟨vs⟩).run P w = .ok v w) (h : K v w) : Ef P r (.xl f args) T w K := by
 refine ef_run ?_
 rintro ⟨dst, op, ty, pos, after, guard⟩ ρ hc ha
 cases op <;> simp only [chkO, Bool.false_eq_true] at hc
 rename_i c
 split at hc
 ·rename_i g hg
  simp only [Bool.and_eq_true, decide_eq_true_eq] at hc
  obtain ⟨⟨rfl, ho⟩, hc⟩ := hc
  have ho := oeqs_eq ho
  rw [hf] at hc
  simp only [Bool.and_eq_true, Bool.not_eq_true'] at hc
  refine ⟨v, w, ?_, h⟩
  have hval : ρ (.func f) = .func (.func f) #[] #[] := ha.2 _ (by simp [MK.ops]) _ rfl
  have hargs : c.args.map ρ = ⟨vs⟩ := by
   rw [map_arr, ← ho, evs_map (fun x hx => ha.2 x (by simp [MK.ops]; exact .inr hx)) hx]
  simp only [execOp, resolve, hg, Sem.run_bind, Sem.run_pure, Deferred.ofValue, hval, hargs, invoke, Result.andThen_ok]
  rw [show (#[] : Array Value) ++ ⟨vs⟩ ++ #[] = ⟨vs⟩ by simp, run_callFunc_extern hf hc.2 hc.1 hn he, hr]
  rfl
 ·simp at hc
theorem run_bytesX {v : Value} {E n : Nat} {bs : List UInt8} (h : Rd v E 1 n (bys bs) w) : (Extern.Bytes.bytesOf v).run P w = .ok ⟨bs.toArray⟩ w := by
 have hlen := h.len
 have hbl : bs.length = n := by simpa using hlen
 rcases h with ⟨⟨a, rfl⟩, rfl, hx⟩ | ⟨b, off, cap, l, rfl, hn, hl, hx, hB⟩
 ·have : bs = [] := by cases bs <;> simp [bys] at hx ⊢
  subst this
  cases a <;> rfl
 ·have hg := Lib.run_loadBytesX (P := P) w (bs.map fun b => (b.toNat : Int)) ⟨b, off, none⟩ .empty (fun j x hj => by
   rw [add_plain, hB.cell]
   have hj2 : (bys bs)[j]? = some (.int .u8 x) := by
    simp only [bys, List.getElem?_map] at hj ⊢
    cases hb : bs[j]? with
    | none => rw [hb] at hj; cases hj
    | some y => rw [hb] at hj; cases hj; rfl
   have hlt := (List.getElem?_eq_some_iff.1 hj2).1
   rw [← hx, List.getElem?_take_of_lt (by rw [bys_length] at hlt; omega), List.getElem?_drop] at hj2
   exact hj2)
  rw [List.length_map, hbl] at hg
  show (Extern.Bytes.loadBytes ⟨b, off, none⟩ n .empty).run P w = _
  rw [hg]
  congr 2
  apply Array.ext'
  simp [Lib.bytesOf]
  exact (List.map_congr_left fun b _ => by simp).trans (List.map_id _)
theorem run_cmpX {v u : Value} {E E' n m : Nat} {a b : List UInt8} (ha : Rd v E 1 n (bys a) w) (hb : Rd u E' 1 m (bys b) w) : (Extern.BytealgCompare.compare ⟨[v, u]⟩).run P w = .ok (.int .i64 (Lib.compareBytes a b)) w := by
 change Sem.run P (do pure (goInt (Extern.BytealgCompare.cmp (← Extern.Bytes.bytesOf v) (← Extern.Bytes.bytesOf u)))) w = _
 simp only [Sem.run_bind, run_bytesX ha, run_bytesX hb, Sem.run_pure, Result.andThen_ok]
 rw [Lib.cmp_eq]
 rfl
/-! ### maps -/
structure KL (P : Program) (kt : TypeId) (ok : Value → Prop) : Prop where
 check : ∀ (w : World) (em : Bool) {v : Value}, ok v → (Instr.checkKey em 10000 kt v).run P w = .ok () w
 find : ∀ (w : World) {x : Value}, ok x → ∀ es : List MapEntry, (∀ e ∈ es, ok e.key) →
  ((Instr.findKey kt x es).run P w = .ok none w ∧ ∀ e ∈ es, e.key ≠ x) ∨ ∃ (j : Nat) (e : MapEntry), (Instr.findKey kt x es).run P w = .ok (some (j, e.val)) w ∧ es[j]? = some e ∧ e.key = x
 stays : ∀ (w : World) {v : Value}, ok v → (Instr.keyThatStays v v).run P w = .ok v w
def strK (v : Value) : Prop := ∃ s, v = .string s
theorem kl_str {kt : TypeId} (h : P.underlying kt = some .string) : KL P kt strK where
 check w em v hv := by
  obtain ⟨s, rfl⟩ := hv
  exact MapKept.run_checkKey h (by trivial) em 9999
 find w x hx es hes := by
  have hx' : MapKept.IsKey .string x := by obtain ⟨s, rfl⟩ := hx; trivial
  rcases MapKept.findNow_spec hx' es 0 (fun e he => by obtain ⟨s, hs⟩ := hes e he; rw [hs]; trivial) with ⟨h1, h2⟩ | ⟨j, e, h1, h2, h3⟩
  ·exact .inl ⟨MapKept.run_findKey h h1, h2⟩
  ·exact .inr ⟨j, e, MapKept.run_findKey h (by simpa using h1), h2, h3⟩
 stays w v hv := by
  obtain ⟨s, rfl⟩ := hv
  exact MapKept.run_keyThatStays (d := .string) (by trivial)
theorem ef_mkm (hS : St w0 S0 w L) (h : ∀ b w', St w0 S0 w' (L ++ [obj b (.map ⟨[]⟩ 0)]) → K (.map (some b)) w') : Ef P r .mkm T w K := by
 refine ef_run ?_
 rintro ⟨dst, op, ty, pos, after, guard⟩ ρ hc ha
 cases op <;> try (simp [chkO] at hc; done)
 rename_i t q
 cases q
 ·refine ⟨_, w.alloc (.map ⟨[]⟩ 0), ?_, h _ _ (hS.newObj _)⟩
  simp only [execOp, Instr.makeMap, Sem.run_bind, run_newObj, Result.andThen_ok, Sem.run_pure, Option.map_none]
  rfl
 ·simp [chkO] at hc
theorem isMap_of {t kt : TypeId} (h : isMap P t kt = true) : ∃ e, P.underlying t = some (.map kt e) := by
 unfold isMap at h
 split at h
 ·rename_i k e hu; simp at h; subst h; exact ⟨e, hu⟩
 ·cases h
theorem ef_mup {kt : TypeId} {ok : Value → Prop} (KW : KL P kt ok) {m k v : Operand} {b c : Nat} {key val : Value} {es : List MapEntry} (hS : St w0 S0 w L) (i : Nat) (hi : L[i]? = some (obj b (.map ⟨es⟩ c))) (hm : ev T m = some (.map (some b))) (hk : ev T k = some key) (hv : ev T v = some val)
  (hok : ok key) (hes : ∀ e ∈ es, ok e.key) (h1 : (∀ e ∈ es, e.key ≠ key) → ∀ w', St w0 S0 w' (L.set i (obj b (.map ⟨es ++ [⟨key, val, c⟩]⟩ (c + 1)))) → K undef w')
  (h2 : ∀ (j : Nat) (e : MapEntry), es[j]? = some e → e.key = key → ∀ w', St w0 S0 w' (L.set i (obj b (.map ⟨es.set j ⟨key, val, e.born⟩⟩ c))) → K undef w') : Ef P r (.mup kt m k v) T w K := by
 have hb : w.heap[b]? = some (.map ⟨es⟩ c) := hS.ok i _ hi
 refine ef_skip ?_
 rintro ⟨dst, op, ty, pos, after, guard⟩ ρ hc ha
 cases op <;> simp only [chkO, Bool.false_eq_true, Bool.and_eq_true] at hc
 obtain ⟨⟨⟨e1, e2⟩, e3⟩, hu⟩ := hc
 have e1 := oeq_eq e1; have e2 := oeq_eq e2; have e3 := oeq_eq e3; subst e1 e2 e3
 obtain ⟨et, hu⟩ := isMap_of hu
 rcases KW.find w hok es hes with ⟨hf, hne⟩ | ⟨j, e, hf, hj, he⟩
 ·refine ⟨w.putObj b (.map ⟨es ++ [⟨key, val, c⟩]⟩ (c + 1)), ?_, h1 hne _ (hS.putO i hi _)⟩
  simp only [execOp, Instr.mapUpdate, ha.2 _ (by simp [MK.ops]) _ hm, ha.2 _ (by simp [MK.ops]) _ hk, ha.2 _ (by simp [MK.ops]) _ hv, Sem.run_bind, run_underlying hu w, Result.andThen_ok, run_getO hb rfl, KW.check w false hok, hf, run_setO _ hb rfl, Sem.run_pure]
  congr 2
  simp
 ·refine ⟨w.putObj b (.map ⟨es.set j ⟨key, val, e.born⟩⟩ c), ?_, h2 j e hj he _ (hS.putO i hi _)⟩
  have hlt := (List.getElem?_eq_some_iff.1 hj).1
  have hks : (Instr.keyThatStays (((⟨es⟩ : Array MapEntry)[j]?.map (·.key)).getD key) key).run P w = .ok key w := by
   have : ((⟨es⟩ : Array MapEntry)[j]?.map (·.key)).getD key = key := by
    have : (⟨es⟩ : Array MapEntry)[j]? = some e := by simpa using hj
    rw [this]; exact he
   rw [this]; exact KW.stays w hok
  have hmod : (⟨es⟩ : Array MapEntry).modify j (fun e => { e with key := key, val := val }) = ⟨es.set j ⟨key, val, e.born⟩⟩ := by
   apply Array.ext'
   rw [Array.toList_modify]
   refine List.ext_getElem? fun i => ?_
   rw [List.getElem?_modify, List.getElem?_set]
   by_cases h : j = i
   ·subst h; simp [hj, hlt, (List.getElem?_eq_some_iff.1 hj).2]
   ·simp [h]
  simp only [execOp, Instr.mapUpdate, ha.2 _ (by simp [MK.ops]) _ hm, ha.2 _ (by simp [MK.ops]) _ hk, ha.2 _ (by simp [MK.ops]) _ hv, Sem.run_bind, run_underlying hu w, Result.andThen_ok, run_getO hb rfl, KW.check w false hok, hf, hks, hmod, run_setO _ hb rfl, Sem.run_pure]
def zv (ag : Bool) (z : ZZ) : Value := match ag with | true => .agg ⟨zx z⟩ | false => (zx z).headD undef
def lkv (ok : Bool) (v : Value) (q : Bool) : Value := match ok with | true => .tuple ⟨[v, .bool q]⟩ | false => v
theorem ef_mlk {kt : TypeId} {okp : Value → Prop} (KW : KL P kt okp) {ag ok : Bool} {z : ZZ} {m k : Operand} {b c : Nat} {key : Value} {es : List MapEntry} (hb : w.heap[b]? = some (.map ⟨es⟩ c)) (hm : ev T m = some (.map (some b))) (hk : ev T k = some key)
  (hok : okp key) (hes : ∀ e ∈ es, okp e.key) (h1 : (∀ e ∈ es, e.key ≠ key) → K (lkv ok (zv ag z) false) w)
  (h2 : ∀ (j : Nat) (e : MapEntry), es[j]? = some e → e.key = key → K (lkv ok e.val true) w) : Ef P r (.mlk kt ag z ok m k) T w K := by
 refine ef_run ?_
 rintro ⟨dst, op, ty, pos, after, guard⟩ ρ hc ha
 cases op <;> simp only [chkO, Bool.false_eq_true, Bool.and_eq_true, decide_eq_true_eq] at hc
 obtain ⟨⟨⟨e1, e2⟩, rfl⟩, hu⟩ := hc
 have e1 := oeq_eq e1; have e2 := oeq_eq e2; subst e1 e2
 split at hu
 ·rename_i k' e' hu'
  simp only [Bool.and_eq_true, decide_eq_true_eq] at hu
  obtain ⟨⟨rfl, hz⟩, hi⟩ := hu
  have hzv : (zeroValue e').run P w = .ok (zv ag z) w := by
   unfold zeroIs at hz
   split at hi
   ·rename_i i hi'
    rw [hi'] at hz
    simp only at hz
    split at hi
    ·rename_i cs hcs
     rw [hcs] at hz
     simp only at hz
     have := veqs_eq hz
     subst hi
     have : cs = ⟨zx z⟩ := by
      obtain ⟨l⟩ := cs
      simp [Value.cells] at this
      rw [this]
     simp [zeroValue, typeInfo, hi', hcs, zv, this]
    ·rename_i v hv1 hv
     simp only [Bool.and_eq_true, Bool.not_eq_true'] at hi
     obtain ⟨rfl, hi⟩ := hi
     have := veqs_eq hi
     simp [zeroValue, typeInfo, hi', hv, zv, ← this]
    ·cases hi
   ·cases hi
  rcases KW.find w hok es hes with ⟨hf, hne⟩ | ⟨j, e, hf, hj, he⟩
  ·refine ⟨_, w, ?_, h1 hne⟩
   simp only [execOp, Instr.lookup, ha.2 _ (by simp [MK.ops]) _ hm, ha.2 _ (by simp [MK.ops]) _ hk, Sem.run_bind, run_underlying hu' w, Result.andThen_ok, run_getO hb rfl, KW.check w _ hok, hf, hzv, Sem.run_pure]
   cases ok <;> rfl
  ·refine ⟨_, w, ?_, h2 j e hj he⟩
   simp only [execOp, Instr.lookup, ha.2 _ (by simp [MK.ops]) _ hm, ha.2 _ (by simp [MK.ops]) _ hk, Sem.run_bind, run_underlying hu' w, Result.andThen_ok, run_getO hb rfl, KW.check w _ hok, hf, Sem.run_pure]
   cases ok <;> rfl
 ·simp at hu
section
variable {w w0 : World} {S0 S : Nat → Prop} {K : Value → World → Prop} {B L : List Res} {E : Env} {ks : List KI} {T : TT} {D : List Deferred} {Q : QX}
theorem Rd.form {v : Value} {E sz n : Nat} {xs : List Value} (h : Rd v E sz n xs w) : ∃ a c, v = .slice a n c := by
 rcases h with ⟨⟨a, rfl⟩, rfl, _⟩ | ⟨b, off, cap, l, rfl, _⟩
 ·exact ⟨_, _, rfl⟩
 ·exact ⟨_, _, rfl⟩
theorem Rd.block {v : Value} {E sz n : Nat} {xs : List Value} (h : Rd v E sz n xs w) (hn : 0 < n) : ∃ b off cap l, v = .slice (some ⟨b, off, none⟩) n cap ∧ n ≤ cap ∧ off + cap * sz ≤ l.length ∧ (l.drop off).take (n * sz) = xs ∧ Blr w b l E := by
 rcases h with ⟨_, rfl, _⟩ | h
 ·omega
 ·exact h
theorem Rd.take {b off n cap E k : Nat} {xs : List Value} (h : Rd (.slice (some ⟨b, off, none⟩) n cap) E 1 n xs w) (hk : k ≤ n) : Rd (.slice (some ⟨b, off, none⟩) k cap) E 1 k (xs.take k) w := by
 rcases h with ⟨⟨a', h⟩, rfl, rfl⟩ | ⟨b', off', cap', l, h, hn, hl, hx, hb⟩
 ·cases h
  have : k = 0 := by omega
  subst this
  exact .inl ⟨⟨_, rfl⟩, rfl, rfl⟩
 ·cases h
  refine .inr ⟨b, off, cap, l, rfl, by omega, hl, ?_, hb⟩
  rw [← hx, List.take_take]
  congr 1
  omega
theorem Rd.drop {b off n cap E k : Nat} {x : Operand} {xs : List Value} (h : Rd (.slice (some ⟨b, off, none⟩) n cap) E 1 n xs w) (hk : k ≤ n) : Rd (.slice (some ⟨b, slo (some x) off cap k 1, none⟩) (n - k) (cap - k)) E 1 (n - k) (xs.drop k) w := by
 rcases h with ⟨⟨a', h⟩, rfl, rfl⟩ | ⟨b', off', cap', l, h, hn, hl, hx, hb⟩
 ·cases h
  have : k = 0 := by omega
  subst this
  exact .inl ⟨⟨_, rfl⟩, rfl, rfl⟩
 ·cases h
  by_cases e : cap = k
  ·have : n = k := by omega
   subst this
   have hso : slo (some x) off cap n 1 = off := by simp only [slo, if_pos e]
   rw [hso]
   refine .inr ⟨b, off, cap - n, l, rfl, by omega, by omega, ?_, hb⟩
   have hxl : xs.length ≤ n := by rw [← hx]; simp; omega
   have hnil : xs.drop n = [] := List.drop_eq_nil_of_le hxl
   rw [hnil]
   simp
  ·have hso : slo (some x) off cap k 1 = off + k * 1 := by simp only [slo, if_neg e]
   rw [hso]
   refine .inr ⟨b, off + k * 1, cap - k, l, rfl, by omega, by omega, ?_, hb⟩
   rw [← hx, ← List.drop_drop, List.drop_take]
   simp
theorem selLen {L : List Res} : ∀ {is : List Nat} {R : List Res}, sel L is = some R → R.length = is.length ∧ ∀ i, i ∈ is → i < L.length
 | [], R, h => by simp [sel] at h; subst h; simp
 | i :: is, R, h => by
  simp only [sel] at h
  split at h
  ·rename_i r0 R0 h1 h2
   cases h
   obtain ⟨e, k⟩ := selLen h2
   refine ⟨by simp [e], fun j hj => ?_⟩
   rcases List.mem_cons.1 hj with rfl | hj
   ·exact (List.getElem?_eq_some_iff.1 h1).1
   ·exact k j hj
  ·cases h
theorem St.selB {A B A' : List Res} (hS : St w0 S0 w (A ++ B)) (is : List Nat) (h : En.sel A is = some A') (hn : nodB is = true) : St w0 S0 w (A' ++ B) := by
 obtain ⟨hl, hlt⟩ := selLen h
 refine hS.pick (is ++ (List.range B.length).map (· + A.length)) _ ?_ ?_
 ·intro k r hk
  by_cases e : k < A'.length
  ·rw [List.getElem?_append_left e] at hk
   obtain ⟨i, h1, h2⟩ := sel_get h k r hk
   refine ⟨i, ?_, ?_⟩
   ·rw [List.getElem?_append_left (by omega)]; exact h1
   ·rw [List.getElem?_append_left (List.getElem?_eq_some_iff.1 h2).1]; exact h2
  ·rw [List.getElem?_append_right (by omega)] at hk
   have hb := (List.getElem?_eq_some_iff.1 hk).1
   refine ⟨k - A'.length + A.length, ?_, ?_⟩
   ·rw [List.getElem?_append_right (by omega), ← hl]
    simp [hb]
   ·rw [List.getElem?_append_right (by omega), Nat.add_sub_cancel]; exact hk
 ·rw [List.nodup_append]
  refine ⟨nodB_ok hn, List.Pairwise.map _ (fun a b h => by omega) List.nodup_range, ?_⟩
  intro i hi j hj
  simp only [List.mem_map, List.mem_range] at hj
  obtain ⟨k, _, rfl⟩ := hj
  have := hlt i hi
  omega
theorem cmv_self (a : Int) : cmv BinOp.eql a a = true := by simp [cmv]
theorem g_atx {ι : Type} (n : Nat) (T' : ι → TT) (I : ι → World → Prop) (hn : noD n ks = true) (h1 : G E (insA (.l (fun T1 D1 w1 => D1 = D ∧ ∃ x, SubL (T' x) T1 ∧ I x w1)) n ks) T D w Q) (h2 : ∀ x T w, SubL (T' x) T → I x w → G E (ks.drop n) T D w Q) : G E ks T D w Q :=
 kq_ins n ks hn (fun T1 D1 w1 ⟨hD, x, hs, hI⟩ => hD ▸ h2 x T1 w1 hs hI) _ _ _ _ h1
theorem g_jx {ι : Type} {T' : ι → TT} {I : ι → World → Prop} (x : ι) (hs : SubL (T' x) T) (hI : I x w) : G E (.l (fun T1 D1 w1 => D1 = D ∧ ∃ x, SubL (T' x) T1 ∧ I x w1) :: ks) T D w Q := ⟨rfl, x, hs, hI⟩
theorem qt_bsR {P : Program} {T : TT} {w : World} {x : Operand} {v : Value} {E n : Nat} {bs : List UInt8} (hx : ev T x = some v) (hr : Rd v E 1 n (bys bs) w) : Qt P (.bs x) T w (.string ⟨bs.toArray⟩) := by
 rcases hr with ⟨⟨a, rfl⟩, rfl, hb⟩ | ⟨b, off, cap, l, rfl, hc, hl, hx', hB⟩
 ·have : bs = [] := by
   have := congrArg List.length hb
   simpa using this
  subst this
  exact qt_bs0 hx
 ·rw [Nat.mul_one] at hx'
  exact qt_bs hx hB (by omega) hx'
theorem bys_set (bs : List UInt8) (rest : List Value) (i : Nat) (x : UInt8) (h : i < bs.length) : spl (bys bs ++ rest) (0 + i * 1) [.int .u8 (x.toNat : Int)] = bys (bs.set i x) ++ rest := by
 have : spl (bys bs ++ rest) i [.int .u8 (x.toNat : Int)] = (bys bs ++ rest).set i (.int .u8 (x.toNat : Int)) := by
  rw [List.set_eq_take_append_cons_drop, if_pos (by simp; omega)]
  simp [spl]
 rw [Nat.zero_add, Nat.mul_one, this, List.set_append_left _ _ (by simpa using h)]
 simp [bys, List.map_set]
theorem d_l1r {l : List MOp} {i s : Nat} {g : Option (Nat × Bool)} {x : Operand} {b off : Nat} {cs : List Value} {ty : TypeId} {v : Value} {t : DT} (hl : l[i]? = some ⟨some s, g, .ld x none⟩) (hg : gv T ⟨some s, g, .ld x none⟩ = some true) (hx : ev T x = some (.pointer (some ⟨b, off, none⟩))) (hb : Blr w b cs ty) (hv : cs[off]? = some v)
  (h : G E (.d l t :: ks) ((s, v) :: T) D w Q) : G E (.d l (.q i t) :: ks) T D w Q := d_qt hl hg rfl (qt_ld1r hx hb hv) h
theorem rc_1r {l : List MOp} {j d : Nat} {g : Option (Nat × Bool)} {x : Operand} {b off : Nat} {cs : List Value} {ty : TypeId} {v : Value} {rc : List Nat} {T' : TT} (hl : l[j]? = some ⟨some d, g, .ld x none⟩) (hv : lk T d = some v) (hg : gv T' ⟨some d, g, .ld x none⟩ = some true) (hx : ev T' x = some (.pointer (some ⟨b, off, none⟩))) (hb : Blr w b cs ty) (hc : cs[off]? = some v)
  (h : RC E l rc T T' w) : RC E l (j :: rc) T T' w := rc_qt hl hv hg rfl (qt_ld1r hx hb hc) h
theorem q_c1 {P : Program} {a ty n b off : Nat} {l : List Value} {E : TypeId} {T : TT} {w : World} {K : Value → World → Prop} (ht : lk T a = some (.pointer (some ⟨b, off, none⟩))) (h1 : rdAs P ty (some n) = true) (hb : Blk w b l E) (hn : off + n ≤ l.length) (h : K (.agg ⟨(l.drop off).take n⟩) w) : QF P [.cell a ty] K .ret T [] w :=
 ⟨[_], ⟨_, _, [], ht, run_loadm h1 hb.r hn, rfl, rfl⟩, h⟩
theorem q_c2 {P : Program} {a ty n b off t : Nat} {l : List Value} {E : TypeId} {T : TT} {w : World} {K : Value → World → Prop} {u : Value} (ht : lk T a = some (.pointer (some ⟨b, off, none⟩))) (h1 : rdAs P ty (some n) = true) (hb : Blk w b l E) (hn : off + n ≤ l.length) (hu : lk T t = some u) (h : K (.tuple ⟨[.agg ⟨(l.drop off).take n⟩, u]⟩) w) : QF P [.cell a ty, .tmp t] K .ret T [] w :=
 ⟨[_, _], ⟨_, _, [u], ht, run_loadm h1 hb.r hn, ⟨_, [], hu, rfl, rfl⟩, rfl⟩, h⟩
theorem qt_slh {P : Program} {T : TT} {w : World} {x hi : Operand} {a : Option Addr} {n c sz h : Nat} {k : IntKind} (hx : ev T x = some (.slice a n c)) (hsp : ∀ {y o v}, a = some ⟨y, o, some v⟩ → False) (hh : ev T hi = some (.int k (h : Int))) (hle : h ≤ n) (hc : n ≤ c) : Qt P (.sl x none (some hi) none sz) T w (.slice a h c) := by
 cases a with
 | none =>
  have e : pev T (.sl x none (some hi) none sz) = .rq (((0 : Nat) : Int) ≤ ((0 : Nat) : Int) ∧ ((0 : Nat) : Int) ≤ (h : Int) ∧ (h : Int) ≤ (c : Int) ∧ (c : Int) ≤ (c : Int)) (.slice none h c) := by
   simp [pev, hx, bnd, hh]
  exact (pev_rq e ⟨by omega, by omega, by omega, by omega⟩).2 w
 | some y =>
  obtain ⟨b, o, s⟩ := y
  cases s with
  | some s => exact (hsp rfl).elim
  | none =>
   have e : pev T (.sl x none (some hi) none sz) = .rq (((0 : Nat) : Int) ≤ ((0 : Nat) : Int) ∧ ((0 : Nat) : Int) ≤ (h : Int) ∧ (h : Int) ≤ (c : Int) ∧ (c : Int) ≤ (c : Int)) (.slice (some ⟨b, o, none⟩) h c) := by
    simp [pev, hx, bnd, hh, slo]
   exact (pev_rq e ⟨by omega, by omega, by omega, by omega⟩).2 w
theorem g_sq2 {A B C : MC} (h : G E (.c A :: .c B :: .c C :: ks) T D w Q) : G E (.c A :: .c (.sq B C) :: ks) T D w Q := fun hd c a hc hd' ha =>
 wpIn_mono (h hd c a hc hd' ha) (LQ.mono fun e T D w hq => by
  cases e with
  | normal => exact g_sq hq
  | _ => exact hq)
theorem cmv_neq (a : Int) : cmv BinOp.neq a a = false := by simp [cmv]
end
end Go.En
namespace Go.Proofs.YtfffdhafbbbpcaaGreatDoor
open Go.En
def m72 : MC := .sq (.rg [.c 2 (.int .i64 0)]) (.sq (.sq (.rg [.t 3 0, .o 4 (.cl 109 [.tmp 3]), .o 5 (.cm .neq (.tmp 4) (.const (.int .i64 0)))]) (.cd (.tmp 5) (.sq (.rg [.c 2 (.int .i64 40)]) (.rt)) (.sk))) (.sq (.rg [.c 2 (.int .i64 0)]) (.rt)))
theorem k72 : Tryz.f72.body.any (fun c => chkC Tryz.prog c m72 && allD (dlt 6) m72) = true := by kernel_rfl
def m109u0 : MC := .rg [.o 4 (.al [(1, .int .i64 0), (1, .nilFunc)] 200), .e (.st (.tmp 4) (.tmp 6) 2)]
def m109v0 : MC := .bk 1 (.sq (.rg [.o 7 (.fa (.tmp 4) 1), .o 8 (.ld (.tmp 7) none), .o 9 (.ld (.tmp 1) none), .o 10 (.cv (.tmp 8) [.tmp 9])]) (.cd (.tmp 10) (.sq (.rg [.o 11 (.fa (.tmp 4) 0), .o 12 (.ld (.tmp 11) none), .e (.st (.tmp 3) (.tmp 12) 1)]) (.xt 0)) (.sk)))
def m109 : MC := .sq (.rg [.o 1 (.bx 9 (.tmp 0)), .c 2 (.int .i64 0)]) (.sc (.sq (.rg [.o 3 (.al [(1, .int .i64 0)] 3), .e (.st (.tmp 3) (.const (.int .i64 0)) 1)]) (.sq (.lb 0) (.sq (.sq (.rg [.o 5 (.cl 144 [])]) (.bk 0 (.rf (.tmp 5) [6] m109u0 m109v0))) (.sq (.rg [.o 13 (.ld (.tmp 3) none), .t 2 13]) (.rt))))))
theorem k109 : Tryz.f109.body.any (fun c => chkC Tryz.prog c m109 && allD (dlt 14) m109) = true := by kernel_rfl
def m144 : MC := .sq (.rg [.c 0 (.nilFunc)]) (.sq (.rg [.o 2 (.bd [(1, .int .i64 0), (1, .nilFunc)] [(0, 1, .const (.int .i64 1)), (1, 1, .func 194)]), .o 3 (.bd [(1, .int .i64 0), (1, .nilFunc)] [(0, 1, .const (.int .i64 2)), (1, 1, .func 195)]), .o 4 (.cl 196 [.func 197]), .o 5 (.bd [(1, .int .i64 0), (1, .nilFunc)] [(0, 1, .const (.int .i64 3)), (1, 1, .tmp 4)]), .o 6 (.cl 196 [.func 198]), .o 7 (.bd [(1, .int .i64 0), (1, .nilFunc)] [(0, 1, .const (.int .i64 4)), (1, 1, .tmp 6)]), .o 8 (.cl 200 [.const (.string ⟨#[46, 46]⟩)]), .o 9 (.bd [(1, .int .i64 0), (1, .nilFunc)] [(0, 1, .const (.int .i64 5)), (1, 1, .tmp 8)]), .o 10 (.cl 196 [.func 201]), .o 11 (.bd [(1, .int .i64 0), (1, .nilFunc)] [(0, 1, .const (.int .i64 6)), (1, 1, .tmp 10)]), .o 12 (.bd [(1, .int .i64 0), (1, .nilFunc)] [(0, 1, .const (.int .i64 7)), (1, 1, .func 203)]), .o 13 (.cl 200 [.const (.string ⟨#[64, 123]⟩)]), .o 14 (.bd [(1, .int .i64 0), (1, .nilFunc)] [(0, 1, .const (.int .i64 8)), (1, 1, .tmp 13)]), .o 15 (.bl 200 2 [.tmp 2, .tmp 3, .tmp 5, .tmp 7, .tmp 9, .tmp 11, .tmp 12, .tmp 14]), .o 1 (.al [(1, .slice none 0 0)] 261), .e (.st (.tmp 1) (.tmp 15) 1)]) (.sq (.rg [.o 16 (.mf 204 [] [.tmp 1]), .t 0 16]) (.rt)))
theorem k144 : Tryz.f144.body.any (fun c => chkC Tryz.prog c m144 && allD (dlt 17) m144) = true := by kernel_rfl
def m194 : MC := .sq (.rg [.c 2 (.bool false)]) (.sq (.rg [.t 3 0, .o 4 (.se .eql (.tmp 3) (.const (.string ⟨#[]⟩))), .t 5 4, .q 6 5 false (.mv (.tmp 0)), .q 7 5 false (.ln true (.tmp 6)), .q 8 5 false (.cm .gtr (.tmp 7) (.const (.int .i64 100))), .o 9 (.pk (.tmp 5) (.const (.bool true)) (.tmp 8)), .t 2 9]) (.rt))
theorem k194 : Tryz.f194.body.any (fun c => chkC Tryz.prog c m194 && allD (dlt 10) m194) = true := by kernel_rfl
def m197 : MC := .sq (.rg [.c 2 (.bool false)]) (.sq (.rg [.t 3 0, .o 4 (.se .eql (.tmp 3) (.const (.string ⟨#[]⟩))), .t 2 4]) (.rt))
theorem k197 : Tryz.f197.body.any (fun c => chkC Tryz.prog c m197 && allD (dlt 5) m197) = true := by kernel_rfl
def m198 : MC := .sq (.rg [.c 2 (.bool false)]) (.sq (.rg [.t 3 0, .o 4 (.cl 199 [.tmp 3, .const (.string ⟨#[46]⟩)]), .t 2 4]) (.rt))
theorem k198 : Tryz.f198.body.any (fun c => chkC Tryz.prog c m198 && allD (dlt 5) m198) = true := by kernel_rfl
def m201 : MC := .sq (.rg [.c 2 (.bool false)]) (.sq (.rg [.t 3 0, .o 4 (.cl 202 [.tmp 3, .const (.string ⟨#[46, 108, 111, 99, 107]⟩)]), .t 2 4]) (.rt))
theorem k201 : Tryz.f201.body.any (fun c => chkC Tryz.prog c m201 && allD (dlt 5) m201) = true := by kernel_rfl
def m203 : MC := .sq (.rg [.c 2 (.bool false)]) (.sq (.rg [.t 3 0, .o 4 (.cl 202 [.tmp 3, .const (.string ⟨#[46]⟩)]), .t 2 4]) (.rt))
theorem k203 : Tryz.f203.body.any (fun c => chkC Tryz.prog c m203 && allD (dlt 5) m203) = true := by kernel_rfl
def m204 : MC := .sq (.rg [.o 5 (.ld (.tmp 1) none), .o 6 (.ln false (.tmp 5)), .c 7 (.int .i64 0)]) (.bk 0 (.lp (.sq (.rg [.o 8 (.cm .lss (.tmp 7) (.tmp 6))]) (.sq (.cd (.tmp 8) (.sk) (.xt 0)) (.sq (.bk 1 (.sq (.rg [.o 9 (.ias (.tmp 5) (.tmp 7) 2), .o 10 (.ld (.tmp 9) (some 2)), .o 4 (.al [(1, .int .i64 0), (1, .nilFunc)] 200), .e (.st (.tmp 4) (.tmp 10) 2)]) (.sq (.rg [.t 11 0, .o 12 (.ld (.tmp 4) (some 2)), .o 13 (.cv (.tmp 11) [.tmp 12]), .o 14 (.nt (.tmp 13))]) (.cd (.tmp 14) (.rt) (.sk))))) (.rg [.o 15 (.ar .add .i64 (.tmp 7) (.const (.int .i64 1)) true), .t 7 15]))))))
theorem k204 : Tryz.f204.body.any (fun c => chkC Tryz.prog c m204 && allD (dlt 16) m204) = true := by kernel_rfl
def m195 : MC := .sq (.rg [.c 2 (.bool false)]) (.sq (.sq (.rg [.t 5 0, .o 6 (.rg (.tmp 5))]) (.bk 0 (.lp (.sq (.rg [.o 7 (.nx (.tmp 6)), .o 8 (.ex (.tmp 7) 0)]) (.sq (.cd (.tmp 8) (.sk) (.xt 0)) (.bk 1 (.sq (.rg [.o 9 (.ex (.tmp 7) 2), .t 4 9]) (.sq (.rg [.t 10 4, .o 11 (.cm .lss (.tmp 10) (.const (.int .i32 33))), .t 12 11, .q 13 12 false (.mv (.tmp 4)), .q 14 12 false (.cm .gtr (.tmp 13) (.const (.int .i32 126))), .o 15 (.pk (.tmp 12) (.const (.bool true)) (.tmp 14)), .t 16 15, .q 17 16 false (.mv (.tmp 4)), .q 18 16 false (.rs (.tmp 17)), .q 19 16 false (.cl 227 [.const (.string ⟨#[126, 94, 58, 63, 42, 91, 92]⟩), .tmp 18]), .o 20 (.pk (.tmp 16) (.const (.bool true)) (.tmp 19))]) (.cd (.tmp 20) (.sq (.rg [.c 2 (.bool true)]) (.rt)) (.sk)))))))))) (.sq (.rg [.c 2 (.bool false)]) (.rt)))
theorem k195 : Tryz.f195.body.any (fun c => chkC Tryz.prog c m195 && allD (dlt 21) m195) = true := by kernel_rfl
def m196 : MC := .sq (.rg [.o 1 (.bx 198 (.tmp 0)), .c 2 (.nilFunc)]) (.sq (.rg [.o 3 (.mf 228 [] [.tmp 1]), .t 2 3]) (.rt))
theorem k196 : Tryz.f196.body.any (fun c => chkC Tryz.prog c m196 && allD (dlt 4) m196) = true := by kernel_rfl
def m228 : MC := .sq (.rg [.c 3 (.bool false)]) (.sq (.sq (.rg [.t 6 0, .o 7 (.cl 229 [.tmp 6, .const (.string ⟨#[47]⟩)]), .o 8 (.ln false (.tmp 7)), .c 9 (.int .i64 0)]) (.bk 0 (.lp (.sq (.rg [.o 10 (.cm .lss (.tmp 9) (.tmp 8))]) (.sq (.cd (.tmp 10) (.sk) (.xt 0)) (.sq (.bk 1 (.sq (.rg [.o 11 (.ias (.tmp 7) (.tmp 9) 1), .o 12 (.ld (.tmp 11) none), .t 5 12]) (.sq (.rg [.o 13 (.ld (.tmp 1) none), .t 14 5, .o 15 (.cv (.tmp 13) [.tmp 14])]) (.cd (.tmp 15) (.sq (.rg [.c 3 (.bool true)]) (.rt)) (.sk))))) (.rg [.o 16 (.ar .add .i64 (.tmp 9) (.const (.int .i64 1)) true), .t 9 16]))))))) (.sq (.rg [.c 3 (.bool false)]) (.rt)))
theorem k228 : Tryz.f228.body.any (fun c => chkC Tryz.prog c m228 && allD (dlt 17) m228) = true := by kernel_rfl
def m200 : MC := .sq (.rg [.o 1 (.bx 9 (.tmp 0)), .c 2 (.nilFunc)]) (.sq (.rg [.o 3 (.mf 231 [] [.tmp 1]), .t 2 3]) (.rt))
theorem k200 : Tryz.f200.body.any (fun c => chkC Tryz.prog c m200 && allD (dlt 4) m200) = true := by kernel_rfl
def m231 : MC := .sq (.rg [.c 3 (.bool false)]) (.sq (.rg [.t 4 0, .o 5 (.ld (.tmp 1) none), .o 6 (.cl 227 [.tmp 4, .tmp 5]), .t 3 6]) (.rt))
theorem k231 : Tryz.f231.body.any (fun c => chkC Tryz.prog c m231 && allD (dlt 7) m231) = true := by kernel_rfl
def m87 : MC := .sq (.rg [.o 3 (.bx 38 (.tmp 1)), .c 4 (.string ⟨#[]⟩), .c 5 (.int .i64 0)]) (.sq (.sq (.rg [.t 7 0, .o 8 (.cl 72 [.tmp 7]), .t 6 8]) (.sq (.rg [.t 9 6, .o 10 (.cm .neq (.tmp 9) (.const (.int .i64 0)))]) (.cd (.tmp 10) (.sq (.rg [.t 11 6, .c 4 (.string ⟨#[]⟩), .t 5 11]) (.rt)) (.sk)))) (.sq (.rg [.t 12 0, .o 13 (.sa (.tmp 12) (.const (.string ⟨#[126]⟩))), .o 14 (.ld (.tmp 3) (some 32)), .o 15 (.cl 122 [.tmp 14]), .o 16 (.sa (.tmp 13) (.tmp 15)), .t 4 16, .c 5 (.int .i64 0)]) (.rt)))
theorem k87 : Tryz.f87.body.any (fun c => chkC Tryz.prog c m87 && allD (dlt 17) m87) = true := by kernel_rfl
def m183 : MC := .sq (.rg [.c 2 (.string ⟨#[]⟩), .o 3 (.al [(32, .int .u8 0)] 38), .c 4 (.bool false), .c 5 (.int .i64 0)]) (.sq (.rg [.t 8 0, .o 9 (.cl 222 [.tmp 8, .const (.string ⟨#[126]⟩)]), .t 7 9, .o 10 (.ex (.tmp 7) 0), .o 11 (.ex (.tmp 7) 1), .o 12 (.ex (.tmp 7) 2), .t 2 10, .t 6 11, .t 4 12]) (.sq (.sq (.rg [.t 13 4]) (.cd (.tmp 13) (.rg [.t 15 6, .o 16 (.cl 223 [.tmp 15]), .t 14 16, .o 17 (.ex (.tmp 14) 0), .o 18 (.ex (.tmp 14) 1), .e (.st (.tmp 3) (.tmp 17) 32), .t 5 18]) (.sk))) (.sq (.sq (.rg [.t 19 5, .o 20 (.cm .neq (.tmp 19) (.const (.int .i64 0))), .t 21 20, .q 22 21 false (.mv (.tmp 2)), .q 23 21 false (.cl 72 [.tmp 22]), .q 24 21 false (.cm .neq (.tmp 23) (.const (.int .i64 0))), .o 25 (.pk (.tmp 21) (.const (.bool true)) (.tmp 24))]) (.cd (.tmp 25) (.sq (.rg [.o 26 (.bd [(32, .int .u8 0)] []), .c 2 (.string ⟨#[]⟩), .e (.st (.tmp 3) (.tmp 26) 32), .c 4 (.bool false), .c 5 (.int .i64 40)]) (.rt)) (.sk))) (.sq (.dr [.t 27 2, .o 28 (.ld (.tmp 3) (some 32)), .t 29 4, .t 2 27, .e (.st (.tmp 3) (.tmp 28) 32), .t 4 29, .c 5 (.int .i64 0)] [0, 0, 0, 1, 11, 31, 63] (.q 0 (.q 1 (.q 2 (.e 3 [1] (.e 4 [] (.e 5 [] (.q 6 (.fin))))))))) (.rt)))))
theorem k183 : Tryz.f183.body.any (fun c => chkC Tryz.prog c m183 && allD (dlt 30) m183) = true := by kernel_rfl
def m122 : MC := .sq (.rg [.o 1 (.bx 38 (.tmp 0)), .c 2 (.string ⟨#[]⟩)]) (.sq (.rg [.c 3 (.slice none 0 0)]) (.sq (.sq (.rg [.o 6 (.ld (.tmp 1) (some 32)), .c 7 (.int .i64 0)]) (.bk 0 (.lp (.sq (.rg [.o 8 (.cm .lss (.tmp 7) (.const (.int .i64 32)))]) (.sq (.cd (.tmp 8) (.sk) (.xt 0)) (.sq (.bk 1 (.sq (.rg [.o 9 (.ixa (.tmp 6) (.tmp 7) 32 1 none), .t 5 9]) (.dr [.t 10 3, .t 11 5, .o 12 (.sh .shr .u8 (.tmp 11) (.const (.int .u64 4))), .o 13 (.ixs (.const (.string ⟨#[48, 49, 50, 51, 52, 53, 54, 55, 56, 57, 97, 98, 99, 100, 101, 102]⟩)) (.tmp 12)), .t 14 5, .o 15 (.bt .and .u8 (.tmp 14) (.const (.int .u8 15))), .o 16 (.ixs (.const (.string ⟨#[48, 49, 50, 51, 52, 53, 54, 55, 56, 57, 97, 98, 99, 100, 101, 102]⟩)) (.tmp 15)), .o 17 (.bl 5 1 [.tmp 13, .tmp 16]), .o 18 (.ap 5 1 1 [(1, .int .u8 0)] (.tmp 10) (.tmp 17)), .t 3 18] [0, 0, 2, 6, 0, 16, 48, 126, 255, 511] (.q 0 (.q 1 (.q 2 (.q 3 (.q 4 (.q 5 (.q 6 (.e 7 [] (.e 8 [] (.e 9 [] (.fin)))))))))))))) (.rg [.o 19 (.ar .add .i64 (.tmp 7) (.const (.int .i64 1)) true), .t 7 19]))))))) (.sq (.rg [.t 20 3, .o 21 (.bs (.tmp 20)), .t 2 21]) (.rt))))
theorem k122 : Tryz.f122.body.any (fun c => chkC Tryz.prog c m122 && allD (dlt 22) m122) = true := by kernel_rfl
def m223 : MC := .sq (.rg [.o 2 (.al [(32, .int .u8 0)] 38), .c 3 (.int .i64 0)]) (.sq (.rg [.o 4 (.al [(32, .int .u8 0)] 38)]) (.sq (.sq (.rg [.t 7 0, .o 8 (.ln true (.tmp 7)), .o 9 (.cm .neq (.tmp 8) (.const (.int .i64 64)))]) (.cd (.tmp 9) (.sq (.rg [.o 10 (.ld (.tmp 4) (some 32)), .e (.st (.tmp 2) (.tmp 10) 32), .c 3 (.int .i64 30)]) (.rt)) (.sk))) (.sq (.sq (.rg [.t 11 0, .o 12 (.ln true (.tmp 11)), .c 13 (.int .i64 0)]) (.bk 0 (.lp (.sq (.rg [.o 14 (.cm .lss (.tmp 13) (.tmp 12))]) (.sq (.cd (.tmp 14) (.sk) (.xt 0)) (.sq (.bk 1 (.sq (.rg [.t 15 13, .t 5 15]) (.sq (.rg [.o 16 (.bl 5 1 [.const (.int .u8 48), .const (.int .u8 49), .const (.int .u8 50), .const (.int .u8 51), .const (.int .u8 52), .const (.int .u8 53), .const (.int .u8 54), .const (.int .u8 55), .const (.int .u8 56), .const (.int .u8 57), .const (.int .u8 97), .const (.int .u8 98), .const (.int .u8 99), .const (.int .u8 100), .const (.int .u8 101), .const (.int .u8 102)]), .o 17 (.mb (.tmp 16)), .t 18 0, .t 19 5, .o 20 (.ixs (.tmp 18) (.tmp 19)), .o 21 (.cl 250 [.tmp 17, .tmp 20]), .t 6 21]) (.sq (.sq (.rg [.t 22 6, .o 23 (.cm .lss (.tmp 22) (.const (.int .i64 0)))]) (.cd (.tmp 23) (.sq (.rg [.o 24 (.bd [(32, .int .u8 0)] []), .e (.st (.tmp 2) (.tmp 24) 32), .c 3 (.int .i64 30)]) (.rt)) (.sk))) (.rg [.t 25 5, .o 26 (.dv .quo .i64 (.tmp 25) (.const (.int .i64 2))), .t 27 5, .o 28 (.dv .quo .i64 (.tmp 27) (.const (.int .i64 2))), .o 29 (.iaa (.tmp 4) (.tmp 28) 32 1), .o 30 (.ld (.tmp 29) none), .o 31 (.sh .shl .u8 (.tmp 30) (.const (.int .u64 4))), .t 32 6, .o 33 (.ci .u8 (.tmp 32)), .o 34 (.bt .or .u8 (.tmp 31) (.tmp 33)), .o 35 (.iaa (.tmp 4) (.tmp 26) 32 1), .e (.st (.tmp 35) (.tmp 34) 1)]))))) (.rg [.o 36 (.ar .add .i64 (.tmp 13) (.const (.int .i64 1)) true), .t 13 36]))))))) (.sq (.rg [.o 37 (.ld (.tmp 4) (some 32)), .e (.st (.tmp 2) (.tmp 37) 32), .c 3 (.int .i64 0)]) (.rt)))))
theorem k223 : Tryz.f223.body.any (fun c => chkC Tryz.prog c m223 && allD (dlt 38) m223) = true := by kernel_rfl
def m84 : MC := .sq (.rg [.o 2 (.bx 38 (.tmp 0)), .o 3 (.bx 38 (.tmp 1)), .c 4 (.int .i64 0)]) (.sq (.sq (.rg [.o 5 (.ld (.tmp 2) (some 32)), .o 6 (.ld (.tmp 3) (some 32)), .o 7 (.aq .eql 32 (.tmp 5) (.tmp 6))]) (.cd (.tmp 7) (.sq (.rg [.c 4 (.int .i64 0)]) (.rt)) (.sk))) (.sq (.dr [.o 8 (.sp (.tmp 2) none none 32 1), .o 9 (.sp (.tmp 3) none none 32 1), .o 10 (.cl 116 [.tmp 8, .tmp 9]), .t 4 10] [0, 0, 3, 7] (.q 0 (.q 1 (.e 2 [] (.q 3 (.fin)))))) (.rt)))
theorem k84 : Tryz.f84.body.any (fun c => chkC Tryz.prog c m84 && allD (dlt 11) m84) = true := by kernel_rfl
def m116 : MC := .sq (.rg [.c 4 (.int .i64 0)]) (.sq (.rg [.t 5 0, .t 6 1, .o 7 (.xl 161 [.tmp 5, .tmp 6]), .t 4 7]) (.rt))
theorem k116 : Tryz.f116.body.any (fun c => chkC Tryz.prog c m116 && allD (dlt 8) m116) = true := by kernel_rfl
def m46 : MC := .sq (.rg [.c 2 (.slice none 0 0)]) (.sq (.rg [.t 4 0, .o 5 (.cl 82 [.tmp 4]), .t 3 5]) (.sq (.rg [.t 6 3, .o 7 (.cl 83 [.tmp 6, .func 84])]) (.sq (.rg [.t 8 3, .o 9 (.cl 85 [.tmp 8]), .t 2 9]) (.rt))))
theorem k46 : Tryz.f46.body.any (fun c => chkC Tryz.prog c m46 && allD (dlt 10) m46) = true := by kernel_rfl
def m82 : MC := .sq (.rg [.c 2 (.slice none 0 0)]) (.sq (.sq (.rg [.t 3 0, .o 4 (.sn .eql (.tmp 3))]) (.cd (.tmp 4) (.sq (.rg [.c 2 (.slice none 0 0)]) (.rt)) (.sk))) (.sq (.rg [.o 5 (.bl 38 32 []), .t 6 0, .o 7 (.ap 38 32 32 [(32, .int .u8 0)] (.tmp 5) (.tmp 6)), .t 2 7]) (.rt)))
theorem k82 : Tryz.f82.body.any (fun c => chkC Tryz.prog c m82 && allD (dlt 8) m82) = true := by kernel_rfl
def m85 : MC := .sq (.rg [.c 2 (.slice none 0 0)]) (.sq (.sq (.rg [.t 6 0, .o 7 (.ln false (.tmp 6)), .o 8 (.cm .lss (.tmp 7) (.const (.int .i64 2)))]) (.cd (.tmp 8) (.sq (.rg [.t 9 0, .t 2 9]) (.rt)) (.sk))) (.sq (.sq (.rg [.c 3 (.int .i64 1)]) (.bk 0 (.lp (.sq (.sq (.rg [.t 10 3, .t 11 0, .o 12 (.ln false (.tmp 11)), .o 13 (.cm .lss (.tmp 10) (.tmp 12))]) (.cd (.tmp 13) (.sk) (.xt 0))) (.sq (.bk 1 (.sq (.dr [.t 16 0, .t 17 3, .o 18 (.ias (.tmp 16) (.tmp 17) 32), .o 19 (.ld (.tmp 18) (some 32)), .t 20 0, .t 21 3, .o 22 (.ar .sub .i64 (.tmp 21) (.const (.int .i64 1)) true), .o 23 (.ias (.tmp 20) (.tmp 22) 32), .o 24 (.ld (.tmp 23) (some 32)), .o 25 (.aq .eql 32 (.tmp 19) (.tmp 24))] [0, 0, 3, 7, 0, 0, 32, 112, 240, 511] (.q 0 (.q 1 (.q 2 (.q 3 (.q 4 (.q 5 (.q 6 (.q 7 (.q 8 (.q 9 (.fin)))))))))))) (.cd (.tmp 25) (.sq (.rg [.t 26 0, .t 27 3, .o 28 (.sl (.tmp 26) (some (.tmp 27)) none none 32), .t 4 28]) (.sq (.sq (.rg [.c 5 (.int .i64 1)]) (.bk 2 (.lp (.sq (.sq (.rg [.t 29 5, .t 30 4, .o 31 (.ln false (.tmp 30)), .o 32 (.cm .lss (.tmp 29) (.tmp 31))]) (.cd (.tmp 32) (.sk) (.xt 2))) (.sq (.bk 3 (.sq (.dr [.t 35 4, .t 36 5, .o 37 (.ias (.tmp 35) (.tmp 36) 32), .o 38 (.ld (.tmp 37) (some 32)), .t 39 4, .t 40 5, .o 41 (.ar .sub .i64 (.tmp 40) (.const (.int .i64 1)) true), .o 42 (.ias (.tmp 39) (.tmp 41) 32), .o 43 (.ld (.tmp 42) (some 32)), .o 44 (.aq .neq 32 (.tmp 38) (.tmp 43))] [0, 0, 3, 7, 0, 0, 32, 112, 240, 511] (.q 0 (.q 1 (.q 2 (.q 3 (.q 4 (.q 5 (.q 6 (.q 7 (.q 8 (.q 9 (.fin)))))))))))) (.cd (.tmp 44) (.sq (.rg [.t 45 0, .t 46 3, .t 47 4, .t 48 5, .o 49 (.ias (.tmp 47) (.tmp 48) 32), .o 50 (.ld (.tmp 49) (some 32)), .o 51 (.ias (.tmp 45) (.tmp 46) 32), .e (.st (.tmp 51) (.tmp 50) 32)]) (.rg [.t 52 3, .o 53 (.ar .add .i64 (.tmp 52) (.const (.int .i64 1)) true), .t 3 53])) (.sk)))) (.rg [.t 33 5, .o 34 (.ar .add .i64 (.tmp 33) (.const (.int .i64 1)) true), .t 5 34])))))) (.sq (.rg [.t 54 0, .t 55 3, .o 56 (.sl (.tmp 54) (some (.tmp 55)) none none 32), .e (.clr 32 [(32, .int .u8 0)] (.tmp 56))]) (.sq (.rg [.t 57 0, .t 58 3, .o 59 (.sl (.tmp 57) none (some (.tmp 58)) none 32), .t 2 59]) (.rt))))) (.sk)))) (.rg [.t 14 3, .o 15 (.ar .add .i64 (.tmp 14) (.const (.int .i64 1)) true), .t 3 15])))))) (.sq (.rg [.t 60 0, .t 2 60]) (.rt))))
theorem k85 : Tryz.f85.body.any (fun c => chkC Tryz.prog c m85 && allD (dlt 61) m85) = true := by kernel_rfl
end Go.Proofs.YtfffdhafbbbpcaaGreatDoor
namespace Go.Proofs
open Go.Shelf
def Tryz.lays144_ren : Go.Shelf.Ren := ⟨fun | 144 => 227 | 143 => 254 | 219 => 263 | 217 => 275 | 225 => 276 | 224 => 277 | 267 => 278 | 266 => 285 | 314 => 286 | n => n, fun | 9 => 9 | 4 => 4 | 3 => 3 | 5 => 5 | 46 => 143 | 146 => 358 | 51 => 22 | n => n, fun | 1 => 0 | n => n⟩
theorem Tryz.lays144 : Go.Proofs.Lays.n144 Tryz.prog Tryz.lays144_ren := {
 mixed := by kernel_rfl
 f143 := Tryz.func254.trans (congrArg some (by kernel_rfl))
 f144 := Tryz.func227.trans (congrArg some (by kernel_rfl))
 f217 := Tryz.func275.trans (congrArg some (by kernel_rfl))
 f219 := Tryz.func263.trans (congrArg some (by kernel_rfl))
 f224 := Tryz.func277.trans (congrArg some (by kernel_rfl))
 f225 := Tryz.func276.trans (congrArg some (by kernel_rfl))
 f266 := Tryz.func285.trans (congrArg some (by kernel_rfl))
 f267 := Tryz.func278.trans (congrArg some (by kernel_rfl))
 f314 := Tryz.func286.trans (congrArg some (by kernel_rfl))
 t3 := Tryz.underlying3
 a3 := Tryz.isAgg3
 z3 := Tryz.sizeOf3
 v3 := Tryz.zeroValue3
 t4 := Tryz.underlying4
 a4 := Tryz.isAgg4
 z4 := Tryz.sizeOf4
 v4 := Tryz.zeroValue4
 t5 := Tryz.underlying5
 a5 := Tryz.isAgg5
 z5 := Tryz.sizeOf5
 v5 := Tryz.zeroValue5
 t9 := Tryz.underlying9
 a9 := Tryz.isAgg9
 z9 := Tryz.sizeOf9
 v9 := Tryz.zeroValue9
 t46 := Tryz.underlying143
 a46 := Tryz.isAgg143
 z46 := Tryz.sizeOf143
 v46 := Tryz.zeroValue143
 t51 := Tryz.underlying22
 a51 := Tryz.isAgg22
 z51 := Tryz.sizeOf22
 v51 := Tryz.zeroValue22
 t146 := Tryz.underlying358
 a146 := Tryz.isAgg358
 z146 := Tryz.sizeOf358
 v146 := Tryz.zeroValue358
 g1 := by kernel_rfl }
open Go.RowKit Go.Lib in
theorem Tryz.strings_Contains (s sub : ByteArray) (m : Int) (w : World) (hs : s.size < 4294967281) (hm : w.cell? ⟨0, 0, none⟩ = some (.int .i64 m)) :
  Calls Tryz.prog 227 #[.string s, .string sub] w fun e w' => e = .returned (.bool (Lib.contains s.data.toList sub.data.toList)) ∧ w' = w := Any.strings_Contains Tryz.lays144 s sub m w hs hm
def Tryz.lays145_ren : Go.Shelf.Ren := ⟨fun | 145 => 222 | 220 => 249 | 219 => 263 | 217 => 275 | 225 => 276 | 224 => 277 | 267 => 278 | 266 => 285 | 314 => 286 | n => n, fun | 9 => 9 | 4 => 4 | 59 => 280 | 3 => 3 | 5 => 5 | 46 => 143 | 146 => 358 | 51 => 22 | n => n, fun | 1 => 0 | n => n⟩
theorem Tryz.lays145 : Go.Proofs.Lays.n145 Tryz.prog Tryz.lays145_ren := {
 mixed := by kernel_rfl
 f145 := Tryz.func222.trans (congrArg some (by kernel_rfl))
 f217 := Tryz.func275.trans (congrArg some (by kernel_rfl))
 f219 := Tryz.func263.trans (congrArg some (by kernel_rfl))
 f220 := Tryz.func249.trans (congrArg some (by kernel_rfl))
 f224 := Tryz.func277.trans (congrArg some (by kernel_rfl))
 f225 := Tryz.func276.trans (congrArg some (by kernel_rfl))
 f266 := Tryz.func285.trans (congrArg some (by kernel_rfl))
 f267 := Tryz.func278.trans (congrArg some (by kernel_rfl))
 f314 := Tryz.func286.trans (congrArg some (by kernel_rfl))
 t3 := Tryz.underlying3
 a3 := Tryz.isAgg3
 z3 := Tryz.sizeOf3
 v3 := Tryz.zeroValue3
 t4 := Tryz.underlying4
 a4 := Tryz.isAgg4
 z4 := Tryz.sizeOf4
 v4 := Tryz.zeroValue4
 t5 := Tryz.underlying5
 a5 := Tryz.isAgg5
 z5 := Tryz.sizeOf5
 v5 := Tryz.zeroValue5
 t9 := Tryz.underlying9
 a9 := Tryz.isAgg9
 z9 := Tryz.sizeOf9
 v9 := Tryz.zeroValue9
 t46 := Tryz.underlying143
 a46 := Tryz.isAgg143
 z46 := Tryz.sizeOf143
 v46 := Tryz.zeroValue143
 t51 := Tryz.underlying22
 a51 := Tryz.isAgg22
 z51 := Tryz.sizeOf22
 v51 := Tryz.zeroValue22
 t59 := Tryz.underlying280
 a59 := Tryz.isAgg280
 z59 := Tryz.sizeOf280
 v59 := Tryz.zeroValue280
 t146 := Tryz.underlying358
 a146 := Tryz.isAgg358
 z146 := Tryz.sizeOf358
 v146 := Tryz.zeroValue358
 g1 := by kernel_rfl }
open Go.RowKit Go.Lib in
theorem Tryz.strings_Cut (s sep : ByteArray) (m : Int) (w : World) (hs : s.size < 4294967281) (hm : w.cell? ⟨0, 0, none⟩ = some (.int .i64 m)) :
  Calls Tryz.prog 222 #[.string s, .string sep] w fun e w' => e = .returned (.tuple #[.string ⟨(Lib.cut s.data.toList sep.data.toList).1.toArray⟩, .string ⟨(Lib.cut s.data.toList sep.data.toList).2.1.toArray⟩, .bool (Lib.cut s.data.toList sep.data.toList).2.2]) ∧ ∃ n, w' = w.drewN n := Any.strings_Cut Tryz.lays145 s sep m w hs hm
def Tryz.lays190_ren : Go.Shelf.Ren := ⟨fun | 190 => 52 | 125 => 93 | 258 => 92 | 128 => 137 | 129 => 138 | 302 => 128 | 303 => 129 | 304 => 130 | 305 => 131 | 306 => 132 | 307 => 133 | 308 => 134 | 309 => 135 | 310 => 136 | 333 => 184 | 329 => 185 | 330 => 186 | 334 => 187 | 335 => 188 | 336 => 181 | 344 => 224 | n => n, fun | 31 => 61 | 9 => 9 | 3 => 3 | 46 => 143 | 0 => 0 | 51 => 22 | 53 => 189 | 4 => 4 | 183 => 180 | 182 => 179 | 131 => 185 | 5 => 5 | 218 => 248 | 222 => 252 | 228 => 284 | 229 => 285 | n => n, fun | n => n⟩
theorem Tryz.lays190 : Go.Proofs.Lays.n190 Tryz.prog Tryz.lays190_ren := {
 mixed := by kernel_rfl
 f125 := Tryz.func93.trans (congrArg some (by kernel_rfl))
 f128 := Tryz.func137.trans (congrArg some (by kernel_rfl))
 f129 := Tryz.func138.trans (congrArg some (by kernel_rfl))
 f190 := Tryz.func52.trans (congrArg some (by kernel_rfl))
 f258 := Tryz.func92.trans (congrArg some (by kernel_rfl))
 f302 := Tryz.func128.trans (congrArg some (by kernel_rfl))
 f303 := Tryz.func129.trans (congrArg some (by kernel_rfl))
 f304 := Tryz.func130.trans (congrArg some (by kernel_rfl))
 f305 := Tryz.func131.trans (congrArg some (by kernel_rfl))
 f306 := Tryz.func132.trans (congrArg some (by kernel_rfl))
 f307 := Tryz.func133.trans (congrArg some (by kernel_rfl))
 f308 := Tryz.func134.trans (congrArg some (by kernel_rfl))
 f309 := Tryz.func135.trans (congrArg some (by kernel_rfl))
 f310 := Tryz.func136.trans (congrArg some (by kernel_rfl))
 f329 := Tryz.func185.trans (congrArg some (by kernel_rfl))
 f330 := Tryz.func186.trans (congrArg some (by kernel_rfl))
 f333 := Tryz.func184.trans (congrArg some (by kernel_rfl))
 f334 := Tryz.func187.trans (congrArg some (by kernel_rfl))
 f335 := Tryz.func188.trans (congrArg some (by kernel_rfl))
 f336 := Tryz.func181.trans (congrArg some (by kernel_rfl))
 f344 := Tryz.func224.trans (congrArg some (by kernel_rfl))
 t0 := Tryz.underlying0
 a0 := Tryz.isAgg0
 z0 := Tryz.sizeOf0
 v0 := Tryz.zeroValue0
 t3 := Tryz.underlying3
 a3 := Tryz.isAgg3
 z3 := Tryz.sizeOf3
 v3 := Tryz.zeroValue3
 t4 := Tryz.underlying4
 a4 := Tryz.isAgg4
 z4 := Tryz.sizeOf4
 v4 := Tryz.zeroValue4
 t5 := Tryz.underlying5
 a5 := Tryz.isAgg5
 z5 := Tryz.sizeOf5
 v5 := Tryz.zeroValue5
 t9 := Tryz.underlying9
 a9 := Tryz.isAgg9
 z9 := Tryz.sizeOf9
 v9 := Tryz.zeroValue9
 t31 := Tryz.underlying61
 a31 := Tryz.isAgg61
 z31 := Tryz.sizeOf61
 v31 := Tryz.zeroValue61
 t46 := Tryz.underlying143
 a46 := Tryz.isAgg143
 z46 := Tryz.sizeOf143
 v46 := Tryz.zeroValue143
 t51 := Tryz.underlying22
 a51 := Tryz.isAgg22
 z51 := Tryz.sizeOf22
 v51 := Tryz.zeroValue22
 t53 := Tryz.underlying189
 a53 := Tryz.isAgg189
 z53 := Tryz.sizeOf189
 v53 := Tryz.zeroValue189
 t131 := Tryz.underlying185
 a131 := Tryz.isAgg185
 z131 := Tryz.sizeOf185
 v131 := Tryz.zeroValue185
 t182 := Tryz.underlying179
 a182 := Tryz.isAgg179
 z182 := Tryz.sizeOf179
 v182 := Tryz.zeroValue179
 t183 := Tryz.underlying180
 a183 := Tryz.isAgg180
 z183 := Tryz.sizeOf180
 v183 := Tryz.zeroValue180
 t218 := Tryz.underlying248
 a218 := Tryz.isAgg248
 z218 := Tryz.sizeOf248
 v218 := Tryz.zeroValue248
 t222 := Tryz.underlying252
 a222 := Tryz.isAgg252
 z222 := Tryz.sizeOf252
 v222 := Tryz.zeroValue252
 t228 := Tryz.underlying284
 a228 := Tryz.isAgg284
 z228 := Tryz.sizeOf284
 v228 := Tryz.zeroValue284
 t229 := Tryz.underlying285
 a229 := Tryz.isAgg285
 z229 := Tryz.sizeOf285
 v229 := Tryz.zeroValue285 }
open Go.Sort Go.RowKit in
theorem Tryz.slices_Sort_string (blk off cap : Nat) (ss : List (List UInt8)) (w : World) (hH : Holds encStr w blk off ss.toArray) (hblk : blk < w.heap.size) (hsz : ss.length < 4611686018427387904) :
  Calls Tryz.prog 52 #[.slice (some ⟨blk, off, none⟩) ss.length cap] w fun e w' =>
   e = .returned (.tuple #[]) ∧ ∃ n os, w' = grow (putRow encStr (Sort.ahead w n) blk off (ss.mergeSort fun x y => decide (x ≤ y)).toArray) os := Any.slices_Sort_string Tryz.lays190 blk off cap ss w hH hblk hsz
def Tryz.lays99_ren : Go.Shelf.Ren := ⟨fun | 99 => 199 | 206 => 230 | n => n, fun | 9 => 9 | 4 => 4 | 3 => 3 | n => n, fun | n => n⟩
theorem Tryz.lays99 : Go.Proofs.Lays.n99 Tryz.prog Tryz.lays99_ren := {
 mixed := by kernel_rfl
 f99 := Tryz.func199.trans (congrArg some (by kernel_rfl))
 f206 := Tryz.func230.trans (congrArg some (by kernel_rfl))
 t3 := Tryz.underlying3
 a3 := Tryz.isAgg3
 z3 := Tryz.sizeOf3
 v3 := Tryz.zeroValue3
 t4 := Tryz.underlying4
 a4 := Tryz.isAgg4
 z4 := Tryz.sizeOf4
 v4 := Tryz.zeroValue4
 t9 := Tryz.underlying9
 a9 := Tryz.isAgg9
 z9 := Tryz.sizeOf9
 v9 := Tryz.zeroValue9 }
open Go.RowKit Go.Lib in
theorem Tryz.strings_HasPrefix (s p : ByteArray) (w : World) :
  Calls Tryz.prog 199 #[.string s, .string p] w fun e w' => e = .returned (.bool (Lib.hasPrefix s.data.toList p.data.toList)) ∧ w' = w := Any.strings_HasPrefix Tryz.lays99 s p w
def Tryz.lays100_ren : Go.Shelf.Ren := ⟨fun | 100 => 202 | 207 => 232 | n => n, fun | 9 => 9 | 4 => 4 | 3 => 3 | n => n, fun | n => n⟩
theorem Tryz.lays100 : Go.Proofs.Lays.n100 Tryz.prog Tryz.lays100_ren := {
 mixed := by kernel_rfl
 f100 := Tryz.func202.trans (congrArg some (by kernel_rfl))
 f207 := Tryz.func232.trans (congrArg some (by kernel_rfl))
 t3 := Tryz.underlying3
 a3 := Tryz.isAgg3
 z3 := Tryz.sizeOf3
 v3 := Tryz.zeroValue3
 t4 := Tryz.underlying4
 a4 := Tryz.isAgg4
 z4 := Tryz.sizeOf4
 v4 := Tryz.zeroValue4
 t9 := Tryz.underlying9
 a9 := Tryz.isAgg9
 z9 := Tryz.sizeOf9
 v9 := Tryz.zeroValue9 }
open Go.RowKit Go.Lib in
theorem Tryz.strings_HasSuffix (s p : ByteArray) (w : World) (hs : s.size ≤ 9223372036854775807) :
  Calls Tryz.prog 202 #[.string s, .string p] w fun e w' => e = .returned (.bool (Lib.hasSuffix s.data.toList p.data.toList)) ∧ w' = w := Any.strings_HasSuffix Tryz.lays100 s p w hs
def Tryz.lays146_ren : Go.Shelf.Ren := ⟨fun | 146 => 229 | 221 => 255 | 268 => 268 | 138 => 269 | 143 => 254 | 195 => 281 | 197 => 282 | 218 => 283 | 219 => 263 | 260 => 296 | 217 => 275 | 225 => 276 | 224 => 277 | 267 => 278 | 266 => 285 | 314 => 286 | n => n, fun | 9 => 9 | 31 => 61 | 3 => 3 | 4 => 4 | 0 => 0 | 105 => 356 | 21 => 21 | 5 => 5 | 46 => 143 | 119 => 377 | 139 => 380 | 138 => 379 | 146 => 358 | 51 => 22 | n => n, fun | 1 => 0 | 3 => 1 | 4 => 2 | n => n⟩
theorem Tryz.lays146 : Go.Proofs.Lays.n146 Tryz.prog Tryz.lays146_ren := {
 mixed := by kernel_rfl
 f138 := Tryz.func269.trans (congrArg some (by kernel_rfl))
 f143 := Tryz.func254.trans (congrArg some (by kernel_rfl))
 f146 := Tryz.func229.trans (congrArg some (by kernel_rfl))
 f195 := Tryz.func281.trans (congrArg some (by kernel_rfl))
 f197 := Tryz.func282.trans (congrArg some (by kernel_rfl))
 f217 := Tryz.func275.trans (congrArg some (by kernel_rfl))
 f218 := Tryz.func283.trans (congrArg some (by kernel_rfl))
 f219 := Tryz.func263.trans (congrArg some (by kernel_rfl))
 f221 := Tryz.func255.trans (congrArg some (by kernel_rfl))
 f224 := Tryz.func277.trans (congrArg some (by kernel_rfl))
 f225 := Tryz.func276.trans (congrArg some (by kernel_rfl))
 f260 := Tryz.func296.trans (congrArg some (by kernel_rfl))
 f266 := Tryz.func285.trans (congrArg some (by kernel_rfl))
 f267 := Tryz.func278.trans (congrArg some (by kernel_rfl))
 f268 := Tryz.func268.trans (congrArg some (by kernel_rfl))
 f314 := Tryz.func286.trans (congrArg some (by kernel_rfl))
 t0 := Tryz.underlying0
 a0 := Tryz.isAgg0
 z0 := Tryz.sizeOf0
 v0 := Tryz.zeroValue0
 t3 := Tryz.underlying3
 a3 := Tryz.isAgg3
 z3 := Tryz.sizeOf3
 v3 := Tryz.zeroValue3
 t4 := Tryz.underlying4
 a4 := Tryz.isAgg4
 z4 := Tryz.sizeOf4
 v4 := Tryz.zeroValue4
 t5 := Tryz.underlying5
 a5 := Tryz.isAgg5
 z5 := Tryz.sizeOf5
 v5 := Tryz.zeroValue5
 t9 := Tryz.underlying9
 a9 := Tryz.isAgg9
 z9 := Tryz.sizeOf9
 v9 := Tryz.zeroValue9
 t21 := Tryz.underlying21
 a21 := Tryz.isAgg21
 z21 := Tryz.sizeOf21
 v21 := Tryz.zeroValue21
 t31 := Tryz.underlying61
 a31 := Tryz.isAgg61
 z31 := Tryz.sizeOf61
 v31 := Tryz.zeroValue61
 t46 := Tryz.underlying143
 a46 := Tryz.isAgg143
 z46 := Tryz.sizeOf143
 v46 := Tryz.zeroValue143
 t51 := Tryz.underlying22
 a51 := Tryz.isAgg22
 z51 := Tryz.sizeOf22
 v51 := Tryz.zeroValue22
 t105 := Tryz.underlying356
 a105 := Tryz.isAgg356
 z105 := Tryz.sizeOf356
 v105 := Tryz.zeroValue356
 t119 := Tryz.underlying377
 a119 := Tryz.isAgg377
 z119 := Tryz.sizeOf377
 t138 := Tryz.underlying379
 a138 := Tryz.isAgg379
 z138 := Tryz.sizeOf379
 v138 := Tryz.zeroValue379
 t139 := Tryz.underlying380
 a139 := Tryz.isAgg380
 z139 := Tryz.sizeOf380
 v139 := Tryz.zeroValue380
 t146 := Tryz.underlying358
 a146 := Tryz.isAgg358
 z146 := Tryz.sizeOf358
 v146 := Tryz.zeroValue358
 g1 := by kernel_rfl
 g3 := by kernel_rfl
 g4 := by kernel_rfl }
open Go.RowKit Go.Lib in
theorem Tryz.strings_Split (s sep : ByteArray) (m : Int) (w : World) (hs : s.size < 4294967281) (hm : w.cell? ⟨0, 0, none⟩ = some (.int .i64 m)) (h1 : 1 ≤ sep.size) :
  Calls Tryz.prog 229 #[.string s, .string sep] w fun e w' =>
   e = .returned (.slice (some ⟨w.heap.size, 0, none⟩) (Lib.countB s sep + 1) (Lib.countB s sep + 1)) ∧ w' = w.alloc (.cells ((Lib.splitB sep 0 (Lib.countB s sep) s).map Value.string).toArray 9) := Any.strings_Split Tryz.lays146 (by kernel_rfl) s sep m w hs hm h1
open Go.RowKit Go.Sort in
theorem Tryz.slices_Sort_string_none (p : Option Addr) (cap : Nat) (w : World) :
  Calls Tryz.prog 52 #[.slice p 0 cap] w fun e w' => e = .returned (.tuple #[]) ∧ w' = w := Any.slices_Sort_string_none Tryz.lays190 p cap w
def Tryz.lays187_ren : Go.Shelf.Ren := ⟨fun | 187 => 250 | 255 => 264 | n => n, fun | 37 => 159 | 5 => 5 | 3 => 3 | n => n, fun | n => n⟩
theorem Tryz.lays187 : Go.Proofs.Lays.n187 Tryz.prog Tryz.lays187_ren := {
 mixed := by kernel_rfl
 f187 := Tryz.func250.trans (congrArg some (by kernel_rfl))
 f255 := Tryz.func264.trans (congrArg some (by kernel_rfl))
 t3 := Tryz.underlying3
 a3 := Tryz.isAgg3
 z3 := Tryz.sizeOf3
 v3 := Tryz.zeroValue3
 t5 := Tryz.underlying5
 a5 := Tryz.isAgg5
 z5 := Tryz.sizeOf5
 v5 := Tryz.zeroValue5
 t37 := Tryz.underlying159
 a37 := Tryz.isAgg159
 z37 := Tryz.sizeOf159
 v37 := Tryz.zeroValue159 }
theorem Tryz.bytes_IndexByte (b o n c : Nat) (xs : List Int) (cv : Int) (w : World) (hx : xs.length = n) (hc : ∀ i, i < n → w.cell? ⟨b, o + i, none⟩ = some (.int .u8 (xs.getD i 0))) :
  Calls Tryz.prog 250 #[.slice (some ⟨b, o, none⟩) n c, .int .u8 cv] w fun e w' => e = .returned (.int .i64 (Lib.indexByte (Lib.bytesOf xs) cv.toNat.toUInt8)) ∧ w' = w := Any.bytes_IndexByte Tryz.lays187 b o n c xs cv w hx hc
end Go.Proofs
namespace Go.Proofs.YtfffdhafbbbpcaaGreatDoor
open Go.En
theorem mixed : Tryz.prog.follows .mixedOrders = true := by kernel_rfl
abbrev Bs := List UInt8
def sv (s : Bs) : Value := .string ⟨s.toArray⟩
def dp (b : Nat) : Value := .pointer (some ⟨b, 0, none⟩)
def Gl (w : World) : Prop := ∃ m, w.cell? ⟨0, 0, none⟩ = some (.int .i64 m)
section
variable {w w0 : World} {S0 : Nat → Prop} {L : List Res} {K : Value → World → Prop} {P : Program} {f : FuncId} {args : List Value} {v : Value}
theorem Gl.to (h : Gl w0) (h0 : ¬ S0 0) (hS : St w0 S0 w L) : Gl w := by
 obtain ⟨m, hm⟩ := h
 refine ⟨m, ?_⟩
 have hlt : 0 < w0.heap.size := by
  unfold World.cell? at hm
  by_cases hl : 0 < w0.heap.size
  ·exact hl
  ·rw [Array.getElem?_eq_none (show _ ≤ 0 by omega)] at hm; cases hm
 have := hS.fr.kept 0 hlt h0
 unfold World.cell? at hm ⊢
 rw [this]; exact hm
theorem Gl.in (h : Gl w0) (hS : St w0 (fun _ => False) w L) : Gl w := h.to (fun h => h) hS
theorem Gl.drew (h : Gl w) : Gl w.drew := h
theorem ck_of (h : Calls P f ⟨args⟩ w fun e w' => e = .returned v ∧ w' = w) (hk : K v w) : CK P f args w K :=
 h.mono fun e w' ⟨he, hw⟩ => ⟨v, he, hw ▸ hk⟩
theorem ck_drew (h : Calls P f ⟨args⟩ w fun e w' => e = .returned v ∧ ∃ n, w' = w.drewN n) (hS : St w0 S0 w L) (hk : ∀ w', St w0 S0 w' L → K v w') : CK P f args w K :=
 h.mono fun e w' ⟨he, n, hw⟩ => ⟨v, he, by
  subst hw
  exact hk _ (hS.heap rfl rfl rfl rfl (Nat.le_add_right _ _))⟩
theorem c_Contains {s p : Bs} (hg : Gl w) (hs : s.length < 4294967281) (h : K (.bool (Lib.contains s p)) w) : CK Tryz.prog 227 [sv s, sv p] w K := by
 obtain ⟨m, hm⟩ := hg
 exact ck_of (Tryz.strings_Contains ⟨s.toArray⟩ ⟨p.toArray⟩ m w (by rw [Lib.size_eq]; exact hs) hm) h
theorem c_HasPrefix {s p : Bs} (h : K (.bool (p.isPrefixOf s)) w) : CK Tryz.prog 199 [sv s, sv p] w K :=
 ck_of (Tryz.strings_HasPrefix ⟨s.toArray⟩ ⟨p.toArray⟩ w) h
theorem c_HasSuffix {s p : Bs} (hs : s.length ≤ 9223372036854775807) (h : K (.bool (p.isSuffixOf s)) w) : CK Tryz.prog 202 [sv s, sv p] w K :=
 ck_of (Tryz.strings_HasSuffix ⟨s.toArray⟩ ⟨p.toArray⟩ w (by rw [Lib.size_eq]; exact hs)) h
theorem c_Cut {s p : Bs} (hg : Gl w) (hs : s.length < 4294967281) (hS : St w0 S0 w L) (h : ∀ w', St w0 S0 w' L → K (.tuple ⟨[sv (Lib.cut s p).1, sv (Lib.cut s p).2.1, .bool (Lib.cut s p).2.2]⟩) w') : CK Tryz.prog 222 [sv s, sv p] w K := by
 obtain ⟨m, hm⟩ := hg
 exact ck_drew (Tryz.strings_Cut ⟨s.toArray⟩ ⟨p.toArray⟩ m w (by rw [Lib.size_eq]; exact hs) hm) hS h
def prt (s : Bs) : List Bs := (Lib.splitB ⟨#[47]⟩ 0 (Lib.countB ⟨s.toArray⟩ ⟨#[47]⟩) ⟨s.toArray⟩).map (·.data.toList)
theorem sv_of (s : ByteArray) : sv s.data.toList = .string s := by
 unfold sv
 obtain ⟨⟨l⟩⟩ := s
 rfl
theorem c_Split {s : Bs} (hg : Gl w) (hs : s.length < 4294967281) (hS : St w0 S0 w L) (h : ∀ w' b n, (prt s).length = n + 1 → n ≤ s.length → St w0 S0 w' (L ++ [cel b ((prt s).map sv) 9]) → K (.slice (some ⟨b, 0, none⟩) (n + 1) (n + 1)) w') : CK Tryz.prog 229 [sv s, sv [47]] w K := by
 obtain ⟨m, hm⟩ := hg
 have hc := Tryz.strings_Split ⟨s.toArray⟩ ⟨#[47]⟩ m w (by rw [Lib.size_eq]; exact hs) hm (by decide)
 refine hc.mono ?_
 rintro e w' ⟨rfl, rfl⟩
 refine ⟨_, rfl, ?_⟩
 have hl : (prt s).length = Lib.countB ⟨s.toArray⟩ ⟨#[47]⟩ + 1 := by
  rw [prt, List.length_map]
  exact Lib.splitB_all _ (by decide) _ _ _ rfl
 have e1 : ((Lib.splitB ⟨#[47]⟩ 0 (Lib.countB ⟨s.toArray⟩ ⟨#[47]⟩) ⟨s.toArray⟩).map Value.string) = (prt s).map sv := by
  rw [prt, List.map_map]
  refine List.map_congr_left fun x _ => ?_
  exact (sv_of x).symm
 have hS := hS.alloc ((prt s).map sv) 9
 rw [← e1] at hS
 refine h _ _ _ hl ?_ (by rw [← e1]; exact hS)
 have := Lib.countB_le ⟨#[47]⟩ (by decide) _ (⟨s.toArray⟩ : ByteArray) (Nat.le_refl _)
 rw [Lib.size_eq] at this
 exact this
end
def wrongB : Bs := [126, 94, 58, 63, 42, 91, 92]
def may (c : UInt8) : Bool := decide (33 ≤ c.toNat) && (decide (c.toNat ≤ 126) && !Lib.contains wrongB [c])
def rul (k : Nat) (s : Bs) : Bool := match k with
 | 0 => decide (s = []) || decide (100 < s.length)
 | 1 => s.any fun c => !may c
 | 2 => (prt s).any fun p => decide (p = [])
 | 3 => (prt s).any fun p => [46].isPrefixOf p
 | 4 => Lib.contains s [46, 46]
 | 5 => (prt s).any fun p => [46, 108, 111, 99, 107].isSuffixOf p
 | 6 => [46].isSuffixOf s
 | _ => Lib.contains s [64, 123]
def brkF (s : Bs) : Nat → Nat → Nat
 | 0, _ => 0
 | n + 1, k => if rul k s then k + 1 else brkF s n (k + 1)
def brk (s : Bs) : Nat := brkF s 8 0
theorem brkF_0 (s : Bs) : ∀ (n k : Nat), brkF s n k = 0 → ∀ j, k ≤ j → j < k + n → rul j s = false
 | 0, k, _, j, h1, h2 => by omega
 | n + 1, k, h, j, h1, h2 => by
  unfold brkF at h
  split at h
  ·omega
  ·rename_i hr
   by_cases e : j = k
   ·subst e; simpa using hr
   ·exact brkF_0 s n (k + 1) h j (by omega) (by omega)
theorem brkF_n (s : Bs) : ∀ (n k : Nat), (∀ j, k ≤ j → j < k + n → rul j s = false) → brkF s n k = 0
 | 0, _, _ => rfl
 | n + 1, k, h => by
  unfold brkF
  rw [if_neg (by rw [h k (Nat.le_refl _) (by omega)]; simp)]
  exact brkF_n s n (k + 1) fun j h1 h2 => h j (by omega) (by omega)
theorem brkF_at (s : Bs) : ∀ (n k i : Nat), i < n → (∀ j, k ≤ j → j < k + i → rul j s = false) → rul (k + i) s = true → brkF s n k = k + i + 1
 | 0, _, _, h, _, _ => by omega
 | n + 1, k, i, h, hl, hr => by
  unfold brkF
  by_cases e : i = 0
  ·subst e
   rw [if_pos (by simpa using hr)]
  ·rw [if_neg (by rw [hl k (Nat.le_refl _) (by omega)]; simp)]
   have := brkF_at s n (k + 1) (i - 1) (by omega) (fun j h1 h2 => hl j (by omega) (by omega)) (by rw [show k + 1 + (i - 1) = k + i by omega]; exact hr)
   rw [this]; omega
section
variable {w w0 : World} {S0 : Nat → Prop} {L B : List Res} {K : Value → World → Prop} {s : Bs}
theorem b_r1 (h : K (.bool (rul 0 s)) w) : CK Tryz.prog 194 [sv s] w K := by
 refine call_k Tryz.func194 k194 Tryz.ntmps194 (Nat.le_of_ble_eq_true rfl) ?_
 refine gW ?_
 have e : rul 0 s = (decide (s = []) || decide (100 < s.length)) := rfl
 generalize hq : decide ((⟨s.toArray⟩ : ByteArray).data.toList = (⟨#[]⟩ : ByteArray).data.toList) = q
 have hq2 : decide (s = []) = q := hq
 rw [e, hq2] at h
 cases q
 ·refine gW ?_
  refine g_ret (q_1 rfl ?_)
  simp only [cmv]
  simp only [Bool.false_or] at h
  have e2 : decide ((100 : Int) < ((⟨s.toArray⟩ : ByteArray).size : Nat)) = decide (100 < s.length) := by
   rw [decide_eq_decide]
   show (100 : Int) < (s.length : Int) ↔ _
   omega
  rw [e2]
  exact h
 ·refine gW ?_
  exact g_ret (q_1 rfl h)
theorem b_r2 (h : K (.bool (decide (s = []))) w) : CK Tryz.prog 197 [sv s] w K := by
 refine call_k Tryz.func197 k197 Tryz.ntmps197 (Nat.le_of_ble_eq_true rfl) ?_
 refine gW ?_
 exact g_ret (q_1 rfl h)
theorem b_r3 (h : K (.bool ([46].isPrefixOf s)) w) : CK Tryz.prog 198 [sv s] w K := by
 refine call_k Tryz.func198 k198 Tryz.ntmps198 (Nat.le_of_ble_eq_true rfl) ?_
 refine gW ?_
 refine g_cl rfl rfl (c_HasPrefix (s := s) (p := [46]) ?_)
 refine gW ?_
 exact g_ret (q_1 rfl h)
theorem b_r4 (hs : s.length ≤ 9223372036854775807) (h : K (.bool ([46, 108, 111, 99, 107].isSuffixOf s)) w) : CK Tryz.prog 201 [sv s] w K := by
 refine call_k Tryz.func201 k201 Tryz.ntmps201 (Nat.le_of_ble_eq_true rfl) ?_
 refine gW ?_
 refine g_cl rfl rfl (c_HasSuffix (s := s) (p := [46, 108, 111, 99, 107]) hs ?_)
 refine gW ?_
 exact g_ret (q_1 rfl h)
theorem b_r5 (hs : s.length ≤ 9223372036854775807) (h : K (.bool ([46].isSuffixOf s)) w) : CK Tryz.prog 203 [sv s] w K := by
 refine call_k Tryz.func203 k203 Tryz.ntmps203 (Nat.le_of_ble_eq_true rfl) ?_
 refine gW ?_
 refine g_cl rfl rfl (c_HasSuffix (s := s) (p := [46]) hs ?_)
 refine gW ?_
 exact g_ret (q_1 rfl h)
theorem b_has {p : Bs} {b : Nat} (hg : Gl w) (hs : s.length < 4294967281) (hB : Blk w b [sv p] 9) (h : K (.bool (Lib.contains s p)) w) : CK Tryz.prog 231 [sv s, dp b] w K := by
 refine call_k Tryz.func231 k231 Tryz.ntmps231 (Nat.le_of_ble_eq_true rfl) ?_
 refine gW ?_
 refine g_l1 rfl rfl hB rfl ?_
 refine g_cl rfl rfl (c_Contains (s := s) (p := p) hg hs ?_)
 refine gW ?_
 exact g_ret (q_1 rfl h)
theorem dec_1 {s : Bs} {k : Nat} (hk : k < s.length) (hb : s[k].toNat < 128) : Utf8.decode ⟨s.toArray⟩ k = (s[k].toNat, 1) := by
 have e : ((⟨s.toArray⟩ : ByteArray).get! (k + 0)) = s[k] := by
  show (s.toArray)[k + 0]! = s[k]
  simp [hk]
 unfold Utf8.decode
 simp only [e]
 rw [if_pos (by simpa using hb)]
theorem dec_2 {s : Bs} {k : Nat} (hk : k < s.length) (hb : ¬ s[k].toNat < 128) : 128 ≤ (Utf8.decode ⟨s.toArray⟩ k).1 := by
 have e : ((⟨s.toArray⟩ : ByteArray).get! (k + 0)) = s[k] := by
  show (s.toArray)[k + 0]! = s[k]
  simp [hk]
 have hr : Utf8.runeError = 65533 := rfl
 unfold Utf8.decode
 simp only [e]
 rw [if_neg (by simpa using hb)]
 split
 ·split
  ·simp only; omega
  ·rw [hr]; simp
 ·split
  ·split
   ·rename_i h; simp only [Bool.and_eq_true, decide_eq_true_eq] at h; have := h.1; simp only; omega
   ·rw [hr]; simp
  ·split
   ·split
    ·rename_i h; simp only [Bool.and_eq_true, decide_eq_true_eq] at h; have := h.1; simp only; omega
    ·rw [hr]; simp
   ·rw [hr]; simp
theorem enc_1 {c : UInt8} (h : c.toNat < 128) : Utf8.encode ((c.toNat : Nat) : Int) = ⟨#[c]⟩ := by
 have hv : Utf8.valid ((c.toNat : Nat) : Int) = true := by
  unfold Utf8.valid
  simp
  omega
 unfold Utf8.encode
 rw [if_pos hv]
 simp [h]
theorem b_byte (hg : Gl w) (h : ∀ w', St w (fun _ => False) w' [] → K (.bool (s.any fun c => !may c)) w') : CK Tryz.prog 195 [sv s] w K := by
 refine call_k Tryz.func195 k195 Tryz.ntmps195 (Nat.le_of_ble_eq_true rfl) ?_
 refine gW ?_
 refine g_ef rfl (ef_rg (s := ⟨s.toArray⟩) (St.nil w (fun _ => False)) rfl fun b w1 hS => ?_)
 refine gW ?_
 refine g_lp (ι := Nat) (fun k => [(0, sv s), (6, dp b)]) (fun k w' => k ≤ s.length ∧ (∀ j (hj : j < k) (hl : j < s.length), may s[j] = true) ∧ St w (fun _ => False) w' [obj b (.stringIter ⟨s.toArray⟩ k)]) (fun k => s.length - k) 0
  ⟨rfl, rfl, trivial⟩ ⟨Nat.zero_le _, fun j hj => absurd hj (Nat.not_lt_zero j), hS⟩ ?_
 clear hS
 rintro k w1 ⟨hk, hm, hS⟩
 refine gW ?_
 refine g_ef rfl (ef_nx hS 0 rfl rfl (fun hlt w1 hS => ?_) (fun hge => ?_))
 ·have hlt : k < s.length := hlt
  refine gW ?_
  by_cases hb : s[k].toNat < 128
  ·rw [dec_1 hlt hb] at hS ⊢
   generalize hq1 : cmv BinOp.lss ((s[k].toNat : Nat) : Int) 33 = q1
   have bad : may s[k] = false → s.any (fun c => !may c) = true := fun h => List.any_eq_true.2 ⟨s[k], List.getElem_mem hlt, by simp [h]⟩
   cases q1
   all_goals simp only [cmv, decide_eq_true_eq, decide_eq_false_iff_not] at hq1
   rotate_left
   ·refine gW ?_
    have e := bad (by unfold may; rw [decide_eq_false (by omega)]; rfl)
    rw [e] at h
    exact g_ret (q_1 rfl (h _ (hS.sel [] rfl rfl)))
   refine gW ?_
   generalize hq2 : cmv BinOp.gtr ((s[k].toNat : Nat) : Int) 126 = q2
   cases q2
   all_goals simp only [cmv, decide_eq_true_eq, decide_eq_false_iff_not] at hq2
   rotate_left
   ·refine gW ?_
    have e := bad (by unfold may; rw [decide_eq_false (show ¬ s[k].toNat ≤ 126 by omega), Bool.false_and, Bool.and_false])
    rw [e] at h
    exact g_ret (q_1 rfl (h _ (hS.sel [] rfl rfl)))
   refine gW ?_
   rw [enc_1 hb]
   refine g_cl rfl rfl (c_Contains (s := wrongB) (p := [s[k]]) (hg.in hS) (by decide) ?_)
   refine gW ?_
   refine g_cd (t := Lib.contains wrongB [s[k]]) rfl (fun hc => ?_) (fun hc => ?_)
   ·refine gW ?_
    have e := bad (by unfold may; rw [hc]; simp)
    rw [e] at h
    exact g_ret (q_1 rfl (h _ (hS.sel [] rfl rfl)))
   ·refine gW ?_
    refine g_l (k + 1) ⟨rfl, rfl, trivial⟩ ⟨hlt, fun j hj hl => ?_, hS⟩ (by omega)
    by_cases e : j = k
    ·subst e
     unfold may
     rw [decide_eq_true (show 33 ≤ s[j].toNat by omega), decide_eq_true (show s[j].toNat ≤ 126 by omega), hc]
     rfl
    ·exact hm j (by omega) hl
  ·have hd := dec_2 hlt hb
   generalize Utf8.decode ⟨s.toArray⟩ k = dc at hS hd ⊢
   have e : s.any (fun c => !may c) = true := List.any_eq_true.2 ⟨s[k], List.getElem_mem hlt, by
    unfold may
    rw [decide_eq_false (show ¬ s[k].toNat ≤ 126 by omega)]
    simp⟩
   rw [e] at h
   generalize hq1 : cmv BinOp.lss (dc.1 : Int) 33 = q1
   cases q1
   all_goals simp only [cmv, decide_eq_true_eq, decide_eq_false_iff_not] at hq1
   ·refine gW ?_
    generalize hq2 : cmv BinOp.gtr (dc.1 : Int) 126 = q2
    cases q2
    all_goals simp only [cmv, decide_eq_true_eq, decide_eq_false_iff_not] at hq2
    ·omega
    refine gW ?_
    exact g_ret (q_1 rfl (h _ (hS.sel [] rfl rfl)))
   ·omega
 ·have hge : ¬ k < s.length := hge
  have e : s.any (fun c => !may c) = false := by
   rw [List.any_eq_false]
   intro c hc
   obtain ⟨j, hj, rfl⟩ := List.getElem_of_mem hc
   simp [hm j (by omega) hj]
  rw [e] at h
  refine gW ?_
  exact g_ret (q_1 rfl (h _ (hS.sel [] rfl rfl)))
theorem b_part {bad : Bs → Bool} {q b : Nat} (hq : ∀ {w : World} {K : Value → World → Prop} {p : Bs}, p ∈ prt s → K (.bool (bad p)) w → CK Tryz.prog q [sv p] w K) (he : ∀ (args : Array Value) (w : World), (callFunc q args).run Tryz.prog w = .ok (.enter q args) w)
  (hg : Gl w) (hs : s.length < 4294967281) (hB : Blr w b [.func (.func q) ⟨[]⟩ ⟨[]⟩] 198) (h : ∀ w', St w (fun _ => False) w' [] → K (.bool ((prt s).any bad)) w') : CK Tryz.prog 228 [sv s, dp b] w K := by
 refine call_k Tryz.func228 k228 Tryz.ntmps228 (Nat.le_of_ble_eq_true rfl) ?_
 refine gW ?_
 refine g_cl rfl rfl (c_Split (s := s) hg hs (St.nil w (fun _ => False)) fun w1 g n hn hns hS => ?_)
 have hBr : ∀ {w' : World} {L' : List Res}, St w (fun _ => False) w' L' → Blr w' b [.func (.func q) ⟨[]⟩ ⟨[]⟩] 198 := fun hS => hB.same (hS.fr.kept b hB.lt (fun h => h))
 refine gW ?_
 refine g_lp (ι := Nat) (fun k => [(0, sv s), (1, dp b), (7, .slice (some ⟨g, 0, none⟩) (n + 1) (n + 1)), (8, .int .i64 ((n + 1 : Nat) : Int)), (9, .int .i64 k)]) (fun k w' => k ≤ n + 1 ∧ (∀ j (hj : j < (prt s).length), j < k → bad (prt s)[j] = false) ∧ St w (fun _ => False) w' [cel g ((prt s).map sv) 9]) (fun k => n + 1 - k) 0
  ⟨rfl, rfl, rfl, rfl, rfl, trivial⟩ ⟨Nat.zero_le _, fun j _ hj => absurd hj (Nat.not_lt_zero j), hS⟩ ?_
 clear hS
 rintro k w1 ⟨hk, hm, hS⟩
 refine gW ?_
 refine g_cd rfl (fun hc => ?_) (fun hc => ?_)
 all_goals simp only [cmv, decide_eq_true_eq, decide_eq_false_iff_not] at hc
 ·have hlt : k < (prt s).length := by omega
  have hp : (prt s)[k]? = some (prt s)[k] := List.getElem?_eq_getElem hlt
  have hpm : (prt s)[k] ∈ prt s := List.getElem_mem hlt
  have hmk := hm
  refine gW ?_
  refine g_rq rfl rfl ⟨by omega, by omega⟩ ?_
  refine g_l1 (v := sv (prt s)[k]) rfl rfl (hS.b 0 rfl) (by rw [Nat.zero_add, Int.toNat_natCast, Nat.mul_one, List.getElem?_map, hp]; rfl) ?_
  refine gW ?_
  refine g_l1r rfl rfl (hBr hS) rfl ?_
  refine gW ?_
  refine g_ef rfl (ef_cv (vs := [sv (prt s)[k]]) rfl rfl he (hq hpm ?_))
  refine gW ?_
  refine g_cd (t := bad (prt s)[k]) rfl (fun hc2 => ?_) (fun hc2 => ?_)
  ·have e : (prt s).any bad = true := List.any_eq_true.2 ⟨_, hpm, hc2⟩
   rw [e] at h
   refine gW ?_
   exact g_ret (q_1 rfl (h _ (hS.sel [] rfl rfl)))
  ·refine gW ?_
   refine g_rq rfl rfl (in64 (by simp only [arv]; omega)) ?_
   refine gW ?_
   refine g_l (k + 1) ⟨rfl, rfl, rfl, rfl, rfl, trivial⟩ ⟨by omega, fun j hj hl => ?_, hS⟩ (by omega)
   by_cases e : j = k
   ·subst e; exact hc2
   ·exact hm j hj (by omega)
 ·have e : (prt s).any bad = false := by
   rw [List.any_eq_false]
   intro c hc
   obtain ⟨j, hj, rfl⟩ := List.getElem_of_mem hc
   simp [hm j hj (by omega)]
  rw [e] at h
  refine gW ?_
  exact g_ret (q_1 rfl (h _ (hS.sel [] rfl rfl)))
end
section
variable {w w0 : World} {S0 : Nat → Prop} {L B : List Res} {K : Value → World → Prop} {s : Bs}
theorem _root_.Go.En.St.init {r : Res} (hS : St w0 S0 w (L ++ [r])) : St w0 S0 w L := hS.front.tail
def fvl (a2 a3 h4 a5 h7 : Nat) : Nat → Value
 | 0 => .func (.func 194) ⟨[]⟩ ⟨[]⟩
 | 1 => .func (.func 195) ⟨[]⟩ ⟨[]⟩
 | 2 => .func (.func 228) ⟨[]⟩ ⟨[dp a2]⟩
 | 3 => .func (.func 228) ⟨[]⟩ ⟨[dp a3]⟩
 | 4 => .func (.func 231) ⟨[]⟩ ⟨[dp h4]⟩
 | 5 => .func (.func 228) ⟨[]⟩ ⟨[dp a5]⟩
 | 6 => .func (.func 203) ⟨[]⟩ ⟨[]⟩
 | _ => .func (.func 231) ⟨[]⟩ ⟨[dp h7]⟩
def rcl (fv : Nat → Value) (k : Nat) : List Value := [.int .i64 ((k + 1 : Nat) : Int), fv k]
def ruM (b g a2 a3 h4 a5 h7 : Nat) : List Res :=
 [cel a2 [.func (.func 197) ⟨[]⟩ ⟨[]⟩] 198, cel a3 [.func (.func 198) ⟨[]⟩ ⟨[]⟩] 198, cel h4 [sv [46, 46]] 9, cel a5 [.func (.func 201) ⟨[]⟩ ⟨[]⟩] 198, cel h7 [sv [64, 123]] 9,
  cel g (((List.range 8).map (rcl (fvl a2 a3 h4 a5 h7))).flatten) 200, cel b [.slice (some ⟨g, 0, none⟩) 8 8] 261]
theorem b_byPartF {v : Value} {i : Nat} (hS : St w0 S0 w L) (hv : v.cells.toList = [v]) (h : ∀ w' b, St w0 S0 w' (L ++ [cel b [v] 198]) → K (.func (.func 228) ⟨[]⟩ ⟨[dp b]⟩) w') : CK Tryz.prog 196 [v] w K := by
 refine call_k Tryz.func196 k196 Tryz.ntmps196 (Nat.le_of_ble_eq_true rfl) ?_
 refine gW ?_
 refine g_ef rfl (ef_bx hS rfl fun b w hS => ?_)
 rw [hv] at hS
 refine gW ?_
 exact g_ret (q_1 rfl (h _ _ hS))
theorem b_hasF {p : Bs} (hS : St w0 S0 w L) (h : ∀ w' b, St w0 S0 w' (L ++ [cel b [sv p] 9]) → K (.func (.func 231) ⟨[]⟩ ⟨[dp b]⟩) w') : CK Tryz.prog 200 [sv p] w K := by
 refine call_k Tryz.func200 k200 Tryz.ntmps200 (Nat.le_of_ble_eq_true rfl) ?_
 refine gW ?_
 refine g_ef rfl (ef_bx hS rfl fun b w hS => ?_)
 refine gW ?_
 exact g_ret (q_1 rfl (h _ _ hS))
theorem b_rules (h : ∀ w' b g a2 a3 h4 a5 h7, St w (fun _ => False) w' (ruM b g a2 a3 h4 a5 h7) → K (.func (.func 204) ⟨[]⟩ ⟨[dp b]⟩) w') : CK Tryz.prog 144 [] w K := by
 have hS := St.nil w (fun _ => False)
 refine call_k Tryz.func144 k144 Tryz.ntmps144 (Nat.le_of_ble_eq_true rfl) ?_
 refine gW ?_
 refine g_cl rfl rfl (b_byPartF (i := 0) hS rfl fun w a2 hS => ?_)
 refine gW ?_
 refine g_cl rfl rfl (b_byPartF (i := 0) hS rfl fun w a3 hS => ?_)
 refine gW ?_
 refine g_cl rfl rfl (b_hasF (p := [46, 46]) hS fun w h4 hS => ?_)
 refine gW ?_
 refine g_cl rfl rfl (b_byPartF (i := 0) hS rfl fun w a5 hS => ?_)
 refine gW ?_
 refine g_cl rfl rfl (b_hasF (p := [64, 123]) hS fun w h7 hS => ?_)
 refine gW ?_
 refine g_ef rfl (ef_bl (rs := ((List.range 8).map (rcl (fvl a2 a3 h4 a5 h7))).flatten) hS rfl fun g w hS => ?_)
 refine g_ef rfl (ef_al hS fun b w hS => ?_)
 refine g_ef0 rfl (ef_st hS 6 rfl rfl rfl rfl (Nat.le_of_ble_eq_true rfl) rfl fun w hS => ?_)
 refine gW ?_
 exact g_ret (q_1 rfl (h _ _ _ _ _ _ _ _ hS))
theorem rcl_at (fv : Nat → Value) {k : Nat} (hk : k < 8) : List.take 2 (List.drop (0 + k * 2) ((List.range 8).map (rcl fv)).flatten) = rcl fv k := by
 rcases k with _ | _ | _ | _ | _ | _ | _ | _ | k <;> first | rfl | omega
theorem d_rules6 {fv : Nat → Value} {b g l i j : Nat} {Pk : Nat → Prop} (hfv : ∀ k, (fv k).oneCell' = true) (hi : L[i]? = some (cel b [.slice (some ⟨g, 0, none⟩) 8 8] 261)) (hj : L[j]? = some (cel g (((List.range 8).map (rcl fv)).flatten) 200)) (hS : St w0 S0 w L)
  (hy : ∀ (k : Nat) (w : World), k < 8 → (∀ n, n < k → Pk n) → St w0 S0 w L → Yd Tryz.prog l [.agg ⟨rcl fv k⟩] w fun v w' => (v = .bool true ∧ Pk k ∧ St w0 S0 w' L) ∨ (v = .bool false ∧ K (.tuple ⟨[]⟩) w'))
  (he : ∀ w, (∀ n, n < 8 → Pk n) → St w0 S0 w L → K (.tuple ⟨[]⟩) w) : CK Tryz.prog 204 [.func (.yield l) ⟨[]⟩ ⟨[]⟩, dp b] w K := by
 refine call_k Tryz.func204 k204 Tryz.ntmps204 (Nat.le_of_ble_eq_true rfl) ?_
 refine gW ?_
 refine g_l1 rfl rfl (hS.b i hi) rfl ?_
 refine gW ?_
 refine g_lp (ι := Nat) (fun k => [(0, .func (.yield l) ⟨[]⟩ ⟨[]⟩), (5, .slice (some ⟨g, 0, none⟩) 8 8), (6, .int .i64 8), (7, .int .i64 k)]) (fun k w => k ≤ 8 ∧ (∀ n, n < k → Pk n) ∧ St w0 S0 w L) (fun k => 8 - k) 0 ⟨rfl, rfl, rfl, rfl, trivial⟩ ⟨Nat.zero_le _, fun n hn => absurd hn (Nat.not_lt_zero n), hS⟩ ?_
 clear hS
 rintro k w ⟨hk, hP, hS⟩
 refine gW ?_
 refine g_cd rfl (fun hc => ?_) (fun hc => ?_)
 all_goals simp only [cmv, decide_eq_true_eq, decide_eq_false_iff_not] at hc
 ·have hlt : k < 8 := by omega
  refine gW ?_
  refine g_rq rfl rfl ⟨by omega, by omega⟩ ?_
  refine g_lm rfl rfl (hS.b j hj) (by show 0 + (k : Int).toNat * 2 + 2 ≤ 16; rw [Int.toNat_natCast]; omega) ?_
  rw [Int.toNat_natCast, rcl_at fv hlt]
  refine g_ef rfl (ef_al hS fun g4 w hS => ?_)
  have hi2 : (L ++ [cel g4 (zx [(1, .int .i64 0), (1, .nilFunc)]) 200])[L.length]? = some (cel g4 (zx [(1, .int .i64 0), (1, .nilFunc)]) 200) := by
   rw [List.getElem?_append_right (Nat.le_refl _), Nat.sub_self]; rfl
  have h1c : (rcl fv k).all (·.oneCell') = true := by
   have := hfv k
   simp only [rcl, List.all_cons, List.all_nil, Bool.and_true, this]
   rfl
  refine g_ef0 rfl (ef_st hS L.length hi2 rfl rfl rfl (Nat.le_of_ble_eq_true rfl) h1c fun w hS => ?_)
  rw [List.set_append_right _ _ (Nat.le_refl _), Nat.sub_self, List.set_cons_zero] at hS
  have hi3 : (L ++ [cel g4 (rcl fv k) 200])[L.length]? = some (cel g4 (rcl fv k) 200) := by
   rw [List.getElem?_append_right (Nat.le_refl _), Nat.sub_self]; rfl
  have hS : St w0 S0 w (L ++ [cel g4 (rcl fv k) 200]) := hS
  refine gW ?_
  refine g_lm rfl rfl (hS.b _ hi3) (Nat.le_of_ble_eq_true rfl) ?_
  refine g_ef rfl (ef_yd (vs := [.agg ⟨rcl fv k⟩]) rfl rfl ((hy k w hlt hP hS.init).mono ?_))
  rintro v w' (⟨rfl, hn, hS⟩ | ⟨rfl, hK⟩)
  ·refine gW ?_
   refine g_rq rfl rfl (in64 (by simp only [arv]; omega)) ?_
   refine gW ?_
   refine g_l (k + 1) ⟨rfl, rfl, rfl, rfl, trivial⟩ ⟨by omega, fun n hn' => ?_, hS⟩ (by omega)
   by_cases e : n = k
   ·subst e; exact hn
   ·exact hP n (by omega)
  ·refine gW ?_
   exact g_ret (q_0 hK)
 ·have e : k = 8 := by omega
  subst e
  refine gW ?_
  exact q_n (he _ hP hS)
theorem splitB_le (sep : ByteArray) : ∀ (k : Nat) (s p : ByteArray), p ∈ Lib.splitB sep 0 k s → p.size ≤ s.size
 | 0, s, p, h => by simp [Lib.splitB] at h; subst h; exact Nat.le_refl _
 | k + 1, s, p, h => by
  unfold Lib.splitB at h
  split at h
  ·simp at h; subst h; exact Nat.le_refl _
  ·rcases List.mem_cons.1 h with h | h
   ·subst h; rw [ByteArray.size_extract]; omega
   ·have := splitB_le sep k _ p h
    rw [ByteArray.size_extract] at this
    omega
theorem prt_le {p : Bs} (h : p ∈ prt s) : p.length ≤ s.length := by
 simp only [prt, List.mem_map] at h
 obtain ⟨q, hq, rfl⟩ := h
 have := splitB_le _ _ _ _ hq
 rw [Lib.size_eq, Lib.size_eq] at this
 exact this
theorem fvl_call {a2 a3 h4 a5 h7 k b g : Nat} (hk : k < 8) (hg : Gl w) (hs : 0 < k → s.length ≤ 100) (hS : St w0 S0 w (ruM b g a2 a3 h4 a5 h7 ++ B)) :
  ∃ f cap, fvl a2 a3 h4 a5 h7 k = .func (.func f) ⟨[]⟩ ⟨cap⟩ ∧ (∀ (args : Array Value) (w : World), (callFunc f args).run Tryz.prog w = .ok (.enter f args) w) ∧
   ∀ {K : Value → World → Prop}, (∀ w', St w0 S0 w' (ruM b g a2 a3 h4 a5 h7 ++ B) → K (.bool (rul k s)) w') → CK Tryz.prog f ([sv s] ++ cap) w K := by
 have hfr : ∀ {w' : World}, St w (fun _ => False) w' [] → St w0 S0 w' (ruM b g a2 a3 h4 a5 h7 ++ B) := fun h => by
  have := hS.call0.2 _ _ h
  rwa [List.append_nil] at this
 have p1 : s.length ≤ 100 → ∀ p ∈ prt s, p.length ≤ 9223372036854775807 := fun hl p hp => by
  have := prt_le hp; omega
 rcases k with _ | _ | _ | _ | _ | _ | _ | _ | k
 ·exact ⟨_, _, rfl, callFunc_of Tryz.func194 rfl rfl, fun h => b_r1 (h _ hS)⟩
 ·exact ⟨_, _, rfl, callFunc_of Tryz.func195 rfl rfl, fun h => b_byte hg fun w' h' => h _ (hfr h')⟩
 ·have hl := hs (by decide)
  exact ⟨_, _, rfl, callFunc_of Tryz.func228 rfl rfl, fun h => b_part (bad := fun p => decide (p = [])) (fun _ h => b_r2 h) (callFunc_of Tryz.func197 rfl rfl) hg (by omega) (hS.b 0 rfl).r fun w' h' => h _ (hfr h')⟩
 ·have hl := hs (by decide)
  exact ⟨_, _, rfl, callFunc_of Tryz.func228 rfl rfl, fun h => b_part (bad := fun p => [46].isPrefixOf p) (fun _ h => b_r3 h) (callFunc_of Tryz.func198 rfl rfl) hg (by omega) (hS.b 1 rfl).r fun w' h' => h _ (hfr h')⟩
 ·have hl := hs (by decide)
  exact ⟨_, _, rfl, callFunc_of Tryz.func231 rfl rfl, fun h => b_has hg (by omega) (hS.b 2 rfl) (h _ hS)⟩
 ·have hl := hs (by decide)
  exact ⟨_, _, rfl, callFunc_of Tryz.func228 rfl rfl, fun h => b_part (bad := fun p => [46, 108, 111, 99, 107].isSuffixOf p) (fun hp h => b_r4 (p1 hl _ hp) h) (callFunc_of Tryz.func201 rfl rfl) hg (by omega) (hS.b 3 rfl).r fun w' h' => h _ (hfr h')⟩
 ·have hl := hs (by decide)
  exact ⟨_, _, rfl, callFunc_of Tryz.func203 rfl rfl, fun h => b_r5 (by omega) (h _ hS)⟩
 ·have hl := hs (by decide)
  exact ⟨_, _, rfl, callFunc_of Tryz.func231 rfl rfl, fun h => b_has hg (by omega) (hS.b 4 rfl) (h _ hS)⟩
 ·omega
theorem b_Breaks (hg : Gl w) (h : ∀ w', St w (fun _ => False) w' [] → K (.int .i64 (brk s)) w') : CK Tryz.prog 109 [sv s] w K := by
 have hS := St.nil w (fun _ => False)
 refine call_k Tryz.func109 k109 Tryz.ntmps109 (Nat.le_of_ble_eq_true rfl) ?_
 refine gW ?_
 refine g_ef rfl (ef_bx hS rfl fun b1 w1 hS => ?_)
 refine gW ?_
 refine g_sc rfl ?_
 refine gW ?_
 refine g_ef rfl (ef_al hS fun b3 w1 hS => ?_)
 refine g_ef0 rfl (ef_st hS 1 rfl rfl rfl rfl (Nat.le_of_ble_eq_true rfl) rfl fun w1 hS => ?_)
 have hS : St w (fun _ => False) w1 [cel b1 [sv s] 9, cel b3 [.int .i64 0] 3] := hS
 refine gW ?_
 refine g_cl rfl rfl (b_rules fun w2 b g a2 a3 h4 a5 h7 h' => ?_)
 have hS := hS.call0.2 _ _ h'
 have hS := selB' (A := [_, _]) (B := ruM b g a2 a3 h4 a5 h7) hS [0, 1] rfl rfl
 have hS : St w (fun _ => False) w2 [cel b1 [sv s] 9, cel b3 [.int .i64 0] 3, _, _, _, _, _, _, _] := hS
 have hS := hS.sel [2, 3, 4, 5, 6, 7, 8, 0, 1] rfl rfl
 have hS : St w (fun _ => False) w2 (ruM b g a2 a3 h4 a5 h7 ++ [cel b1 [sv s] 9, cel b3 [.int .i64 0] 3]) := hS
 refine g_r0 ?_
 refine g_atd 1 [(3, dp b3)] (fun D1 w' => ∃ dB, D1 = [⟨.collected dB, #[]⟩] ∧ St w (fun _ => False) w' [cel b3 [.int .i64 (brk s)] 3, obj dB (.deferred (some []))]) rfl ?_ ?_
 ·refine gW ?_
  refine g_wkc (T' := [(5, .func (.func 204) ⟨[]⟩ ⟨[dp b]⟩), (1, dp b1), (3, dp b3)]) ⟨rfl, rfl, rfl, trivial⟩ ?_
  refine g_rf (cap := [dp b]) (first := []) hS rfl (callFunc_of Tryz.func204 rfl rfl) fun l dB w2 hS => ?_
  have hfv : ∀ k, (fvl a2 a3 h4 a5 h7 k).oneCell' = true := fun k => by
   rcases k with _ | _ | _ | _ | _ | _ | _ | k <;> rfl
  refine d_rules6 (i := 6) (j := 5) (Pk := fun k => rul k s = false) hfv rfl rfl hS ?_ ?_
  ·clear hS
   intro k w2 hk hP hS
   refine yd_of hS 10 rfl rfl ?_
   refine gW ?_
   refine g_ef rfl (ef_al hS fun b4 w2 hS => ?_)
   have h1c : (rcl (fvl a2 a3 h4 a5 h7) k).all (·.oneCell') = true := by
    have := hfv k
    simp only [rcl, List.all_cons, List.all_nil, Bool.and_true, this]
    rfl
   refine g_ef0 rfl (ef_st hS 11 rfl rfl rfl rfl (Nat.le_of_ble_eq_true rfl) h1c fun w2 hS => ?_)
   have hS := hS.ceq (l' := rcl (fvl a2 a3 h4 a5 h7) k) 11 rfl rfl
   refine gW ?_
   refine ⟨rfl, _, _, hS, rfl, fun w2 hS => ?_⟩
   refine gW ?_
   refine g_l1 rfl rfl (hS.b  11 rfl) rfl ?_
   refine g_l1 rfl rfl (hS.b  7 rfl) rfl ?_
   have hS : St w (fun _ => False) w2 (ruM b g a2 a3 h4 a5 h7 ++ [cel b1 [sv s] 9, cel b3 [.int .i64 0] 3, _, _, _]) := hS
   obtain ⟨f, cap, e, hent, hcall⟩ := fvl_call hk (hg.in hS) (s := s) (fun hk0 => by
    have := hP 0 hk0
    simp only [rul, Bool.or_eq_false_iff, decide_eq_false_iff_not] at this
    omega) hS
   rw [e]
   refine g_ef rfl (ef_cv (vs := [sv s]) rfl rfl hent (hcall fun w2 hS => ?_))
   refine g_r0 ?_
   refine g_cd (t := rul k s) rfl (fun hr => ?_) (fun hr => ?_)
   ·refine gW ?_
    refine g_l1 rfl rfl (hS.b  11 rfl) rfl ?_
    refine gW ?_
    refine g_ef0 rfl (ef_st hS 8 rfl rfl rfl rfl (Nat.le_of_ble_eq_true rfl) rfl fun w2 hS => ?_)
    refine g_r0 ?_
    refine g_xt (k_xo rfl ?_)
    refine ⟨_, _, hS, rfl, fun w2 hS => .inr ⟨rfl, ?_⟩⟩
    refine ⟨_, 10, _, _, hS, rfl, (fun h => nomatch h), fun w2 hS => ?_⟩
    refine k_xt rfl (g_jd ⟨rfl, trivial⟩ ⟨dB, rfl, ?_⟩)
    have e : brk s = k + 1 := by
     have := brkF_at s 8 0 k hk (fun j _ h2 => hP j (by omega)) (by rw [Nat.zero_add]; exact hr)
     rw [Nat.zero_add] at this
     exact this
    rw [e]
    exact hS.sel [8, 9] rfl rfl
   ·refine gW ?_
    exact ⟨_, _, hS.sel [0, 1, 2, 3, 4, 5, 6, 7, 8, 9, 10] rfl rfl, rfl, fun w2 hS => .inl ⟨rfl, hr, hS⟩⟩
  ·clear hS
   intro w2 hP hS
   refine ⟨_, 10, _, _, hS, rfl, (fun h => nomatch h), fun w2 hS => ?_⟩
   refine g_b (g_jd ⟨rfl, trivial⟩ ⟨dB, rfl, ?_⟩)
   have e : brk s = 0 := brkF_n s 8 0 fun j _ h2 => hP j (by omega)
   rw [e]
   exact hS.sel [8, 9] rfl rfl
 ·clear hS
  rintro T D1 w1 hT ⟨dB, rfl, hS⟩
  refine g_wkc hT ?_
  refine gW ?_
  refine g_l1 rfl rfl (hS.b  0 rfl) rfl ?_
  refine gW ?_
  refine g_ret (q_dr hS 1 rfl fun w hS => q_1 rfl (h _ (hS.sel [] rfl rfl)))
def nmE (s : Bs) : Int := if brk s = 0 then 0 else 40
theorem b_Check (hg : Gl w) (h : ∀ w', St w (fun _ => False) w' [] → K (.int .i64 (nmE s)) w') : CK Tryz.prog 72 [sv s] w K := by
 refine call_k Tryz.func72 k72 Tryz.ntmps72 (Nat.le_of_ble_eq_true rfl) ?_
 refine gW ?_
 refine g_cl rfl rfl (b_Breaks hg fun w' hS => ?_)
 refine gW ?_
 (refine g_cd rfl (fun hc => ?_) (fun hc => ?_) <;> simp only [cmv, arv, Bool.not_eq_true', Bool.not_eq_false', decide_eq_true_eq, decide_eq_false_iff_not] at hc)
 ·refine gW ?_
  have e : nmE s = 40 := by unfold nmE; rw [if_neg (by omega)]
  rw [e] at h
  exact g_ret (q_1 rfl (h _ hS))
 ·refine gW ?_
  have e : nmE s = 0 := by unfold nmE; rw [if_pos (by omega)]
  rw [e] at h
  exact g_ret (q_1 rfl (h _ hS))
theorem c_Check (hg : Gl w) (hS : St w0 S0 w L) (h : ∀ w', St w0 S0 w' L → K (.int .i64 (nmE s)) w') : CK Tryz.prog 72 [sv s] w K :=
 b_Check hg fun w' h' => h w' (by have := hS.call0.2 _ _ h'; rwa [List.append_nil] at this)
end
end Go.Proofs.YtfffdhafbbbpcaaGreatDoor
