/- The statements of the device: plain laws, and how an operation is read. -/
import Derived.Test.YtegjocpjmfaigaaSc
set_option linter.unusedSimpArgs false
set_option linter.unusedVariables false
namespace Go.En
section
variable {E : Env} {ks : List KI} {T : TT} {D : List Deferred} {w : World} {Q : QX}
theorem d_l1r {l : List MOp} {i s : Nat} {g : Option (Nat × Bool)} {x : Operand} {b off : Nat} {cs : List Value} {ty : TypeId} {v : Value} {t : DT} (hl : l[i]? = some ⟨some s, g, .ld x none⟩) (hg : gv T ⟨some s, g, .ld x none⟩ = some true) (hx : ev T x = some (.pointer (some ⟨b, off, none⟩))) (hb : Blr w b cs ty) (hv : cs[off]? = some v)
    (h : G E (.d l t :: ks) ((s, v) :: T) D w Q) : G E (.d l (.q i t) :: ks) T D w Q := d_qt hl hg rfl (qt_ld1r hx hb hv) h
theorem rc_1r {l : List MOp} {j d : Nat} {g : Option (Nat × Bool)} {x : Operand} {b off : Nat} {cs : List Value} {ty : TypeId} {v : Value} {rc : List Nat} {T' : TT} (hl : l[j]? = some ⟨some d, g, .ld x none⟩) (hv : lk T d = some v) (hg : gv T' ⟨some d, g, .ld x none⟩ = some true) (hx : ev T' x = some (.pointer (some ⟨b, off, none⟩))) (hb : Blr w b cs ty) (hc : cs[off]? = some v)
    (h : RC E l rc T T' w) : RC E l (j :: rc) T T' w := rc_qt hl hv hg rfl (qt_ld1r hx hb hc) h
end
end Go.En
namespace Go.Proofs.Ytegjocpjmfaigaa
open Go.En

/-- an operation of the slice, as each world of the walk has it -/
theorem op_at {E k : Nat} {v : Value} {ops : List Opd} {w0 : World} (hv : OpsR E v ops w0) (hlt : k < ops.length) : ∃ (o : Opd) (b off cap : Nat) (l : List Value) (av : Option Addr) (cv : Nat), ops[k]? = some o ∧ o ∈ ops ∧ v = .slice (some ⟨b, off, none⟩) ops.length cap ∧ o.v = .slice av o.bs.length cv ∧
    off + k * 6 + 6 ≤ l.length ∧ List.take 6 (List.drop (off + k * 6) l) = opv o ∧ (∀ j, j < 6 → l[off + k * 6 + j]? = (opv o)[j]?) ∧
    ∀ {w : World} {L : List Res}, St w0 (fun _ => False) w L → Blr w b l E ∧ (∃ E', Rd o.v E' 1 o.bs.length (bys o.bs) w) ∧ ∀ (i : Nat) (r : Res), L[i]? = some r → ∀ x, vb o.v x → ¬ r.ids x := by
  have ho : ops[k]? = some ops[k] := List.getElem?_eq_getElem hlt
  have hmem : ops[k] ∈ ops := List.getElem_mem hlt
  generalize ops[k] = o at ho hmem
  obtain ⟨b, off, cap, l, hv', hn, hl, hx, hB⟩ := Rd.block hv.1 (by omega)
  obtain ⟨E', hbo⟩ := hv.2 o hmem
  obtain ⟨av, cv, ev⟩ := Rd.form hbo
  refine ⟨o, b, off, cap, l, av, cv, ho, hmem, hv', ev, by omega, opsF_get ho hx rfl, fun j hj => opv_get ho hx rfl hj, fun {w L} hS => ?_⟩
  refine ⟨?_, ⟨E', hS.ro (r := rdR o.v E' 1 o.bs.length (bys o.bs)) hbo fun x hx => ⟨hbo.lt x hx, fun h => h⟩⟩, fun i r hi x hx hr => ?_⟩
  · by_cases hc : cap = 0
    · have : ops.length = 0 := by omega
      omega
    · have hlt' : ∀ x, vb v x → x < w0.heap.size := hv.1.lt
      refine hB.same (hS.fr.kept b (hlt' b ?_) (fun h => h))
      rw [hv']
      exact ⟨rfl, hc⟩
  · have := hbo.lt x hx
    rcases hS.src _ _ hi x hr with h | h
    · exact h
    · omega

/-- blocks of 8 bits, as the statements count them -/
theorem blocks_of {n : Int} (h : 0 ≤ n ∧ n ≤ 255) : ∃ N : Nat, 1 ≤ N ∧ N ≤ 20 ∧ (IntKind.i64.wrap n).tmod 20 = (N : Int) - 1 := by
  rw [wrap_in (k := .i64) (in64 (by omega))]
  refine ⟨(1 + n % 20).toNat, by omega, by omega, ?_⟩
  rw [Int.tmod_eq_emod_of_nonneg h.1]
  omega

/-! plain laws -/
theorem putB_128 {cs : List (List UInt8)} {x : Int × List UInt8} (hc : ∀ c ∈ cs, c.length = 128) (hx : x.2.length = 128) (h : x.1.toNat < cs.length) : putB cs x 128 = cs.set x.1.toNat x.2 := by
  have : (cs.getD x.1.toNat []).length = 128 := by
    rw [List.getD_eq_getElem?_getD, List.getElem?_eq_getElem h]
    exact hc _ (List.getElem_mem h)
  rw [putB, List.take_of_length_le (by omega), List.drop_of_length_le (by omega), List.append_nil]
theorem putAll_get : ∀ (ws : List (Int × List UInt8)) (cs : List (List UInt8)), (∀ c ∈ cs, c.length = 128) → (∀ x ∈ ws, x.2.length = 128 ∧ 0 ≤ x.1 ∧ x.1 < cs.length) → ∀ i : Nat, i < cs.length →
    (putAll cs ws).getD i [] = ws.foldl (fun c x => if x.1 = (i : Int) then x.2 else c) (cs.getD i [])
  | [], _, _, _, _, _ => rfl
  | x :: ws, cs, hc, hw, i, hi => by
    have hx := hw x List.mem_cons_self
    have hlt : x.1.toNat < cs.length := by omega
    have e : putAll cs (x :: ws) = putAll (putB cs x 128) ws := rfl
    rw [e, putB_128 hc hx.1 hlt, putAll_get ws _ (fun c hcm => ?_) (fun y hy => by rw [List.length_set]; exact hw y (List.mem_cons_of_mem _ hy)) i (by rw [List.length_set]; exact hi)]
    · rw [List.foldl_cons]
      congr 1
      rw [List.getD_eq_getElem?_getD, List.getD_eq_getElem?_getD, List.getElem?_set]
      by_cases h : x.1 = (i : Int)
      · rw [if_pos (by omega), if_pos h, if_pos (by omega)]; rfl
      · rw [if_neg (by omega), if_neg h]
    · rcases List.mem_or_eq_of_mem_set hcm with h | h
      · exact hc _ h
      · exact h ▸ hx.1
theorem all_get {D : Dev} (hd : D.down = false) {i : Nat} (hi : i < D.cells.length) : D.all[i]? = some (D.rd i) := by
  simp [Dev.all, hd, hi]
/-- what all read is what there is once all was put -/
theorem putAll_all {D : Dev} (hw : D.wf) (hd : D.down = false) : putAll D.cells D.waits = D.all := by
  apply List.ext_getElem?
  intro i
  by_cases hi : i < D.cells.length
  · rw [all_get hd hi]
    have := putAll_get D.waits D.cells hw.2.1 hw.2.2.1 i hi
    have hl : i < (putAll D.cells D.waits).length := by rw [putAll_len]; exact hi
    rw [List.getD_eq_getElem?_getD, List.getElem?_eq_getElem hl] at this
    rw [List.getElem?_eq_getElem hl]
    exact congrArg some this
  · rw [List.getElem?_eq_none (by rw [putAll_len]; omega), List.getElem?_eq_none (by rw [D.all_len]; omega)]
theorem oper_calm {D : Dev} (h : ¬ 0 < D.fall.a) : D.oper = ({ D with since := inc D.since, many := inc D.many }, 0) := by
  unfold Dev.oper
  rw [if_neg fun h' => h h'.1]
/-- what is read hangs on the blocks and the writes alone -/
theorem all_eq {D D' : Dev} (h1 : D.cells = D'.cells) (h2 : D.waits = D'.waits) (h3 : D.down = D'.down) : D.all = D'.all := by
  unfold Dev.all Dev.rd
  rw [h1, h2, h3]
theorem wr1_all {D : Dev} (hd : D.down = false) {i : Int} (hi : 0 ≤ i ∧ i < D.cells.length) (bs : List UInt8) : (D.wr1 i bs).all = D.all.set i.toNat (pad bs) := by
  apply List.ext_getElem?
  intro j
  by_cases hj : j < D.cells.length
  · rw [all_get (D := D.wr1 i bs) hd hj, List.getElem?_set, D.all_len, all_get hd hj]
    simp only [Dev.rd, Dev.wr1, List.foldl_append, List.foldl_cons, List.foldl_nil]
    by_cases h : i = (j : Int)
    · rw [if_pos h, if_pos (by omega), if_pos (by omega)]
    · rw [if_neg h, if_neg (by omega)]
  · rw [List.getElem?_eq_none (by rw [Dev.all_len]; exact Nat.le_of_not_lt hj), List.getElem?_eq_none (by rw [List.length_set, Dev.all_len]; omega)]
theorem new_all (n : Nat) : (Dev.new n).all = (Dev.new n).cells := by
  apply List.ext_getElem?
  intro i
  by_cases hi : i < (Dev.new n).cells.length
  · rw [all_get rfl hi, List.getElem?_eq_getElem hi]
    simp [Dev.rd, Dev.new]
    have hi : i < n := by simpa [Dev.new] using hi
    simp [hi]
  · rw [List.getElem?_eq_none (by rw [Dev.all_len]; omega), List.getElem?_eq_none (by omega)]
theorem boot_all (D : Dev) : D.boot.all = D.cells := by
  apply List.ext_getElem?
  intro i
  by_cases hi : i < D.boot.cells.length
  · rw [all_get rfl hi]
    have hi' : i < D.cells.length := hi
    simp [Dev.rd, Dev.boot, hi']
  · have hi' : ¬ i < D.cells.length := hi
    rw [List.getElem?_eq_none (by rw [Dev.all_len]; omega), List.getElem?_eq_none (by omega)]
theorem write_ok {D : Dev} (hd : D.down = false) (ha : ¬ 0 < D.fall.a) {i : Int} {bs : List UInt8} (h : (0 ≤ i ∧ i < D.cells.length) ∧ bs.length ≤ 128) : D.write i bs = ({ D.wr1 i bs with since := inc D.since, many := inc D.many }, 0) := by
  unfold Dev.write
  rw [if_neg (by simp [hd]), if_pos h, oper_calm (by exact ha)]
  rfl
theorem write_no {D : Dev} (hd : D.down = false) {i : Int} {bs : List UInt8} (h : ¬ ((0 ≤ i ∧ i < D.cells.length) ∧ bs.length ≤ 128)) : D.write i bs = (D, 140) := by
  unfold Dev.write
  rw [if_neg (by simp [hd]), if_neg h]
theorem sync_ok {D : Dev} (hd : D.down = false) (ha : ¬ 0 < D.fall.a) : D.sync = (Dev.sync1 { D with since := inc D.since, many := inc D.many }, 0) := by
  unfold Dev.sync
  rw [if_neg (by simp [hd]), oper_calm ha]
  rfl
end Go.Proofs.Ytegjocpjmfaigaa
