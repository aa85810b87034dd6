/- The statement BlockKeeps: the plain law, and what its walk holds. -/
import Derived.Test.YtegjocpjmfaigaaSg
set_option linter.unusedSimpArgs false
set_option linter.unusedVariables false
namespace Go.Proofs.Ytegjocpjmfaigaa
open Go.En

/-! the plain law: behind a crash there is a beginning of the writes, and a first part of the next one -/
theorem crash_form (f : Fal) : ∀ (ws : List (Int × List UInt8)) (i : Nat) (cs : List (List UInt8)), (∀ x ∈ ws, 0 ≤ x.1 ∧ x.1 < cs.length) →
    crashC f i ws cs = putAll cs ws ∨ ∃ (j : Nat) (x : Int × List UInt8) (n : Nat), ws[j]? = some x ∧ n ≤ 128 ∧ crashC f i ws cs = putB (putAll cs (ws.take j)) x n
  | [], _, _, _ => .inl rfl
  | x :: ws, i, cs, hw => by
    have hx := hw x List.mem_cons_self
    have hm := mny_le f i
    by_cases h0 : mny f i = 0
    · refine .inr ⟨0, x, 0, rfl, by omega, ?_⟩
      rw [crashC, if_pos h0, List.take_zero]
      exact putB_0.symm
    · by_cases hk : (i : Int) < f.k
      · have e : mny f i = 128 := by unfold mny; rw [if_pos hk]
        have e2 : crashC f i (x :: ws) cs = crashC f (i + 1) ws (putB cs x 128) := by rw [crashC, if_neg h0, e]; rfl
        rcases crash_form f ws (i + 1) (putB cs x 128) (fun y hy => by rw [putB_len]; exact hw y (List.mem_cons_of_mem _ hy)) with h | ⟨j, y, n, h1, h2, h3⟩
        · exact .inl (by rw [e2, h]; rfl)
        · exact .inr ⟨j + 1, y, n, h1, h2, by rw [e2, h3]; rfl⟩
      · refine .inr ⟨0, x, (mny f i).toNat, rfl, by omega, ?_⟩
        have h1 : mny f (i + 1) = 0 := by
          unfold mny at h0 ⊢
          rw [if_neg hk] at h0
          rw [if_neg (by omega), if_neg ?_]
          intro h
          exact h0 (if_neg (by omega))
        rw [crashC, if_neg h0, List.take_zero]
        cases ws with
        | nil => rfl
        | cons y ws => rw [crashC, if_pos h1]; rfl
theorem crash_torn {D : Dev} (hw : D.wf) (f : Fal) : ∃ j, j ≤ D.waits.length ∧ Torn (crashC f 0 D.waits D.cells) (putAll D.cells (D.waits.take j)) ((D.waits.map Prod.fst ++ [-1]).getD j 0) ((D.waits.map Prod.snd ++ [[]]).getD j []) := by
  rcases crash_form f D.waits 0 D.cells (fun x hx => (hw.2.2.1 x hx).2) with h | ⟨j, x, n, h1, h2, h3⟩
  · refine ⟨D.waits.length, Nat.le_refl _, ?_⟩
    rw [h, List.take_length]
    refine ⟨fun _ _ _ => rfl, .inl ?_⟩
    rw [List.getD_eq_getElem?_getD, List.getElem?_append_right (by simp)]
    simp
  · have hj := (List.getElem?_eq_some_iff.1 h1).1
    have hx := hw.2.2.1 x (List.mem_of_getElem? h1)
    refine ⟨j, by omega, ?_⟩
    have e1 : (D.waits.map Prod.fst ++ [-1]).getD j 0 = x.1 := by
      rw [List.getD_eq_getElem?_getD, List.getElem?_append_left (by simpa using hj), List.getElem?_map, h1]; rfl
    have e2 : (D.waits.map Prod.snd ++ [[]]).getD j [] = x.2 := by
      rw [List.getD_eq_getElem?_getD, List.getElem?_append_left (by simpa using hj), List.getElem?_map, h1]; rfl
    rw [e1, e2, h3]
    have hl : x.1.toNat < (putAll D.cells (D.waits.take j)).length := by rw [putAll_len]; omega
    refine ⟨fun i _ hi => ?_, .inr ⟨n, h2, ?_⟩⟩
    · rw [putB, List.getElem?_set, if_neg (by omega)]
    · rw [putB, List.getD_eq_getElem?_getD, List.getElem?_set, if_pos rfl, if_pos hl]
      rfl

/-- rows of texts that nobody turns -/
def plS (N : Nat) (Z : List (Value × List (List UInt8))) : Res := ⟨fun b => ∃ p, p ∈ Z ∧ vb p.1 b, fun w => ∀ p, p ∈ Z → Rd p.1 9 1 N (sts p.2) w, fun _ _ h hk p hp => (hk p hp).same fun b hb => h b ⟨p, hp, hb⟩⟩
section
variable {w w0 : World} {S0 S : Nat → Prop} {K : Value → World → Prop} {b N m : Nat} {D : Dev} {B L : List Res} {cs0 : List (List UInt8)}
theorem plS_add {Z : List (Value × List (List UInt8))} {v : Value} {x : List (List UInt8)} (hS : St w0 S0 w L) (i j : Nat) (hi : L[i]? = some (plS N Z)) (hj : L[j]? = some (row v 9 1 N (sts x))) (hij : i ≠ j) : St w0 S0 w ((L.set j emp).set i (plS N (Z ++ [(v, x)]))) := by
  have h := hS.merge i j hi hj hij
  have hlt : i < (L.set j emp).length := by simpa using (List.getElem?_eq_some_iff.1 hi).1
  have hg : ((L.set j emp).set i ((plS N Z).and (row v 9 1 N (sts x))))[i]? = some ((plS N Z).and (row v 9 1 N (sts x))) := List.getElem?_set_self hlt
  have hk := h.ok i _ hg
  have := h.conv (r' := plS N (Z ++ [(v, x)])) i hg ?_ ?_
  · rwa [List.set_set] at this
  · rintro y ⟨p, hp, hb⟩
    rcases List.mem_append.1 hp with hp | hp
    · exact .inl ⟨p, hp, hb⟩
    · simp at hp; subst hp; exact .inr (vb_vo hb)
  · intro p hp
    rcases List.mem_append.1 hp with hp | hp
    · exact hk.1 p hp
    · simp at hp; subst hp; exact Ow.rd hk.2.1
theorem plS_nil (hS : St w0 S0 w L) : St w0 S0 w (L ++ [plS N []]) := by
  have h := hS.fact (p := True) trivial
  have := h.conv (r' := plS N []) L.length (by simp; rfl) (fun b ⟨p, hp, _⟩ => by cases hp) (fun p hp => by cases hp)
  simpa using this
/-- what is held while writes go on -/
def KeepI (b b7 N : Nat) (cs0 : List (List UInt8)) (f : Fal) (w0 : World) (vst vwh vtx : Value) (m : Nat) (w : World) : Prop :=
  ∃ (S : Nat → Prop) (D : Dev) (Z : List (Value × List (List UInt8))), D.cells = cs0 ∧ D.calm ∧ D.waits.length = m ∧ Z.length = m + 1 ∧ (∀ (j : Nat) (z : Value × List (List UInt8)), Z[j]? = some z → z.2 = putAll cs0 (D.waits.take j)) ∧
    St w0 (fun _ => False) w [DevR S b D, row vst 44 1 (m + 1) (Z.map (·.1)), row vwh 3 1 m (D.waits.map fun x => .int .i64 x.1), row vtx 9 1 m (sts (D.waits.map (·.2))), plS N Z, cel b7 (falV f).cells.toList 37]
theorem keep_step {b7 : Nat} {f : Fal} {vst vwh vtx vc : Value} {o : Opd} {Z : List (Value × List (List UInt8))} (hc : D.cells = cs0) (hN : cs0.length = N) (hcm : D.calm) (hm : D.waits.length = m) (hZl : Z.length = m + 1) (hZ : ∀ (j : Nat) (z : Value × List (List UInt8)), Z[j]? = some z → z.2 = putAll cs0 (D.waits.take j))
    (hin : (0 ≤ o.a ∧ o.a < (D.cells.length : Int)) ∧ o.bs.length ≤ 128)
    (hS : St w0 (fun _ => False) w [DevR S b (D.write o.a o.bs).1, row vst 44 1 (m + 1 + 1) (Z.map (·.1) ++ [vc]), row vwh 3 1 (m + 1) ((D.waits.map fun x => Value.int .i64 x.1) ++ [.int .i64 o.a]), row vtx 9 1 (m + 1) (sts (D.waits.map (·.2)) ++ [sv (pad o.bs)]), plS N Z, cel b7 (falV f).cells.toList 37, row vc 9 1 N (sts (D.write o.a o.bs).1.all)]) :
    KeepI b b7 N cs0 f w0 vst vwh vtx (m + 1) w := by
  have hwf := (DevR.blk hS).1
  have ew := write_ok hcm.1 hcm.2 hin
  have hcl : (D.write o.a o.bs).1.cells = D.cells := by rw [ew]; rfl
  have hwt : (D.write o.a o.bs).1.waits = D.waits ++ [(o.a, pad o.bs)] := by rw [ew]; rfl
  have hc1 := write_calm hcm o.a o.bs
  have hal := putAll_all hwf hc1.1
  generalize (D.write o.a o.bs).1 = D1 at *
  have hS := plS_add hS 4 6 rfl rfl (by decide)
  refine ⟨S, D1, Z ++ [(vc, D1.all)], hcl.trans hc, hc1, by simp [hwt, hm], by simp [hZl], fun j z hj => ?_, ?_⟩
  · by_cases h : j < Z.length
    · rw [List.getElem?_append_left h] at hj
      rw [hZ j z hj, hwt, List.take_append_of_le_length (by omega)]
    · rw [List.getElem?_append_right (by omega)] at hj
      have hj0 : j = Z.length := by
        have := (List.getElem?_eq_some_iff.1 hj).1
        simp at this; omega
      subst hj0
      simp at hj
      subst hj
      rw [← hal, hcl, hc, List.take_of_length_le (by rw [hwt]; simp; omega)]
  · have e1 : (Z ++ [(vc, D1.all)]).map (·.1) = Z.map (·.1) ++ [vc] := by simp
    have e2 : (D1.waits.map fun x => Value.int .i64 x.1) = (D.waits.map fun x => Value.int .i64 x.1) ++ [.int .i64 o.a] := by rw [hwt]; simp
    have e3 : sts (D1.waits.map (·.2)) = sts (D.waits.map (·.2)) ++ [sv (pad o.bs)] := by rw [hwt]; simp [sts]
    rw [e1, e2, e3]
    exact hS.sel [0, 1, 2, 3, 4, 5] rfl rfl
end
end Go.Proofs.Ytegjocpjmfaigaa
