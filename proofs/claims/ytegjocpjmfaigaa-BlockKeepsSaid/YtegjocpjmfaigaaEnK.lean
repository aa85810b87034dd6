/- 'pev' is sound. -/
import Derived.Test.YtegjocpjmfaigaaEnJ
set_option linter.unusedSimpArgs false
set_option linter.unusedVariables false
namespace Go.En
variable {P : Program} {T : TT}

theorem places_run (fs : List Field) (w : World) : (∀ f ∈ fs, (P.info? f.type).isSome = true) → (fs.mapM fun f => (do pure (f.offset, ← sizeOf f.type) : Sem (Nat × Nat))).run P w = .ok (fs.map fun f => (f.offset, P.cellsOf f.type)) w := by
  induction fs with
  | nil => intro _; simp
  | cons f fs ih =>
    intro h
    obtain ⟨i, hi⟩ := Option.isSome_iff_exists.1 (h f (by simp))
    have hs : (sizeOf f.type).run P w = .ok (P.cellsOf f.type) w := by simp [sizeOf, typeInfo, hi, Program.cellsOf]
    simp only [List.mapM_cons, Sem.run_bind, hs, Result.andThen_ok, Sem.run_pure, ih (fun g hg => h g (by simp [hg])), List.map_cons]

theorem fill_sound {t : TypeId} {ρ : Operand → Value} : ∀ (qs : List (Nat × Nat × Operand)) (ps : List (Nat × Operand)) (l out : List Value),
    (∀ x ∈ qs.map (·.2.2), ∀ v, ev T x = some v → ρ x = v) → chkParts P t ps qs = true →
    fillP T qs l = some out → ∃ o, Instr.fill (plc P t) ⟨l⟩ (ps.map fun p => (p.1, ρ p.2)) = some o ∧ o = ⟨out⟩
  | [], [], l, out, _, _, h => by simp [fillP] at h; subst h; exact ⟨_, rfl, rfl⟩
  | (off, sz, x) :: qs, (i, y) :: ps, l, out, ha, hc, h => by
    simp only [chkParts, Bool.and_eq_true, decide_eq_true_eq] at hc
    obtain ⟨⟨h1, h2⟩, hc⟩ := hc
    have h2 := oeq_eq h2
    subst h2
    unfold fillP at h
    split at h
    · rename_i v hv
      split at h
      · rename_i e1 e2
        have e1 := Nat.eq_of_beq_eq_true e1
        have e2 := Nat.le_of_ble_eq_true e2
        have ev' := ha y (by simp) v hv
        have hsz : v.cells.size = sz := by simpa using e1
        have e2' : off + v.cells.size ≤ l.length := by simpa using e2
        have hf := foldl_set' v.cells off ⟨l⟩ (by simpa using e2')
        obtain ⟨o, ho, ho2⟩ := fill_sound qs ps _ out (fun q hq => ha q (by simp only [List.map_cons, List.mem_cons]; exact .inr hq)) hc h
        refine ⟨o, ?_, ho2⟩
        simp only [List.map_cons, Instr.fill, h1, ev']
        rw [if_neg (by simp only [List.size_toArray, Bool.or_eq_true, decide_eq_true_eq]; omega)]
        rw [← ho]
        congr 1
        apply Array.ext'
        exact hf
      · simp at h
    · simp at h
  | [], _ :: _, _, _, _, h, _ => by simp [chkParts] at h
  | _ :: _, [], _, _, _, h, _ => by simp [chkParts] at h

theorem qt_bd {z : ZZ} {ps : List (Nat × Nat × Operand)} {out : List Value} (hf : fillP T ps (zx z) = some out) (w : World) : Qt P (.bd z ps) T w (.agg ⟨out⟩) := by
  rintro ⟨dst, op, ty, pos, after, guard⟩ ρ hc ha
  cases op <;> simp only [chkO, Bool.false_eq_true, Bool.and_eq_true] at hc
  rename_i t qs
  obtain ⟨⟨hz, hp⟩, hc⟩ := hc
  obtain ⟨zv, hzr, hzl⟩ := zeroIs_run (P := P) hz w
  obtain ⟨o, ho, rfl⟩ := fill_sound (P := P) (t := t) (ρ := ρ) ps qs.toList (zx z) out (fun x hx v hv => ha.2 x (by simp only [MK.ops]; exact hx) v hv) hp hf
  have hzc : zv.cells = ⟨zx z⟩ := by rw [← hzl]
  have hmap : (qs.map fun x => (x.1, ρ x.2)).toList = qs.toList.map fun p => (p.1, ρ p.2) := by rw [Array.toList_map]
  split at hc
  · rename_i fs hu
    have hpl : plc P t = fun i => (fs[i]?).map fun f => (f.offset, P.cellsOf f.type) := by funext i; simp [plc, hu]
    have hpr : (fs.mapM fun f => (do pure (f.offset, ← sizeOf f.type) : Sem (Nat × Nat))).run P w = .ok (fs.map fun f => (f.offset, P.cellsOf f.type)) w := by
      rw [← Array.toArray_toList (xs := fs), List.mapM_toArray, Sem.run_map, places_run fs.toList w (fun f hf => List.all_eq_true.1 hc f hf)]
      simp only [Result.andThen_ok]
      congr 1
      apply Array.ext'
      simp
    have hpl' : (fun i => (fs.map fun f => (f.offset, P.cellsOf f.type))[i]?) = plc P t := by rw [hpl]; funext i; simp
    simp only [execOp, Instr.build, Sem.run_bind, hzr, Result.andThen_ok, run_underlying hu w, hpr, hmap, hzc]
    rw [hpl', ho]
    rfl
  · rename_i n e hu
    obtain ⟨i, hi⟩ := Option.isSome_iff_exists.1 hc
    have hs : (sizeOf e).run P w = .ok (P.cellsOf e) w := by simp [sizeOf, typeInfo, hi, Program.cellsOf]
    have hpl : plc P t = fun i => some (i * P.cellsOf e, P.cellsOf e) := by funext i; simp [plc, hu]
    simp only [execOp, Instr.build, Sem.run_bind, hzr, Result.andThen_ok, run_underlying hu w, hs, hmap, hzc]
    rw [← hpl, ho]
    rfl
  · simp at hc
theorem add_eq (ad : Addr) (n : Nat) (b o : Nat) (h : ad = ⟨b, o, none⟩) : ad.add n = ⟨b, o + n, none⟩ := by rw [h]; exact add_plain b o n
theorem slo_eq {T : TT} {lo : Option Operand} {l : Int} (hl : bnd T 0 lo = some l) (b o m sz : Nat) : (if m = l.toNat then (⟨b, o, none⟩ : Addr) else (⟨b, o, none⟩ : Addr).add (l.toNat * sz)) = ⟨b, slo lo o m l.toNat sz, none⟩ := by
  cases lo with
  | none => simp [bnd] at hl; subst hl; simp [slo, Addr.add]
  | some y => simp only [slo]; split <;> simp [add_plain]

def Snd (P : Program) (m : MK) (T : TT) : R3 → Prop
  | .bad => True
  | .ok v => m.plain = true ∧ ∀ w, Qt P m T w v
  | .rq c v => c → m.plain = true ∧ ∀ w, Qt P m T w v
theorem pev_snd (m : MK) : Snd P m T (pev T m) := by
  cases m <;> unfold pev <;> simp only
  case mv x => split <;> first | exact trivial | (rename_i v hv; exact ⟨rfl, fun w => qt_mv hv⟩)
  case pk c a b =>
    split
    · rename_i hc; split <;> first | exact trivial | (rename_i hv; exact ⟨rfl, fun w => qt_pkt hc hv⟩)
    · rename_i hc; split <;> first | exact trivial | (rename_i hv; exact ⟨rfl, fun w => qt_pkf hc hv⟩)
    · exact trivial
  case nc x => split <;> first | exact trivial | (rename_i hv; exact ⟨rfl, fun w => qt_nc hv⟩)
  case fa x off => split <;> first | exact trivial | (rename_i hv; exact ⟨rfl, fun w => qt_fa hv⟩)
  case fl x off n =>
    split
    · rename_i hv; split <;> first | exact trivial | (rename_i hl; exact ⟨rfl, fun w => qt_fl1 hv hl⟩)
    · rename_i hv; exact ⟨rfl, fun w => qt_flm hv⟩
    · exact trivial
  case ias x i sz => split <;> first | exact trivial | (rename_i h1 h2; exact fun h => ⟨rfl, fun w => qt_ias h1 h2 h⟩)
  case iaa x i len sz => split <;> first | exact trivial | (rename_i h1 h2; exact fun h => ⟨rfl, fun w => qt_iaa h1 h2 h⟩)
  case ixa x i len sz n =>
    split
    · rename_i h1 h2; exact fun h => ⟨rfl, fun w => qt_ixam h1 h2 h⟩
    · rename_i l _ j h1 h2
      intro h
      refine ⟨rfl, fun w => qt_ixa1 h1 h2 ⟨h.1, h.2.1⟩ ?_⟩
      simp [List.getElem?_eq_getElem h.2.2]
    · exact trivial
  case ixs x i => split <;> first | exact trivial | (rename_i h1 h2; exact fun h => ⟨rfl, fun w => qt_ixs h1 h2 h⟩)
  case ex x i =>
    split
    · rename_i h1; split <;> first | exact trivial | (rename_i h2; exact ⟨rfl, fun w => qt_ex h1 h2⟩)
    · exact trivial
  case nt x => split <;> first | exact trivial | (rename_i h1; exact ⟨rfl, fun w => qt_nt h1⟩)
  case ar op k x y e =>
    split
    · rename_i h1 h2
      intro h
      refine ⟨rfl, fun w => ?_⟩
      have := qt_ar (P := P) (w := w) (op := op) (e := true) (evi_ev h1) (evi_ev h2) rfl rfl
      rw [wrap_in h] at this
      exact this
    · rename_i h1 h2; exact ⟨rfl, fun w => qt_ar (evi_ev h1) (evi_ev h2) rfl rfl⟩
    · exact trivial
  case dv op k x y =>
    split
    · rename_i h1 h2; exact fun h => ⟨rfl, fun w => qt_dvq (evi_ev h1) (evi_ev h2) rfl rfl h⟩
    · rename_i h1 h2; exact fun h => ⟨rfl, fun w => qt_dvr (evi_ev h1) (evi_ev h2) rfl rfl h⟩
    · exact trivial
  case bt op k x y => split <;> first | exact trivial | (rename_i h1 h2; exact ⟨rfl, fun w => qt_bt (evi_ev h1) (evi_ev h2) rfl rfl⟩)
  case sh op k x y => split <;> first | exact trivial | (rename_i h1 h2; exact fun h => ⟨rfl, fun w => qt_sh (evi_ev h1) h2 rfl h⟩)
  case cm op x y =>
    split
    · rename_i h1 h2; split <;> first | exact trivial | (rename_i h3; exact ⟨rfl, fun w => qt_cm h1 h2 (keq_eq h3)⟩)
    · exact trivial
  case se op x y =>
    split
    · rename_i h1 h2; exact ⟨rfl, fun w => qt_see h1 h2⟩
    · rename_i h1 h2; exact ⟨rfl, fun w => qt_sen h1 h2⟩
    · exact trivial
  case sa x y => split <;> first | exact trivial | (rename_i h1 h2; exact fun h => ⟨rfl, fun w => qt_sa h1 h2 h⟩)
  case be op x y =>
    split
    · rename_i h1 h2; exact ⟨rfl, fun w => qt_bee h1 h2⟩
    · rename_i h1 h2; exact ⟨rfl, fun w => qt_ben h1 h2⟩
    · exact trivial
  case pn op x => split <;> first | exact trivial | (rename_i h1; exact ⟨rfl, fun w => qt_pn h1⟩)
  case sn op x => split <;> first | exact trivial | (rename_i h1; exact ⟨rfl, fun w => qt_sn h1⟩)
  case mf f a b => split <;> first | exact trivial | (rename_i h1 h2; exact ⟨rfl, fun w => qt_mf h1 h2⟩)
  case mi t x => split <;> first | exact trivial | (rename_i h1; exact ⟨rfl, fun w => qt_mi h1⟩)
  case ss x lo hi =>
    split
    · rename_i h1; split <;> first | exact trivial | (rename_i h2 h3; exact fun h => ⟨rfl, fun w => qt_ss h1 h2 h3 h⟩)
    · exact trivial
  case sl x lo hi mx sz =>
    split
    · rename_i b o len cap h1
      split
      · rename_i l h m h2 h3 h4
        intro hc
        refine ⟨rfl, fun w => qt_sl h1 h2 h3 h4 hc ?_⟩
        simp only
        rw [slo_eq h2]
      · exact trivial
    · rename_i h1
      split
      · rename_i h2 h3 h4; exact fun hc => ⟨rfl, fun w => qt_sl h1 h2 h3 h4 hc rfl⟩
      · exact trivial
    · exact trivial
  case sp x lo hi n sz =>
    split
    · rename_i h1
      split
      · rename_i h2 h3; exact fun hc => ⟨rfl, fun w => qt_sp h1 h2 h3 hc⟩
      · exact trivial
    · exact trivial
  case ln b x =>
    split
    · rename_i h1; exact ⟨rfl, fun w => qt_ln1 h1⟩
    · rename_i h1; exact ⟨rfl, fun w => qt_ln2 h1⟩
    · exact trivial
  case la n x => split <;> first | exact trivial | (rename_i h1; exact ⟨rfl, fun w => qt_la h1⟩)
  case mm b x y =>
    split
    · rename_i h1 h2; exact ⟨rfl, fun w => qt_mx h1 h2⟩
    · rename_i h1 h2; exact ⟨rfl, fun w => qt_mn h1 h2⟩
    · exact trivial
  case ci k x => split <;> first | exact trivial | (rename_i h1; exact ⟨rfl, fun w => qt_ci h1⟩)
  case cs x => split <;> first | exact trivial | (rename_i h1; exact ⟨rfl, fun w => qt_cs h1⟩)
  case un k x => split <;> first | exact trivial | (rename_i h1; exact ⟨rfl, fun w => qt_un (evi_ev h1) rfl⟩)
  case bd z ps => split <;> first | exact trivial | (rename_i h1; exact ⟨rfl, fun w => qt_bd h1 w⟩)
  all_goals exact trivial
theorem pev_ok {m : MK} {v : Value} (h : pev T m = .ok v) : m.plain = true ∧ ∀ w, Qt P m T w v := by have := pev_snd (P := P) (T := T) m; rw [h] at this; exact this
theorem pev_rq {m : MK} {c : Prop} {v : Value} (h : pev T m = .rq c v) (hc : c) : m.plain = true ∧ ∀ w, Qt P m T w v := by have := pev_snd (P := P) (T := T) m; rw [h] at this; exact this hc
end Go.En
