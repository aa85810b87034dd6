/- What all walks want: bytes that nobody turns, picks of resources, operations of a device. -/
import Derived.Test.YtegjocpjmfaigaaWj
import Derived.Test.YtegjocpjmfaigaaMi
set_option linter.unusedSimpArgs false
set_option linter.unusedVariables false
namespace Go.Proofs.Ytegjocpjmfaigaa
open Go.En

/-- rows of bytes that nobody turns -/
def pool (M : List (Value × List UInt8)) : Res := ⟨fun b => ∃ p, p ∈ M ∧ vb p.1 b, fun w => ∀ p, p ∈ M → Rd p.1 5 1 p.2.length (bys p.2) w, fun _ _ h hk p hp => (hk p hp).same fun b hb => h b ⟨p, hp, hb⟩⟩

section
variable {w w0 : World} {S0 S : Nat → Prop} {K : Value → World → Prop} {b : Nat} {D : Dev} {B L : List Res}
theorem _root_.Go.En.St.pool_sub (hS : St w0 S0 w L) {M M' : List (Value × List UInt8)} (i : Nat) (hi : L[i]? = some (pool M)) (h : ∀ p, p ∈ M' → p ∈ M) : St w0 S0 w (L.set i (pool M')) :=
  hS.conv i hi (fun b ⟨p, hp, hb⟩ => ⟨p, h p hp, hb⟩) (fun p hp => hS.ok i _ hi p (h p hp))
theorem _root_.Go.En.St.pool_add (hS : St w0 S0 w L) {M : List (Value × List UInt8)} {v : Value} {bs : List UInt8} (i j : Nat) (hi : L[i]? = some (pool M)) (hj : L[j]? = some (row v 5 1 bs.length (bys bs))) (hij : i ≠ j) : St w0 S0 w ((L.set j emp).set i (pool (M ++ [(v, bs)]))) := by
  have h := hS.merge i j hi hj hij
  have hlt : i < (L.set j emp).length := by simpa using (List.getElem?_eq_some_iff.1 hi).1
  have hg : ((L.set j emp).set i ((pool M).and (row v 5 1 bs.length (bys bs))))[i]? = some ((pool M).and (row v 5 1 bs.length (bys bs))) := List.getElem?_set_self hlt
  have hk := h.ok i _ hg
  have := h.conv (r' := pool (M ++ [(v, bs)])) i hg ?_ ?_
  · rwa [List.set_set] at this
  · rintro x ⟨p, hp, hb⟩
    rcases List.mem_append.1 hp with hp | hp
    · exact .inl ⟨p, hp, hb⟩
    · simp at hp; subst hp; exact .inr (vb_vo hb)
  · intro p hp
    rcases List.mem_append.1 hp with hp | hp
    · exact hk.1 p hp
    · simp at hp; subst hp; exact Ow.rd hk.2.1

theorem Rd.form {v : Value} {E sz n : Nat} {xs : List Value} (h : Rd v E sz n xs w) : ∃ a c, v = .slice a n c := by
  rcases h with ⟨⟨a, rfl⟩, rfl, _⟩ | ⟨b, off, cap, l, rfl, _⟩
  · exact ⟨_, _, rfl⟩
  · exact ⟨_, _, rfl⟩
theorem Rd.block {v : Value} {E sz n : Nat} {xs : List Value} (h : Rd v E sz n xs w) (hn : 0 < n) : ∃ b off cap l, v = .slice (some ⟨b, off, none⟩) n cap ∧ n ≤ cap ∧ off + cap * sz ≤ l.length ∧ (l.drop off).take (n * sz) = xs ∧ Blr w b l E := by
  rcases h with ⟨_, rfl, _⟩ | h
  · omega
  · exact h
theorem Rd.take {b off n cap E k : Nat} {xs : List Value} (h : Rd (.slice (some ⟨b, off, none⟩) n cap) E 1 n xs w) (hk : k ≤ n) : Rd (.slice (some ⟨b, off, none⟩) k cap) E 1 k (xs.take k) w := by
  rcases h with ⟨⟨a', h⟩, rfl, rfl⟩ | ⟨b', off', cap', l, h, hn, hl, hx, hb⟩
  · cases h
    have : k = 0 := by omega
    subst this
    exact .inl ⟨⟨_, rfl⟩, rfl, rfl⟩
  · cases h
    refine .inr ⟨b, off, cap, l, rfl, by omega, hl, ?_, hb⟩
    rw [← hx, List.take_take]
    congr 1
    omega
theorem Rd.drop {b off n cap E k : Nat} {x : Operand} {xs : List Value} (h : Rd (.slice (some ⟨b, off, none⟩) n cap) E 1 n xs w) (hk : k ≤ n) : Rd (.slice (some ⟨b, slo (some x) off cap k 1, none⟩) (n - k) (cap - k)) E 1 (n - k) (xs.drop k) w := by
  rcases h with ⟨⟨a', h⟩, rfl, rfl⟩ | ⟨b', off', cap', l, h, hn, hl, hx, hb⟩
  · cases h
    have : k = 0 := by omega
    subst this
    exact .inl ⟨⟨_, rfl⟩, rfl, rfl⟩
  · cases h
    by_cases e : cap = k
    · have : n = k := by omega
      subst this
      have hso : slo (some x) off cap n 1 = off := by simp only [slo, if_pos e]
      rw [hso]
      refine .inr ⟨b, off, cap - n, l, rfl, by omega, by omega, ?_, hb⟩
      have hxl : xs.length ≤ n := by rw [← hx]; simp; omega
      have hnil : xs.drop n = [] := List.drop_eq_nil_of_le hxl
      rw [hnil]
      simp
    · have hso : slo (some x) off cap k 1 = off + k * 1 := by simp only [slo, if_neg e]
      rw [hso]
      refine .inr ⟨b, off + k * 1, cap - k, l, rfl, by omega, by omega, ?_, hb⟩
      rw [← hx, ← List.drop_drop, List.drop_take]
      simp

end
end Go.Proofs.Ytegjocpjmfaigaa
namespace Go.En
section
variable {w w0 : World} {S0 : Nat → Prop} {L : List Res}
theorem sel_len {L : List Res} : ∀ {is : List Nat} {R : List Res}, sel L is = some R → R.length = is.length ∧ ∀ i, i ∈ is → i < L.length
  | [], R, h => by simp [sel] at h; subst h; simp
  | i :: is, R, h => by
    simp only [sel] at h
    split at h
    · rename_i r0 R0 h1 h2
      cases h
      obtain ⟨e, k⟩ := sel_len h2
      refine ⟨by simp [e], fun j hj => ?_⟩
      rcases List.mem_cons.1 hj with rfl | hj
      · exact (List.getElem?_eq_some_iff.1 h1).1
      · exact k j hj
    · cases h
/-- the first ones picked, the others kept -/
theorem St.selB {A B A' : List Res} (hS : St w0 S0 w (A ++ B)) (is : List Nat) (h : En.sel A is = some A') (hn : nodB is = true) : St w0 S0 w (A' ++ B) := by
  obtain ⟨hl, hlt⟩ := sel_len h
  refine hS.pick (is ++ (List.range B.length).map (· + A.length)) _ ?_ ?_
  · intro k r hk
    by_cases e : k < A'.length
    · rw [List.getElem?_append_left e] at hk
      obtain ⟨i, h1, h2⟩ := sel_get h k r hk
      refine ⟨i, ?_, ?_⟩
      · rw [List.getElem?_append_left (by omega)]; exact h1
      · rw [List.getElem?_append_left (List.getElem?_eq_some_iff.1 h2).1]; exact h2
    · rw [List.getElem?_append_right (by omega)] at hk
      have hb := (List.getElem?_eq_some_iff.1 hk).1
      refine ⟨k - A'.length + A.length, ?_, ?_⟩
      · rw [List.getElem?_append_right (by omega), ← hl]
        simp [hb]
      · rw [List.getElem?_append_right (by omega), Nat.add_sub_cancel]; exact hk
  · rw [List.nodup_append]
    refine ⟨nodB_ok hn, List.Pairwise.map _ (fun a b h => by omega) List.nodup_range, ?_⟩
    intro i hi j hj
    simp only [List.mem_map, List.mem_range] at hj
    obtain ⟨k, _, rfl⟩ := hj
    have := hlt i hi
    omega
end
end Go.En
namespace Go.Proofs.Ytegjocpjmfaigaa
open Go.En

theorem cmv_self (a : Int) : cmv BinOp.eql a a = true := by simp [cmv]
section
variable {E : Env} {ks : List KI} {T : TT} {D : List Deferred} {w : World} {Q : QX}
theorem g_atx {ι : Type} (n : Nat) (T' : ι → TT) (I : ι → World → Prop) (hn : noD n ks = true) (h1 : G E (insA (.l (fun T1 D1 w1 => D1 = D ∧ ∃ x, SubL (T' x) T1 ∧ I x w1)) n ks) T D w Q) (h2 : ∀ x T w, SubL (T' x) T → I x w → G E (ks.drop n) T D w Q) : G E ks T D w Q :=
  kq_ins n ks hn (fun T1 D1 w1 ⟨hD, x, hs, hI⟩ => hD ▸ h2 x T1 w1 hs hI) _ _ _ _ h1
theorem g_jx {ι : Type} {T' : ι → TT} {I : ι → World → Prop} (x : ι) (hs : SubL (T' x) T) (hI : I x w) : G E (.l (fun T1 D1 w1 => D1 = D ∧ ∃ x, SubL (T' x) T1 ∧ I x w1) :: ks) T D w Q := ⟨rfl, x, hs, hI⟩
end
structure Opd where
  k : Int
  a : Int
  v : Value
  bs : List UInt8
  f : Fal
def opv (o : Opd) : List Value := [.int .i64 o.k, .int .i64 o.a, o.v, .int .i64 o.f.a, .int .i64 o.f.k, .int .i64 o.f.t]

theorem qt_bsR {P : Program} {T : TT} {w : World} {x : Operand} {v : Value} {E n : Nat} {bs : List UInt8} (hx : ev T x = some v) (hr : Rd v E 1 n (bys bs) w) : Qt P (.bs x) T w (.string ⟨bs.toArray⟩) := by
  rcases hr with ⟨⟨a, rfl⟩, rfl, hb⟩ | ⟨b, off, cap, l, rfl, hc, hl, hx', hB⟩
  · have : bs = [] := by
      have := congrArg List.length hb
      simpa using this
    subst this
    exact qt_bs0 hx
  · rw [Nat.mul_one] at hx'
    exact qt_bs hx hB (by omega) hx'
theorem inc8 (b : UInt8) : IntKind.u8.wrap (arv .add (b.toNat : Int) 1) = ((b + 1).toNat : Int) := by
  revert b
  have key : ∀ n : Fin 256, IntKind.u8.wrap (arv .add (n.val : Int) 1) = (((n.val + 1) % 256 : Nat) : Int) := by decide +kernel
  intro b
  have h := key ⟨b.toNat, b.toNat_lt⟩
  rw [h, UInt8.toNat_add]
  rfl
theorem bys_set (bs : List UInt8) (rest : List Value) (i : Nat) (x : UInt8) (h : i < bs.length) : spl (bys bs ++ rest) (0 + i * 1) [.int .u8 (x.toNat : Int)] = bys (bs.set i x) ++ rest := by
  have : spl (bys bs ++ rest) i [.int .u8 (x.toNat : Int)] = (bys bs ++ rest).set i (.int .u8 (x.toNat : Int)) := by
    rw [List.set_eq_take_append_cons_drop, if_pos (by simp; omega)]
    simp [spl]
  rw [Nat.zero_add, Nat.mul_one, this, List.set_append_left _ _ (by simpa using h)]
  simp [bys, List.map_set]
/-- nothing is lost, and one write at most waits more -/
def Fit (D D' : Dev) : Prop := D'.cells.length = D.cells.length ∧ D'.waits.length ≤ D.waits.length + 1
theorem Fit.refl (D : Dev) : Fit D D := ⟨rfl, by omega⟩
theorem crash_fit (D : Dev) (f : Fal) : (D.crash f).cells.length = D.cells.length ∧ (D.crash f).waits.length ≤ D.waits.length := ⟨crashC_len _ _ _ _, Nat.zero_le _⟩
theorem oper_fit (D : Dev) : D.oper.1.cells.length = D.cells.length ∧ D.oper.1.waits.length ≤ D.waits.length := by
  unfold Dev.oper
  split
  · exact crash_fit _ _
  · exact ⟨rfl, Nat.le_refl _⟩
theorem write_fit (D : Dev) (i : Int) (bs : List UInt8) : Fit D (D.write i bs).1 := by
  unfold Dev.write
  split
  · exact Fit.refl D
  · split
    · have := oper_fit (D.wr1 i bs)
      refine ⟨this.1, Nat.le_trans this.2 ?_⟩
      simp [Dev.wr1]
    · exact Fit.refl D
theorem sync_fit (D : Dev) : Fit D D.sync.1 := by
  unfold Dev.sync
  have := oper_fit D
  split
  · exact Fit.refl D
  · split
    · exact ⟨(putAll_len _ _).trans this.1, Nat.zero_le _⟩
    · exact ⟨this.1, by omega⟩
theorem arm_fit (D : Dev) (f : Fal) : Fit D (if D.down then D else D.arm f) := by split <;> exact ⟨rfl, by simp [Dev.arm]⟩
theorem crsh_fit (D : Dev) (f : Fal) : Fit D (if D.down then D else D.crash f) := by
  split
  · exact Fit.refl D
  · exact ⟨(crash_fit D f).1, by have := (crash_fit D f).2; omega⟩
def opsF (ops : List Opd) : List Value := (ops.map opv).flatten
/-- a slice of operations, as it lies in memory -/
def OpsR (E : TypeId) (v : Value) (ops : List Opd) (w : World) : Prop := Rd v E 6 ops.length (opsF ops) w ∧ ∀ o, o ∈ ops → ∃ E', Rd o.v E' 1 o.bs.length (bys o.bs) w
theorem opsF_len (ops : List Opd) : (opsF ops).length = ops.length * 6 := by
  rw [opsF, flat_len (k := 6) (fun l hl => by simp only [List.mem_map] at hl; obtain ⟨x, _, rfl⟩ := hl; rfl), List.length_map]
theorem take_opv (o : Opd) : List.take 6 (opv o) = opv o := rfl
/-- an operation, read from its slice -/
theorem opsF_get {ops : List Opd} {k : Nat} {o : Opd} (ho : ops[k]? = some o) {l : List Value} {off n : Nat} (hx : (l.drop off).take (n * 6) = opsF ops) (hn : n = ops.length) : List.take 6 (List.drop (off + k * 6) l) = opv o := by
  have hlt := (List.getElem?_eq_some_iff.1 ho).1
  have hf := flat_get (ls := ops.map opv) (k := 6) (i := k) (fun l hl => by simp only [List.mem_map] at hl; obtain ⟨x, _, rfl⟩ := hl; rfl) (by simpa using hlt) []
  have ho' := (List.getElem?_eq_some_iff.1 ho).2
  rw [List.append_nil, show (ops.map opv).flatten = opsF ops from rfl, ← hx, List.drop_take, List.take_take, List.drop_drop] at hf
  rw [Nat.min_eq_left (by omega)] at hf
  rw [hf]
  simp [ho']
theorem opv_get {ops : List Opd} {k j : Nat} {o : Opd} (ho : ops[k]? = some o) {l : List Value} {off n : Nat} (hx : (l.drop off).take (n * 6) = opsF ops) (hn : n = ops.length) (hj : j < 6) : l[off + k * 6 + j]? = (opv o)[j]? := by
  rw [← opsF_get ho hx hn, List.getElem?_take_of_lt hj, List.getElem?_drop]

section
variable {w w0 : World} {S0 S S' : Nat → Prop} {K : Value → World → Prop} {E : TypeId} {L : List Res}
def Good (ops : List Opd) : Prop := ops.length ≤ 120 ∧ ∀ o, o ∈ ops → o.bs.length ≤ 300
theorem l17 {v : Value} {ops : List Opd} (hv : OpsR E v ops w) (h1 : ¬ Good ops → K (.int .i64 1) w) (h0 : Good ops → K (.int .i64 0) w) : CK Try.prog 17 [v] w K := by
  obtain ⟨hr, hb⟩ := hv
  have hr' := hr
  obtain ⟨a, c, rfl⟩ := Rd.form hr
  refine call_k Try.func17 k17 Try.ntmps17 (Nat.le_of_ble_eq_true rfl) ?_
  (repeat (first | refine g_sq ?_ | refine g_rg ?_ | refine g_r0 ?_ | refine g_ok rfl rfl ?_ | refine g_no rfl ?_ | refine g_no0 rfl ?_ | refine g_bk ?_ | refine g_b ?_ | refine g_sk ?_ | refine g_cT rfl ?_ | refine g_cF rfl ?_ | refine g_x rfl ?_ | refine g_lb ?_))
  refine g_cd rfl (fun hc => ?_) (fun hc => ?_)
  all_goals simp only [cmv, decide_eq_true_eq, decide_eq_false_iff_not] at hc
  · (repeat (first | refine g_sq ?_ | refine g_rg ?_ | refine g_r0 ?_ | refine g_ok rfl rfl ?_ | refine g_no rfl ?_ | refine g_no0 rfl ?_ | refine g_bk ?_ | refine g_b ?_ | refine g_sk ?_ | refine g_cT rfl ?_ | refine g_cF rfl ?_ | refine g_x rfl ?_ | refine g_lb ?_))
    exact g_ret (q_1 rfl (h1 fun hg => by have := hg.1; omega))
  · (repeat (first | refine g_sq ?_ | refine g_rg ?_ | refine g_r0 ?_ | refine g_ok rfl rfl ?_ | refine g_no rfl ?_ | refine g_no0 rfl ?_ | refine g_bk ?_ | refine g_b ?_ | refine g_sk ?_ | refine g_cT rfl ?_ | refine g_cF rfl ?_ | refine g_x rfl ?_ | refine g_lb ?_))
    refine g_lp (ι := Nat) (fun k => [(0, .slice a ops.length c), (8, .int .i64 ops.length), (9, .int .i64 k)])
      (fun k w' => k ≤ ops.length ∧ (∀ j o, j < k → ops[j]? = some o → o.bs.length ≤ 300) ∧ w = w') (fun k => ops.length - k) 0 ⟨rfl, rfl, rfl, trivial⟩ ⟨Nat.zero_le _, fun j o hj => absurd hj (Nat.not_lt_zero j), rfl⟩ ?_
    rintro k _ ⟨hk, hgo, rfl⟩
    (repeat (first | refine g_sq ?_ | refine g_rg ?_ | refine g_r0 ?_ | refine g_ok rfl rfl ?_ | refine g_no rfl ?_ | refine g_no0 rfl ?_ | refine g_bk ?_ | refine g_b ?_ | refine g_sk ?_ | refine g_cT rfl ?_ | refine g_cF rfl ?_ | refine g_x rfl ?_ | refine g_lb ?_))
    refine g_cd rfl (fun hq => ?_) (fun hq => ?_)
    all_goals simp only [cmv, decide_eq_true_eq, decide_eq_false_iff_not] at hq
    · have hlt : k < ops.length := by omega
      have ho : ops[k]? = some ops[k] := List.getElem?_eq_getElem hlt
      have hmem : ops[k] ∈ ops := List.getElem_mem hlt
      generalize ops[k] = o at ho hmem
      obtain ⟨b, off, cap, l, hv, hn, hl, hx, hB⟩ := Rd.block hr (by omega)
      cases hv
      obtain ⟨E', hbo⟩ := hb o hmem
      obtain ⟨av, cv, ev⟩ := Rd.form hbo
      (repeat (first | refine g_sq ?_ | refine g_rg ?_ | refine g_r0 ?_ | refine g_ok rfl rfl ?_ | refine g_no rfl ?_ | refine g_no0 rfl ?_ | refine g_bk ?_ | refine g_b ?_ | refine g_sk ?_ | refine g_cT rfl ?_ | refine g_cF rfl ?_ | refine g_x rfl ?_ | refine g_lb ?_))
      refine g_rq rfl rfl ⟨by omega, by omega⟩ ?_
      (repeat (first | refine g_sq ?_ | refine g_rg ?_ | refine g_r0 ?_ | refine g_ok rfl rfl ?_ | refine g_no rfl ?_ | refine g_no0 rfl ?_ | refine g_bk ?_ | refine g_b ?_ | refine g_sk ?_ | refine g_cT rfl ?_ | refine g_cF rfl ?_ | refine g_x rfl ?_ | refine g_lb ?_))
      refine g_l1r (v := .slice av o.bs.length cv) rfl rfl hB (by
        show l[off + k * 6 + 2]? = _
        rw [opv_get ho hx rfl (by decide), ← ev]; rfl) ?_
      (repeat (first | refine g_sq ?_ | refine g_rg ?_ | refine g_r0 ?_ | refine g_ok rfl rfl ?_ | refine g_no rfl ?_ | refine g_no0 rfl ?_ | refine g_bk ?_ | refine g_b ?_ | refine g_sk ?_ | refine g_cT rfl ?_ | refine g_cF rfl ?_ | refine g_x rfl ?_ | refine g_lb ?_))
      refine g_cd rfl (fun hz => ?_) (fun hz => ?_)
      all_goals simp only [cmv, decide_eq_true_eq, decide_eq_false_iff_not] at hz
      · (repeat (first | refine g_sq ?_ | refine g_rg ?_ | refine g_r0 ?_ | refine g_ok rfl rfl ?_ | refine g_no rfl ?_ | refine g_no0 rfl ?_ | refine g_bk ?_ | refine g_b ?_ | refine g_sk ?_ | refine g_cT rfl ?_ | refine g_cF rfl ?_ | refine g_x rfl ?_ | refine g_lb ?_))
        exact g_ret (q_1 rfl (h1 fun hg => by have := hg.2 o hmem; omega))
      · (repeat (first | refine g_sq ?_ | refine g_rg ?_ | refine g_r0 ?_ | refine g_ok rfl rfl ?_ | refine g_no rfl ?_ | refine g_no0 rfl ?_ | refine g_bk ?_ | refine g_b ?_ | refine g_sk ?_ | refine g_cT rfl ?_ | refine g_cF rfl ?_ | refine g_x rfl ?_ | refine g_lb ?_))
        refine g_rq rfl rfl (in64 (by simp only [arv]; omega)) ?_
        (repeat (first | refine g_sq ?_ | refine g_rg ?_ | refine g_r0 ?_ | refine g_ok rfl rfl ?_ | refine g_no rfl ?_ | refine g_no0 rfl ?_ | refine g_bk ?_ | refine g_b ?_ | refine g_sk ?_ | refine g_cT rfl ?_ | refine g_cF rfl ?_ | refine g_x rfl ?_ | refine g_lb ?_))
        refine g_l (k + 1) ⟨rfl, rfl, rfl, trivial⟩ ⟨by omega, fun j o' hj ho' => ?_, rfl⟩ (by omega)
        by_cases e : j = k
        · subst e; rw [ho] at ho'; cases ho'; omega
        · exact hgo j o' (by omega) ho'
    · (repeat (first | refine g_sq ?_ | refine g_rg ?_ | refine g_r0 ?_ | refine g_ok rfl rfl ?_ | refine g_no rfl ?_ | refine g_no0 rfl ?_ | refine g_bk ?_ | refine g_b ?_ | refine g_sk ?_ | refine g_cT rfl ?_ | refine g_cF rfl ?_ | refine g_x rfl ?_ | refine g_lb ?_))
      refine g_ret (q_1 rfl (h0 ⟨by omega, fun o ho => ?_⟩))
      obtain ⟨j, hj, e⟩ := List.getElem_of_mem ho
      exact hgo j o (by omega) (by rw [List.getElem?_eq_getElem hj, e])

end
end Go.Proofs.Ytegjocpjmfaigaa
