/- The depot's law: what its statements begin with. -/
import Derived.Test.YtegjocpjmfaigaaNf
import Derived.Test.YtegjocpjmfaigaaMh
import Derived.Test.YtegjocpjmfaigaaJz
set_option linter.unusedSimpArgs false
set_option linter.unusedVariables false
namespace Go.Proofs.Ytegjocpjmfaigaa
open Go.En

/-- what is done to a depot -/
structure Odp where
  k : Int
  v : Value
  bs : List UInt8
  f : Fal
def odvp (o : Odp) : List Value := [.int .i64 o.k, o.v, .int .i64 o.f.a, .int .i64 o.f.k, .int .i64 o.f.t]
def odFp (ops : List Odp) : List Value := (ops.map odvp).flatten
def OpsP (E : TypeId) (v : Value) (ops : List Odp) (w : World) : Prop := Rd v E 5 ops.length (odFp ops) w ∧ ∀ o, o ∈ ops → Ext w (o.v, o.bs)
theorem odFp_get {ops : List Odp} {k : Nat} {o : Odp} (ho : ops[k]? = some o) {l : List Value} {off n : Nat} (hx : (l.drop off).take (n * 5) = odFp ops) (hn : n = ops.length) : List.take 5 (List.drop (off + k * 5) l) = odvp o := by
  have hlt := (List.getElem?_eq_some_iff.1 ho).1
  have hf := flat_get (ls := ops.map odvp) (k := 5) (i := k) (fun l hl => by simp only [List.mem_map] at hl; obtain ⟨x, _, rfl⟩ := hl; rfl) (by simpa using hlt) []
  have ho' := (List.getElem?_eq_some_iff.1 ho).2
  rw [List.append_nil, show (ops.map odvp).flatten = odFp ops from rfl, ← hx, List.drop_take, List.take_take, List.drop_drop] at hf
  rw [Nat.min_eq_left (by omega)] at hf
  rw [hf]
  simp [ho']
def GoodP (ops : List Odp) : Prop := ops.length ≤ 60 ∧ ∀ o, o ∈ ops → o.bs.length ≤ 1000
def Dep.appendF (P : Dep) (D : Dev) (b : List UInt8) : Dep × Dev × Int :=
  if P.shut then (P, D, 141) else if P.area = 0 then (P, D, 161) else
    let r := (P.j P.liv).appendF (frm P.liv P.bk) P.bk D b
    ({ P.put P.liv r.1 with shut := decide (r.2.2 = 141) }, r.2.1, r.2.2)
def Dep.compactF (P : Dep) (D : Dev) (b : List UInt8) : Dep × Dev × Int :=
  if P.shut then (P, D, 141) else if P.bk < needs [b.length] then (P, D, 150) else
    if maxN < P.top then (P, D, 151) else
      let r := ((P.j P.tgt).begin P.top).appendF (frm P.tgt P.bk) P.bk D b
      if r.2.2 ≠ 0 then ({ P.put P.tgt r.1 with shut := decide (r.2.2 = 141) }, r.2.1, r.2.2)
      else ({ P.put P.tgt r.1 with area := if P.tgt then 2 else 1 }, r.2.1, 0)
theorem depF (P : Dep) (D : Dev) (b : List UInt8) : P.append D b = P.appendF D b := by
  unfold Dep.append Dep.appendF
  rw [appendF_eq]
theorem depC (P : Dep) (D : Dev) (b : List UInt8) : P.compact D b = P.compactF D b := by
  unfold Dep.compact Dep.compactF
  rw [appendF_eq]
def ya0 : Dep := openP (Dev.new 8)
def ya1 := ya0.appendF (Dev.new 8) [97]
def ya2 := ya1.1.compactF ya1.2.1 [115]
def ya3 := ya2.1.appendF ya2.2.1 [97]
def ya4 := ya3.1.appendF ya3.2.1 [98]
def ya5 := ya4.1.compactF ya4.2.1 [116]
theorem za1 : ya1.2.2 = 161 ∧ ya1.2.1.waits.length = 0 := by decide +kernel
theorem za2 : ya2.2.2 = 0 ∧ ya2.2.1.waits.length = 0 := by decide +kernel
theorem za3 : ya3.2.2 = 0 ∧ ya3.2.1.waits.length = 0 := by decide +kernel
theorem za4 : ya4.2.2 = 150 ∧ ya4.2.1.waits.length = 0 ∧ ya4.1.number = 2 ∧ ya4.1.area = 1 ∧ ya4.1.left = 0 := by decide +kernel
theorem za5 : ya5.2.2 = 0 ∧ ya5.1.number = 3 ∧ ya5.1.area = 2 ∧ ya5.1.left = 2 := by decide +kernel
section
variable {w w0 : World} {S0 S S1 : Nat → Prop} {K : Value → World → Prop} {E : TypeId} {L B : List Res} {pb d : Nat} {D : Dev}
theorem odp_at {k : Nat} {v : Value} {ops : List Odp} (hv : OpsP E v ops w0) (hlt : k < ops.length) : ∃ (o : Odp) (b off cap : Nat) (l : List Value) (av : Option Addr) (cv : Nat), ops[k]? = some o ∧ o ∈ ops ∧ v = .slice (some ⟨b, off, none⟩) ops.length cap ∧ o.v = .slice av o.bs.length cv ∧ Ext w0 (o.v, o.bs) ∧
    off + k * 5 + 5 ≤ l.length ∧ (∀ j, j < 5 → l[off + k * 5 + j]? = (odvp o)[j]?) ∧ List.take 3 (List.drop (off + k * 5 + 2) l) = (falV o.f).cells.toList ∧
    ∀ {w : World} {L : List Res}, St w0 (fun _ => False) w L → Blr w b l E := by
  have ho : ops[k]? = some ops[k] := List.getElem?_eq_getElem hlt
  have hmem : ops[k] ∈ ops := List.getElem_mem hlt
  generalize ops[k] = o at ho hmem
  obtain ⟨b, off, cap, l, hv', hn, hl, hx, hB⟩ := Rd.block hv.1 (by omega)
  have hxt := hv.2 o hmem
  obtain ⟨E', hbo⟩ := hxt
  obtain ⟨av, cv, ev⟩ := Rd.form hbo
  have h7 := odFp_get ho hx rfl
  refine ⟨o, b, off, cap, l, av, cv, ho, hmem, hv', ev, ⟨E', hbo⟩, by omega, fun j hj => ?_, ?_, fun {w L} hS => ?_⟩
  · rw [← h7, List.getElem?_take_of_lt hj, List.getElem?_drop]
  · have : List.take 3 (List.drop 2 (List.take 5 (List.drop (off + k * 5) l))) = List.take 3 (List.drop (off + k * 5 + 2) l) := by
      rw [List.drop_take, List.take_take, List.drop_drop]
      rfl
    rw [← this, h7]
    rfl
  · refine hB.same (hS.fr.kept b (hv.1.lt b ?_) (fun h => h))
    rw [hv']
    exact ⟨rfl, by omega⟩
theorem OpsP.to {v : Value} {ops : List Odp} (hv : OpsP E v ops w0) (hS : St w0 (fun _ => False) w L) : OpsP E v ops w :=
  ⟨hS.ro (r := rdR v E 5 ops.length (odFp ops)) hv.1 fun x hx => ⟨hv.1.lt x hx, fun h => h⟩, fun o ho => (hv.2 o ho).rd hS⟩
theorem l58 {v : Value} {ops : List Odp} (hv : OpsP E v ops w) (h1 : ¬ GoodP ops → K (.int .i64 1) w) (h0 : GoodP ops → K (.int .i64 0) w) : CK Try.prog 58 [v] w K := by
  have hr' := hv.1
  obtain ⟨a, c, rfl⟩ := Rd.form hr'
  refine call_k Try.func58 k58 Try.ntmps58 (Nat.le_of_ble_eq_true rfl) ?_
  (repeat (first | refine g_sq ?_ | refine g_rg ?_ | refine g_r0 ?_ | refine g_ok rfl rfl ?_ | refine g_no rfl ?_ | refine g_no0 rfl ?_ | refine g_bk ?_ | refine g_b ?_ | refine g_sk ?_ | refine g_cT rfl ?_ | refine g_cF rfl ?_ | refine g_x rfl ?_ | refine g_lb ?_))
  refine g_cd rfl (fun hc => ?_) (fun hc => ?_)
  all_goals simp only [cmv, decide_eq_true_eq, decide_eq_false_iff_not] at hc
  · (repeat (first | refine g_sq ?_ | refine g_rg ?_ | refine g_r0 ?_ | refine g_ok rfl rfl ?_ | refine g_no rfl ?_ | refine g_no0 rfl ?_ | refine g_bk ?_ | refine g_b ?_ | refine g_sk ?_ | refine g_cT rfl ?_ | refine g_cF rfl ?_ | refine g_x rfl ?_ | refine g_lb ?_))
    exact g_ret (q_1 rfl (h1 fun hg => by have := hg.1; omega))
  · (repeat (first | refine g_sq ?_ | refine g_rg ?_ | refine g_r0 ?_ | refine g_ok rfl rfl ?_ | refine g_no rfl ?_ | refine g_no0 rfl ?_ | refine g_bk ?_ | refine g_b ?_ | refine g_sk ?_ | refine g_cT rfl ?_ | refine g_cF rfl ?_ | refine g_x rfl ?_ | refine g_lb ?_))
    refine g_lp (ι := Nat) (fun k => [(0, .slice a ops.length c), (8, .int .i64 ops.length), (9, .int .i64 k)])
      (fun k w' => k ≤ ops.length ∧ (∀ j o, j < k → ops[j]? = some o → o.bs.length ≤ 1000) ∧ w = w') (fun k => ops.length - k) 0 ⟨rfl, rfl, rfl, trivial⟩ ⟨Nat.zero_le _, fun j o hj => absurd hj (Nat.not_lt_zero j), rfl⟩ ?_
    rintro k _ ⟨hk, hgo, rfl⟩
    (repeat (first | refine g_sq ?_ | refine g_rg ?_ | refine g_r0 ?_ | refine g_ok rfl rfl ?_ | refine g_no rfl ?_ | refine g_no0 rfl ?_ | refine g_bk ?_ | refine g_b ?_ | refine g_sk ?_ | refine g_cT rfl ?_ | refine g_cF rfl ?_ | refine g_x rfl ?_ | refine g_lb ?_))
    refine g_cd rfl (fun hq => ?_) (fun hq => ?_)
    all_goals simp only [cmv, decide_eq_true_eq, decide_eq_false_iff_not] at hq
    · obtain ⟨o, bo, off, cap, l, av, cv, ho, hmem, he, hov, hxt, hll, hget, hf3, hB⟩ := odp_at hv (k := k) (by omega)
      cases he
      have hov2 : o.v = .slice av o.bs.length cv := hov
      (repeat (first | refine g_sq ?_ | refine g_rg ?_ | refine g_r0 ?_ | refine g_ok rfl rfl ?_ | refine g_no rfl ?_ | refine g_no0 rfl ?_ | refine g_bk ?_ | refine g_b ?_ | refine g_sk ?_ | refine g_cT rfl ?_ | refine g_cF rfl ?_ | refine g_x rfl ?_ | refine g_lb ?_))
      refine g_rq rfl rfl ⟨by omega, by omega⟩ ?_
      (repeat (first | refine g_sq ?_ | refine g_rg ?_ | refine g_r0 ?_ | refine g_ok rfl rfl ?_ | refine g_no rfl ?_ | refine g_no0 rfl ?_ | refine g_bk ?_ | refine g_b ?_ | refine g_sk ?_ | refine g_cT rfl ?_ | refine g_cF rfl ?_ | refine g_x rfl ?_ | refine g_lb ?_))
      refine g_l1r (v := .slice av o.bs.length cv) rfl rfl (hB (St.nil w _)) (by
        show l[off + k * 5 + 1]? = _
        rw [hget 1 (by decide), ← hov2]; rfl) ?_
      (repeat (first | refine g_sq ?_ | refine g_rg ?_ | refine g_r0 ?_ | refine g_ok rfl rfl ?_ | refine g_no rfl ?_ | refine g_no0 rfl ?_ | refine g_bk ?_ | refine g_b ?_ | refine g_sk ?_ | refine g_cT rfl ?_ | refine g_cF rfl ?_ | refine g_x rfl ?_ | refine g_lb ?_))
      refine g_cd rfl (fun hz => ?_) (fun hz => ?_)
      all_goals simp only [cmv, decide_eq_true_eq, decide_eq_false_iff_not] at hz
      · (repeat (first | refine g_sq ?_ | refine g_rg ?_ | refine g_r0 ?_ | refine g_ok rfl rfl ?_ | refine g_no rfl ?_ | refine g_no0 rfl ?_ | refine g_bk ?_ | refine g_b ?_ | refine g_sk ?_ | refine g_cT rfl ?_ | refine g_cF rfl ?_ | refine g_x rfl ?_ | refine g_lb ?_))
        exact g_ret (q_1 rfl (h1 fun hg => by have := hg.2 o hmem; omega))
      · (repeat (first | refine g_sq ?_ | refine g_rg ?_ | refine g_r0 ?_ | refine g_ok rfl rfl ?_ | refine g_no rfl ?_ | refine g_no0 rfl ?_ | refine g_bk ?_ | refine g_b ?_ | refine g_sk ?_ | refine g_cT rfl ?_ | refine g_cF rfl ?_ | refine g_x rfl ?_ | refine g_lb ?_))
        refine g_rq rfl rfl (in64 (by simp only [arv]; omega)) ?_
        (repeat (first | refine g_sq ?_ | refine g_rg ?_ | refine g_r0 ?_ | refine g_ok rfl rfl ?_ | refine g_no rfl ?_ | refine g_no0 rfl ?_ | refine g_bk ?_ | refine g_b ?_ | refine g_sk ?_ | refine g_cT rfl ?_ | refine g_cF rfl ?_ | refine g_x rfl ?_ | refine g_lb ?_))
        refine g_l (k + 1) ⟨rfl, rfl, rfl, trivial⟩ ⟨by omega, fun j o' hj ho' => ?_, rfl⟩ (by omega)
        by_cases e : j = k
        · subst e; rw [ho] at ho'; cases ho'; omega
        · exact hgo j o' (by omega) ho'
    · (repeat (first | refine g_sq ?_ | refine g_rg ?_ | refine g_r0 ?_ | refine g_ok rfl rfl ?_ | refine g_no rfl ?_ | refine g_no0 rfl ?_ | refine g_bk ?_ | refine g_b ?_ | refine g_sk ?_ | refine g_cT rfl ?_ | refine g_cF rfl ?_ | refine g_x rfl ?_ | refine g_lb ?_))
      refine g_ret (q_1 rfl (h0 ⟨by omega, fun o ho => ?_⟩))
      obtain ⟨j, hj, e⟩ := List.getElem_of_mem ho
      exact hgo j o (by omega) (by rw [List.getElem?_eq_getElem hj, e])
theorem c51z (h : K (.int .i64 1) w) : CK Try.prog 51 [.int .i64 0] w K := by
  refine call_k Try.func51 k51 Try.ntmps51 (Nat.le_of_ble_eq_true rfl) ?_
  (repeat (first | refine g_sq ?_ | refine g_rg ?_ | refine g_r0 ?_ | refine g_ok rfl rfl ?_ | refine g_no rfl ?_ | refine g_no0 rfl ?_ | refine g_bk ?_ | refine g_b ?_ | refine g_sk ?_ | refine g_cT rfl ?_ | refine g_cF rfl ?_ | refine g_x rfl ?_ | refine g_lb ?_))
  refine g_lp (ι := Unit) (fun _ => [(0, .int .i64 0), (3, .int .i64 1)]) (fun _ w' => w = w') (fun _ => 0) () ⟨rfl, rfl, trivial⟩ rfl ?_
  rintro _ _ rfl
  (repeat (first | refine g_sq ?_ | refine g_rg ?_ | refine g_r0 ?_ | refine g_ok rfl rfl ?_ | refine g_no rfl ?_ | refine g_no0 rfl ?_ | refine g_bk ?_ | refine g_b ?_ | refine g_sk ?_ | refine g_cT rfl ?_ | refine g_cF rfl ?_ | refine g_x rfl ?_ | refine g_lb ?_))
  exact g_ret (q_1 rfl h)
theorem c67 (hl : D.cells.length ≤ 4096) (hS : St w0 S0 w (DevR S1 d D :: B)) (h1 : D.cells.length < 4 → K (.tuple ⟨[.pointer none, .int .i64 160]⟩) w) (h2 : 4 ≤ D.cells.length → D.down = true → ∀ w' S1, St w0 S0 w' (DevR S1 d D :: B) → K (.tuple ⟨[.pointer none, .int .i64 141]⟩) w')
    (h3 : 4 ≤ D.cells.length → D.down = false → ∀ w' S S1 pb, St w0 S0 w' (DepR S pb d (openP D) :: DevR S1 d D :: B) → K (.tuple ⟨[dp pb, .int .i64 0]⟩) w') : CK Try.prog 67 [dp d] w K := by
  have hf := St.frame (A := [DevR S1 d D]) (B := B) hS
  exact b67 hl hf.1 h1 (fun a b w' S1 h' => h2 a b w' S1 (hf.2 w' _ h')) fun a b w' S S1 pb h' => h3 a b w' S S1 pb (hf.2 w' _ h')
theorem b57 {N : Nat} (h4 : 4 ≤ N ∧ N ≤ 4096) (h : ∀ w' S S1 pb d, St w (fun _ => False) w' [DepR S pb d (openP (Dev.new N)), DevR S1 d (Dev.new N)] → K (.tuple ⟨[dp d, dp pb]⟩) w') : CK Try.prog 57 [.int .i64 N] w K := by
  have hl : (Dev.new N).cells.length = N := List.length_replicate
  refine call_k Try.func57 k57 Try.ntmps57 (Nat.le_of_ble_eq_true rfl) ?_
  (repeat (first | refine g_sq ?_ | refine g_rg ?_ | refine g_r0 ?_ | refine g_ok rfl rfl ?_ | refine g_no rfl ?_ | refine g_no0 rfl ?_ | refine g_bk ?_ | refine g_b ?_ | refine g_sk ?_ | refine g_cT rfl ?_ | refine g_cF rfl ?_ | refine g_x rfl ?_ | refine g_lb ?_))
  refine g_cl rfl rfl (c18 (St.nil w (fun _ => False)) (fun hn => absurd ⟨by omega, by omega⟩ hn) (fun _ w1 S1 d hS => ?_))
  have hS : St w (fun _ => False) w1 [DevR S1 d (Dev.new N)] := hS
  (repeat (first | refine g_sq ?_ | refine g_rg ?_ | refine g_r0 ?_ | refine g_ok rfl rfl ?_ | refine g_no rfl ?_ | refine g_no0 rfl ?_ | refine g_bk ?_ | refine g_b ?_ | refine g_sk ?_ | refine g_cT rfl ?_ | refine g_cF rfl ?_ | refine g_x rfl ?_ | refine g_lb ?_))
  refine g_cl rfl rfl (c67 (by omega) hS (fun h => by omega) (fun _ hd => absurd hd (by simp [Dev.new])) (fun _ _ w1 S S1 pb hS => ?_))
  (repeat (first | refine g_sq ?_ | refine g_rg ?_ | refine g_r0 ?_ | refine g_ok rfl rfl ?_ | refine g_no rfl ?_ | refine g_no0 rfl ?_ | refine g_bk ?_ | refine g_b ?_ | refine g_sk ?_ | refine g_cT rfl ?_ | refine g_cF rfl ?_ | refine g_x rfl ?_ | refine g_lb ?_))
  exact g_ret (q_2 rfl rfl (h _ _ _ _ _ hS))
theorem c57 {N : Nat} (h4 : 4 ≤ N ∧ N ≤ 4096) (hS : St w0 S0 w L) (h : ∀ w' S S1 pb d, St w0 S0 w' (L ++ [DepR S pb d (openP (Dev.new N)), DevR S1 d (Dev.new N)]) → K (.tuple ⟨[dp d, dp pb]⟩) w') : CK Try.prog 57 [.int .i64 N] w K :=
  b57 h4 fun w' S S1 pb d h' => h w' S S1 pb d (hS.call0.2 w' _ h')
set_option maxRecDepth 100000 in
theorem b56 (h : ∀ w', St w (fun _ => False) w' [] → K (.bool true) w') : CK Try.prog 56 [] w K := by
  refine call_k Try.func56 k56 Try.ntmps56 (Nat.le_of_ble_eq_true rfl) ?_
  have dis : ∀ {w' : World} {S S1 : Nat → Prop} {P : Dep} {D : Dev} {pb d : Nat} {B : List Res} (i : Nat) {g : Nat} {l : List Value} {n c : Nat}, St w (fun _ => False) w' (DepR S pb d P :: DevR S1 d D :: B) → 2 ≤ i → (DepR S pb d P :: DevR S1 d D :: B)[i]? = some (cel g l 5) → ∀ x, vb (.slice (some ⟨g, 0, none⟩) n c) x → ¬ S x ∧ ¬ S1 x := by
    intro w' S S1 P D pb d B i g l n c hS hi hg x hx
    exact ⟨fun h => hS.dis 0 i _ _ rfl hg (by omega) x h hx.1, fun h => hS.dis 1 i _ _ rfl hg (by omega) x h hx.1⟩
  (repeat (first | refine g_sq ?_ | refine g_rg ?_ | refine g_r0 ?_ | refine g_ok rfl rfl ?_ | refine g_no rfl ?_ | refine g_no0 rfl ?_ | refine g_bk ?_ | refine g_b ?_ | refine g_sk ?_ | refine g_cT rfl ?_ | refine g_cF rfl ?_ | refine g_x rfl ?_ | refine g_lb ?_))
  refine g_cl rfl rfl (c57 (N := 8) (by decide) (St.nil w (fun _ => False)) fun w1 S S1 pb d hS => ?_)
  have hS : St w (fun _ => False) w1 [DepR S pb d ya0, DevR S1 d (Dev.new 8)] := hS
  (repeat (first | refine g_sq ?_ | refine g_rg ?_ | refine g_r0 ?_ | refine g_ok rfl rfl ?_ | refine g_no rfl ?_ | refine g_no0 rfl ?_ | refine g_bk ?_ | refine g_b ?_ | refine g_sk ?_ | refine g_cT rfl ?_ | refine g_cF rfl ?_ | refine g_x rfl ?_ | refine g_lb ?_))
  refine g_ef rfl (ef_bl (rs := [.int .u8 97]) hS rfl fun g w1 hS => ?_)
  refine g_ef rfl (ef_mb hS 2 rfl rfl fun w1 hS => ?_)
  refine g_cl rfl rfl (c63 (bs := [97]) (E := 5) (by decide) (by decide) (.inr ⟨g, 0, 1, _, rfl, Nat.le_refl _, Nat.le_refl _, rfl, (hS.b 2 rfl).r⟩) (dis 2 hS (by decide) rfl) hS fun w1 S S1 hS => ?_)
  rw [depF, show ya0.appendF (Dev.new 8) [97] = ya1 from rfl] at hS
  rw [depF, show ya0.appendF (Dev.new 8) [97] = ya1 from rfl, za1.1]
  have hS : St w (fun _ => False) w1 [DepR S pb d ya1.1, DevR S1 d ya1.2.1] := hS.sel [0, 1] rfl rfl
  (repeat (first | refine g_sq ?_ | refine g_rg ?_ | refine g_r0 ?_ | refine g_ok rfl rfl ?_ | refine g_no rfl ?_ | refine g_no0 rfl ?_ | refine g_bk ?_ | refine g_b ?_ | refine g_sk ?_ | refine g_cT rfl ?_ | refine g_cF rfl ?_ | refine g_x rfl ?_ | refine g_lb ?_))
  refine g_ef rfl (ef_bl (rs := [.int .u8 115]) hS rfl fun g w1 hS => ?_)
  refine g_ef rfl (ef_mb hS 2 rfl rfl fun w1 hS => ?_)
  refine g_cl rfl rfl (c65 (bs := [115]) (E := 5) (by decide) (by rw [za1.2]; decide) (.inr ⟨g, 0, 1, _, rfl, Nat.le_refl _, Nat.le_refl _, rfl, (hS.b 2 rfl).r⟩) (dis 2 hS (by decide) rfl) hS fun w1 S S1 hS => ?_)
  rw [depC, show ya1.1.compactF ya1.2.1 [115] = ya2 from rfl] at hS
  rw [depC, show ya1.1.compactF ya1.2.1 [115] = ya2 from rfl, za2.1]
  have hS : St w (fun _ => False) w1 [DepR S pb d ya2.1, DevR S1 d ya2.2.1] := hS.sel [0, 1] rfl rfl
  (repeat (first | refine g_sq ?_ | refine g_rg ?_ | refine g_r0 ?_ | refine g_ok rfl rfl ?_ | refine g_no rfl ?_ | refine g_no0 rfl ?_ | refine g_bk ?_ | refine g_b ?_ | refine g_sk ?_ | refine g_cT rfl ?_ | refine g_cF rfl ?_ | refine g_x rfl ?_ | refine g_lb ?_))
  refine g_ef rfl (ef_bl (rs := [.int .u8 97]) hS rfl fun g w1 hS => ?_)
  refine g_ef rfl (ef_mb hS 2 rfl rfl fun w1 hS => ?_)
  refine g_cl rfl rfl (c63 (bs := [97]) (E := 5) (by decide) (by rw [za2.2]; decide) (.inr ⟨g, 0, 1, _, rfl, Nat.le_refl _, Nat.le_refl _, rfl, (hS.b 2 rfl).r⟩) (dis 2 hS (by decide) rfl) hS fun w1 S S1 hS => ?_)
  rw [depF, show ya2.1.appendF ya2.2.1 [97] = ya3 from rfl] at hS
  rw [depF, show ya2.1.appendF ya2.2.1 [97] = ya3 from rfl, za3.1]
  have hS : St w (fun _ => False) w1 [DepR S pb d ya3.1, DevR S1 d ya3.2.1] := hS.sel [0, 1] rfl rfl
  (repeat (first | refine g_sq ?_ | refine g_rg ?_ | refine g_r0 ?_ | refine g_ok rfl rfl ?_ | refine g_no rfl ?_ | refine g_no0 rfl ?_ | refine g_bk ?_ | refine g_b ?_ | refine g_sk ?_ | refine g_cT rfl ?_ | refine g_cF rfl ?_ | refine g_x rfl ?_ | refine g_lb ?_))
  refine g_ef rfl (ef_bl (rs := [.int .u8 98]) hS rfl fun g w1 hS => ?_)
  refine g_ef rfl (ef_mb hS 2 rfl rfl fun w1 hS => ?_)
  refine g_cl rfl rfl (c63 (bs := [98]) (E := 5) (by decide) (by rw [za3.2]; decide) (.inr ⟨g, 0, 1, _, rfl, Nat.le_refl _, Nat.le_refl _, rfl, (hS.b 2 rfl).r⟩) (dis 2 hS (by decide) rfl) hS fun w1 S S1 hS => ?_)
  rw [depF, show ya3.1.appendF ya3.2.1 [98] = ya4 from rfl] at hS
  rw [depF, show ya3.1.appendF ya3.2.1 [98] = ya4 from rfl, za4.1]
  have hS : St w (fun _ => False) w1 [DepR S pb d ya4.1, DevR S1 d ya4.2.1] := hS.sel [0, 1] rfl rfl
  (repeat (first | refine g_sq ?_ | refine g_rg ?_ | refine g_r0 ?_ | refine g_ok rfl rfl ?_ | refine g_no rfl ?_ | refine g_no0 rfl ?_ | refine g_bk ?_ | refine g_b ?_ | refine g_sk ?_ | refine g_cT rfl ?_ | refine g_cF rfl ?_ | refine g_x rfl ?_ | refine g_lb ?_))
  refine g_cl rfl rfl (c59 hS fun w1 S hS => ?_)
  rw [za4.2.2.1]
  (repeat (first | refine g_sq ?_ | refine g_rg ?_ | refine g_r0 ?_ | refine g_ok rfl rfl ?_ | refine g_no rfl ?_ | refine g_no0 rfl ?_ | refine g_bk ?_ | refine g_b ?_ | refine g_sk ?_ | refine g_cT rfl ?_ | refine g_cF rfl ?_ | refine g_x rfl ?_ | refine g_lb ?_))
  refine g_cl rfl rfl (c60 hS ?_)
  rw [za4.2.2.2.1]
  (repeat (first | refine g_sq ?_ | refine g_rg ?_ | refine g_r0 ?_ | refine g_ok rfl rfl ?_ | refine g_no rfl ?_ | refine g_no0 rfl ?_ | refine g_bk ?_ | refine g_b ?_ | refine g_sk ?_ | refine g_cT rfl ?_ | refine g_cF rfl ?_ | refine g_x rfl ?_ | refine g_lb ?_))
  refine g_cl rfl rfl (c61 hS fun w1 S hS => ?_)
  rw [za4.2.2.2.2]
  (repeat (first | refine g_sq ?_ | refine g_rg ?_ | refine g_r0 ?_ | refine g_ok rfl rfl ?_ | refine g_no rfl ?_ | refine g_no0 rfl ?_ | refine g_bk ?_ | refine g_b ?_ | refine g_sk ?_ | refine g_cT rfl ?_ | refine g_cF rfl ?_ | refine g_x rfl ?_ | refine g_lb ?_))
  refine g_ef rfl (ef_bl (rs := [.int .u8 116]) hS rfl fun g w1 hS => ?_)
  refine g_ef rfl (ef_mb hS 2 rfl rfl fun w1 hS => ?_)
  refine g_cl rfl rfl (c65 (bs := [116]) (E := 5) (by decide) (by rw [za4.2.1]; decide) (.inr ⟨g, 0, 1, _, rfl, Nat.le_refl _, Nat.le_refl _, rfl, (hS.b 2 rfl).r⟩) (dis 2 hS (by decide) rfl) hS fun w1 S S1 hS => ?_)
  rw [depC, show ya4.1.compactF ya4.2.1 [116] = ya5 from rfl] at hS
  rw [depC, show ya4.1.compactF ya4.2.1 [116] = ya5 from rfl, za5.1]
  have hS : St w (fun _ => False) w1 [DepR S pb d ya5.1, DevR S1 d ya5.2.1] := hS.sel [0, 1] rfl rfl
  (repeat (first | refine g_sq ?_ | refine g_rg ?_ | refine g_r0 ?_ | refine g_ok rfl rfl ?_ | refine g_no rfl ?_ | refine g_no0 rfl ?_ | refine g_bk ?_ | refine g_b ?_ | refine g_sk ?_ | refine g_cT rfl ?_ | refine g_cF rfl ?_ | refine g_x rfl ?_ | refine g_lb ?_))
  refine g_cl rfl rfl (c59 hS fun w1 S hS => ?_)
  rw [za5.2.1]
  (repeat (first | refine g_sq ?_ | refine g_rg ?_ | refine g_r0 ?_ | refine g_ok rfl rfl ?_ | refine g_no rfl ?_ | refine g_no0 rfl ?_ | refine g_bk ?_ | refine g_b ?_ | refine g_sk ?_ | refine g_cT rfl ?_ | refine g_cF rfl ?_ | refine g_x rfl ?_ | refine g_lb ?_))
  refine g_cl rfl rfl (c60 hS ?_)
  rw [za5.2.2.1]
  (repeat (first | refine g_sq ?_ | refine g_rg ?_ | refine g_r0 ?_ | refine g_ok rfl rfl ?_ | refine g_no rfl ?_ | refine g_no0 rfl ?_ | refine g_bk ?_ | refine g_b ?_ | refine g_sk ?_ | refine g_cT rfl ?_ | refine g_cF rfl ?_ | refine g_x rfl ?_ | refine g_lb ?_))
  refine g_cl rfl rfl (c61 hS fun w1 S hS => ?_)
  rw [za5.2.2.2]
  (repeat (first | refine g_sq ?_ | refine g_rg ?_ | refine g_r0 ?_ | refine g_ok rfl rfl ?_ | refine g_no rfl ?_ | refine g_no0 rfl ?_ | refine g_bk ?_ | refine g_b ?_ | refine g_sk ?_ | refine g_cT rfl ?_ | refine g_cF rfl ?_ | refine g_x rfl ?_ | refine g_lb ?_))
  exact g_ret (q_1 rfl (h _ (hS.sel [] rfl rfl)))
theorem c56 (hS : St w0 S0 w L) (h : ∀ w', St w0 S0 w' L → K (.bool true) w') : CK Try.prog 56 [] w K :=
  b56 fun w' h' => h w' (by simpa using hS.call0.2 w' _ h')
end
end Go.Proofs.Ytegjocpjmfaigaa
