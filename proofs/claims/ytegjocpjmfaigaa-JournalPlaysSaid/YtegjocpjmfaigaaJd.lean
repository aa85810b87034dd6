/- The journal as one resource; what can be asked of it. -/
import Derived.Test.YtegjocpjmfaigaaJc
set_option linter.unusedSimpArgs false
set_option linter.unusedVariables false
namespace Go.Proofs.Ytegjocpjmfaigaa
open Go.En

structure Grp where
  n : Nat
  b : List UInt8
def Grp.many (g : Grp) : Nat := blk g.b.length
structure Jou where
  l : List Grp
  next : Nat
  shut : Bool
def usedOf (l : List Grp) : Nat := (l.map Grp.many).sum
def Jou.used (J : Jou) : Nat := usedOf J.l
def maxN : Nat := 4611686018427387904
def Jou.wf (J : Jou) (bk : Nat) : Prop := J.used ≤ bk ∧ J.next ≤ 4611686018427387905 ∧ ∀ g ∈ J.l, g.b.length ≤ 1000000 ∧ g.n ≤ 4611686018427387904
def JouC (p : Value) (fr bk : Nat) (vl : Value) (J : Jou) : List Value := [p, .int .i64 fr, .int .i64 bk, vl, .int .i64 J.next, .bool J.shut]
abbrev GZ := List (Grp × Value)
def gv1 (z : Grp × Value) : List Value := [.int .i64 z.1.n, z.2, .int .i64 z.1.many]
def gz (Z : GZ) : List Value := (Z.map gv1).flatten
def gp (Z : GZ) : Res := pool (Z.map fun z => (z.2, z.1.b))
def JouB (jb d fr bk : Nat) (J : Jou) (x : Value × GZ) : Res := ((cel jb (JouC (dp d) fr bk x.1 J) 94).and ((row x.1 134 3 x.2.length (gz x.2)).and (gp x.2))).when (J.wf bk ∧ bk ≤ 4096 ∧ fr ≤ 4096 ∧ x.2.map Prod.fst = J.l)
def JouR (S : Nat → Prop) (jb d fr bk : Nat) (J : Jou) : Res := Ex S (JouB jb d fr bk J)
theorem gz_len (Z : GZ) : (gz Z).length = Z.length * 3 := by
  rw [gz, flat_len (k := 3) (fun l hl => by simp only [List.mem_map] at hl; obtain ⟨x, _, rfl⟩ := hl; rfl), List.length_map]
theorem gz_get {Z : GZ} {k : Nat} {z : Grp × Value} (hz : Z[k]? = some z) (rest : List Value) : List.take 3 (List.drop (0 + k * 3) (gz Z ++ rest)) = gv1 z := by
  have hlt := (List.getElem?_eq_some_iff.1 hz).1
  have hf := flat_get (ls := Z.map gv1) (k := 3) (i := k) (fun l hl => by simp only [List.mem_map] at hl; obtain ⟨x, _, rfl⟩ := hl; rfl) (by simpa using hlt) rest
  have hz' := (List.getElem?_eq_some_iff.1 hz).2
  rw [Nat.zero_add]
  refine hf.trans ?_
  simp [hz']
theorem gz_at {Z : GZ} {k j : Nat} {z : Grp × Value} (hz : Z[k]? = some z) (rest : List Value) (hj : j < 3) : (gz Z ++ rest)[0 + k * 3 + j]? = (gv1 z)[j]? := by
  rw [← gz_get hz rest, List.getElem?_take_of_lt hj, List.getElem?_drop]
theorem gv1_one {Z : GZ} (h : ∀ z ∈ Z, ∃ a n c, z.2 = .slice a n c) {z : Grp × Value} (hz : z ∈ Z) : (gv1 z).all (·.oneCell') = true := by
  obtain ⟨a, n, c, e⟩ := h z hz
  simp [gv1, e, Value.oneCell']
theorem blk_pos (n : Nat) : 1 ≤ blk n := by unfold blk; omega
theorem usedOf_len : ∀ (l : List Grp), l.length ≤ usedOf l
  | [] => Nat.le_refl _
  | g :: l => by
    have h1 := usedOf_len l
    have h2 : 1 ≤ g.many := blk_pos _
    have : usedOf (g :: l) = g.many + usedOf l := by simp [usedOf]
    rw [this, List.length_cons]
    omega
theorem usedOf_app (a b : List Grp) : usedOf (a ++ b) = usedOf a + usedOf b := by simp [usedOf]
theorem usedOf_take (l : List Grp) (k : Nat) : usedOf (l.take k) ≤ usedOf l := by
  conv => rhs; rw [← List.take_append_drop k l]
  rw [usedOf_app]
  omega
theorem many_le {l : List Grp} {g : Grp} (h : g ∈ l) : g.many ≤ usedOf l := by
  induction l with
  | nil => cases h
  | cons x l ih =>
    have : usedOf (x :: l) = x.many + usedOf l := by simp [usedOf]
    rw [this]
    rcases List.mem_cons.1 h with rfl | h
    · omega
    · have := ih h; omega
/-- the block of an owned slice -/
theorem row_blk {w0 w : World} {S0 : Nat → Prop} {L : List Res} {v : Value} {E n sz : Nat} {xs : List Value} (hS : St w0 S0 w L) (i : Nat) (hi : L[i]? = some (row v E sz n xs)) (hn : 0 < n) :
    ∃ b cap rest, v = .slice (some ⟨b, 0, none⟩) n cap ∧ n ≤ cap ∧ Blk w b (xs ++ rest) E ∧ (xs ++ rest).length = cap * sz := by
  obtain ⟨a, m, c, hv⟩ := hS.rowb i hi hn
  rcases hS.ok i _ hi with ⟨hv', _⟩ | ⟨bw, capw, restw, hv', hcap, hxl, hl', hB⟩
  · rw [hv] at hv'; cases hv'
  · exact ⟨bw, capw, restw, hv', hcap, hB, hl'⟩
section
variable {w w0 : World} {S0 S : Nat → Prop} {K : Value → World → Prop} {jb d fr bk : Nat} {J : Jou} {B L : List Res} {vl : Value} {Z : GZ}
theorem JouR.opn (hS : St w0 S0 w (JouR S jb d fr bk J :: B)) : ∃ vl Z, J.wf bk ∧ bk ≤ 4096 ∧ fr ≤ 4096 ∧ Z.map Prod.fst = J.l ∧ St w0 S0 w (cel jb (JouC (dp d) fr bk vl J) 94 :: row vl 134 3 Z.length (gz Z) :: gp Z :: B) := by
  obtain ⟨⟨vl, Z⟩, hS⟩ := hS.ex 0 rfl
  obtain ⟨⟨h1, h2, h3, h4⟩, hS⟩ := hS.cond 0 rfl
  refine ⟨vl, Z, h1, h2, h3, h4, ?_⟩
  have hS := (hS.split 0 rfl).front
  have hS := (hS.split 0 rfl).front
  exact hS.selB (A := [_, _, _]) (B := B) [2, 1, 0] rfl rfl
theorem JouR.cls (h1 : J.wf bk) (h2 : bk ≤ 4096) (h3 : fr ≤ 4096) (h4 : Z.map Prod.fst = J.l) (hS : St w0 S0 w (cel jb (JouC (dp d) fr bk vl J) 94 :: row vl 134 3 Z.length (gz Z) :: gp Z :: B)) : ∃ S', St w0 S0 w (JouR S' jb d fr bk J :: B) := by
  have hS := hS.merge 1 2 rfl rfl (by decide)
  have hS : St w0 S0 w (cel jb (JouC (dp d) fr bk vl J) 94 :: (row vl 134 3 Z.length (gz Z)).and (gp Z) :: emp :: B) := hS
  have hS := hS.merge 0 1 rfl rfl (by decide)
  have hS := hS.toWhen (p := J.wf bk ∧ bk ≤ 4096 ∧ fr ≤ 4096 ∧ Z.map Prod.fst = J.l) 0 rfl ⟨h1, h2, h3, h4⟩
  obtain ⟨S', hS⟩ := hS.toEx (F := JouB jb d fr bk J) (x := (vl, Z)) 0 rfl
  refine ⟨S', ?_⟩
  have hS : St w0 S0 w (JouR S' jb d fr bk J :: emp :: emp :: B) := hS
  exact St.sub (A := [JouR S' jb d fr bk J]) ((List.sublist_cons_self _ _).trans (List.sublist_cons_self _ _)) hS
theorem gp_form (hS : St w0 S0 w L) (i : Nat) (hi : L[i]? = some (gp Z)) : ∀ z ∈ Z, ∃ a n c, z.2 = .slice a n c := fun z hz => by
  obtain ⟨a, c, e⟩ := Rd.form (hS.ok i _ hi (z.2, z.1.b) (List.mem_map.2 ⟨z, hz, rfl⟩))
  exact ⟨a, _, c, e⟩
theorem b91 {l : List Value} (hB : Blk w jb (dp d :: l) 94) (h : K (.bool false) w) : CK Try.prog 91 [dp jb] w K := by
  refine call_k Try.func91 k91 Try.ntmps91 (Nat.le_of_ble_eq_true rfl) ?_
  (repeat (first | refine g_sq ?_ | refine g_rg ?_ | refine g_r0 ?_ | refine g_ok rfl rfl ?_ | refine g_no rfl ?_ | refine g_no0 rfl ?_ | refine g_bk ?_ | refine g_b ?_ | refine g_sk ?_ | refine g_cT rfl ?_ | refine g_cF rfl ?_ | refine g_x rfl ?_ | refine g_lb ?_))
  refine g_l1 rfl rfl hB rfl ?_
  (repeat (first | refine g_sq ?_ | refine g_rg ?_ | refine g_r0 ?_ | refine g_ok rfl rfl ?_ | refine g_no rfl ?_ | refine g_no0 rfl ?_ | refine g_bk ?_ | refine g_b ?_ | refine g_sk ?_ | refine g_cT rfl ?_ | refine g_cF rfl ?_ | refine g_x rfl ?_ | refine g_lb ?_))
  exact g_ret (q_1 rfl h)
theorem u43 (hZ : Z.map Prod.fst = J.l) (hsl : ∀ z ∈ Z, ∃ a n c, z.2 = .slice a n c) (hu : J.used ≤ 4096) (hS : St w0 S0 w (cel jb (JouC (dp d) fr bk vl J) 94 :: row vl 134 3 Z.length (gz Z) :: B))
    (h : ∀ w', St w0 S0 w' (cel jb (JouC (dp d) fr bk vl J) 94 :: row vl 134 3 Z.length (gz Z) :: B) → K (.int .i64 J.used) w') : CK Try.prog 43 [dp jb] w K := by
  have hZl : Z.length = J.l.length := by rw [← hZ, List.length_map]
  have hlen : Z.length ≤ 4096 := by have := usedOf_len J.l; unfold Jou.used at hu; omega
  obtain ⟨a, c, rfl⟩ := hS.rlen 1 rfl
  refine call_k Try.func43 k43 Try.ntmps43 (Nat.le_of_ble_eq_true rfl) ?_
  (repeat (first | refine g_sq ?_ | refine g_rg ?_ | refine g_r0 ?_ | refine g_ok rfl rfl ?_ | refine g_no rfl ?_ | refine g_no0 rfl ?_ | refine g_bk ?_ | refine g_b ?_ | refine g_sk ?_ | refine g_cT rfl ?_ | refine g_cF rfl ?_ | refine g_x rfl ?_ | refine g_lb ?_))
  refine g_cl rfl rfl (b91 (hS.b 0 rfl) ?_)
  (repeat (first | refine g_sq ?_ | refine g_rg ?_ | refine g_r0 ?_ | refine g_ok rfl rfl ?_ | refine g_no rfl ?_ | refine g_no0 rfl ?_ | refine g_bk ?_ | refine g_b ?_ | refine g_sk ?_ | refine g_cT rfl ?_ | refine g_cF rfl ?_ | refine g_x rfl ?_ | refine g_lb ?_))
  refine g_l1 rfl rfl (hS.b  0 rfl) rfl ?_
  (repeat (first | refine g_sq ?_ | refine g_rg ?_ | refine g_r0 ?_ | refine g_ok rfl rfl ?_ | refine g_no rfl ?_ | refine g_no0 rfl ?_ | refine g_bk ?_ | refine g_b ?_ | refine g_sk ?_ | refine g_cT rfl ?_ | refine g_cF rfl ?_ | refine g_x rfl ?_ | refine g_lb ?_))
  refine g_lp (ι := Nat) (fun k => [(3, .int .i64 (usedOf (J.l.take k))), (11, .slice a Z.length c), (12, .int .i64 Z.length), (13, .int .i64 k)])
    (fun k w => k ≤ Z.length ∧ St w0 S0 w (cel jb (JouC (dp d) fr bk (.slice a Z.length c) J) 94 :: row (.slice a Z.length c) 134 3 Z.length (gz Z) :: B)) (fun k => Z.length - k) 0 ⟨rfl, rfl, rfl, rfl, trivial⟩ ⟨Nat.zero_le _, hS⟩ ?_
  clear hS
  rintro k w ⟨hk, hS⟩
  (repeat (first | refine g_sq ?_ | refine g_rg ?_ | refine g_r0 ?_ | refine g_ok rfl rfl ?_ | refine g_no rfl ?_ | refine g_no0 rfl ?_ | refine g_bk ?_ | refine g_b ?_ | refine g_sk ?_ | refine g_cT rfl ?_ | refine g_cF rfl ?_ | refine g_x rfl ?_ | refine g_lb ?_))
  refine g_cd rfl (fun hc => ?_) (fun hc => ?_)
  all_goals simp only [cmv, decide_eq_true_eq, decide_eq_false_iff_not] at hc
  · have hlt : k < Z.length := by omega
    have hz : Z[k]? = some Z[k] := List.getElem?_eq_getElem hlt
    generalize Z[k] = z at hz
    have h1c := gv1_one hsl (List.mem_of_getElem? hz)
    have hg : J.l[k]? = some z.1 := by rw [← hZ, List.getElem?_map, hz]; rfl
    have hgl := (List.getElem?_eq_some_iff.1 hg).1
    have hst : usedOf (J.l.take (k + 1)) = usedOf (J.l.take k) + z.1.many := by
      rw [List.take_succ_eq_append_getElem hgl, usedOf_app]
      have := (List.getElem?_eq_some_iff.1 hg).2
      rw [this]; simp [usedOf]
    have hle := usedOf_take J.l (k + 1)
    unfold Jou.used at hu
    obtain ⟨b1, cap1, rest1, hv1, hc1, hB1, hl1⟩ := row_blk hS 1 rfl (by omega)
    cases hv1
    have hg3 := gz_get hz rest1
    (repeat (first | refine g_sq ?_ | refine g_rg ?_ | refine g_r0 ?_ | refine g_ok rfl rfl ?_ | refine g_no rfl ?_ | refine g_no0 rfl ?_ | refine g_bk ?_ | refine g_b ?_ | refine g_sk ?_ | refine g_cT rfl ?_ | refine g_cF rfl ?_ | refine g_x rfl ?_ | refine g_lb ?_))
    refine g_rq rfl rfl ⟨by omega, by omega⟩ ?_
    refine g_lm rfl rfl hB1 (by rw [hl1]; show 0 + k * 3 + 3 ≤ _; omega) ?_
    rw [show ((k : Int).toNat) = k from rfl, hg3]
    refine g_ef rfl (ef_al hS fun g w hS => ?_)
    have hS := hS.front
    refine g_ef0 rfl (ef_st hS 0 rfl rfl rfl rfl (Nat.le_of_ble_eq_true rfl) h1c fun w hS => ?_)
    have hS : St w0 S0 w (cel g (gv1 z) 134 :: _) := hS
    (repeat (first | refine g_sq ?_ | refine g_rg ?_ | refine g_r0 ?_ | refine g_ok rfl rfl ?_ | refine g_no rfl ?_ | refine g_no0 rfl ?_ | refine g_bk ?_ | refine g_b ?_ | refine g_sk ?_ | refine g_cT rfl ?_ | refine g_cF rfl ?_ | refine g_x rfl ?_ | refine g_lb ?_))
    refine g_l1 rfl rfl (hS.b  0 rfl) rfl ?_
    (repeat (first | refine g_sq ?_ | refine g_rg ?_ | refine g_r0 ?_ | refine g_ok rfl rfl ?_ | refine g_no rfl ?_ | refine g_no0 rfl ?_ | refine g_bk ?_ | refine g_b ?_ | refine g_sk ?_ | refine g_cT rfl ?_ | refine g_cF rfl ?_ | refine g_x rfl ?_ | refine g_lb ?_))
    refine g_rq rfl rfl (in64 (by simp only [arv]; omega)) ?_
    (repeat (first | refine g_sq ?_ | refine g_rg ?_ | refine g_r0 ?_ | refine g_ok rfl rfl ?_ | refine g_no rfl ?_ | refine g_no0 rfl ?_ | refine g_bk ?_ | refine g_b ?_ | refine g_sk ?_ | refine g_cT rfl ?_ | refine g_cF rfl ?_ | refine g_x rfl ?_ | refine g_lb ?_))
    refine g_rq rfl rfl (in64 (by simp only [arv]; omega)) ?_
    (repeat (first | refine g_sq ?_ | refine g_rg ?_ | refine g_r0 ?_ | refine g_ok rfl rfl ?_ | refine g_no rfl ?_ | refine g_no0 rfl ?_ | refine g_bk ?_ | refine g_b ?_ | refine g_sk ?_ | refine g_cT rfl ?_ | refine g_cF rfl ?_ | refine g_x rfl ?_ | refine g_lb ?_))
    have e : arv BinOp.add (usedOf (J.l.take k) : Int) (z.1.many : Int) = ((usedOf (J.l.take (k + 1)) : Nat) : Int) := by simp only [arv]; omega
    rw [e]
    exact g_l (k + 1) ⟨rfl, rfl, rfl, rfl, trivial⟩ ⟨by omega, hS.tail⟩ (by omega)
  · have e : J.l.take k = J.l := List.take_of_length_le (by omega)
    rw [e]
    (repeat (first | refine g_sq ?_ | refine g_rg ?_ | refine g_r0 ?_ | refine g_ok rfl rfl ?_ | refine g_no rfl ?_ | refine g_no0 rfl ?_ | refine g_bk ?_ | refine g_b ?_ | refine g_sk ?_ | refine g_cT rfl ?_ | refine g_cF rfl ?_ | refine g_x rfl ?_ | refine g_lb ?_))
    exact g_ret (q_1 rfl (h _ hS))
end
end Go.Proofs.Ytegjocpjmfaigaa
