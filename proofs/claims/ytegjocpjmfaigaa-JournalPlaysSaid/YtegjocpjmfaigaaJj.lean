/- The journal: the group that stands at a block. -/
import Derived.Test.YtegjocpjmfaigaaJi
set_option linter.unusedSimpArgs false
set_option linter.unusedVariables false
namespace Go.Proofs.Ytegjocpjmfaigaa
open Go.En

def stand : List (List UInt8) → List UInt8 → Nat → Option Grp
  | [], _, _ => none
  | b :: r, inn, k => if b.head? = some 1 then stand r (inn ++ (b.drop 1).take 119) (k + 1) else if b.head? ≠ some 2 then none else
      if numB ((b.drop 1).take 8) < 1 ∨ maxN < numB ((b.drop 1).take 8) ∨ inn.length < numB ((b.drop 9).take 4) ∨ blk (numB ((b.drop 9).take 4)) ≠ k + 1 then none else
        if b = endedB (numB ((b.drop 1).take 8)) (inn.take (numB ((b.drop 9).take 4))) then some ⟨numB ((b.drop 1).take 8), inn.take (numB ((b.drop 9).take 4))⟩ else none
theorem stand_cons (b : List UInt8) (r : List (List UInt8)) (inn : List UInt8) (k : Nat) : stand (b :: r) inn k = if b.head? = some 1 then stand r (inn ++ (b.drop 1).take 119) (k + 1) else if b.head? ≠ some 2 then none else
      if numB ((b.drop 1).take 8) < 1 ∨ maxN < numB ((b.drop 1).take 8) ∨ inn.length < numB ((b.drop 9).take 4) ∨ blk (numB ((b.drop 9).take 4)) ≠ k + 1 then none else
        if b = endedB (numB ((b.drop 1).take 8)) (inn.take (numB ((b.drop 9).take 4))) then some ⟨numB ((b.drop 1).take 8), inn.take (numB ((b.drop 9).take 4))⟩ else none := rfl
theorem qt_slh {P : Program} {T : TT} {w : World} {x hi : Operand} {a : Option Addr} {n c sz h : Nat} {k : IntKind} (hx : ev T x = some (.slice a n c)) (hsp : ∀ {y o v}, a = some ⟨y, o, some v⟩ → False) (hh : ev T hi = some (.int k (h : Int))) (hle : h ≤ n) (hc : n ≤ c) : Qt P (.sl x none (some hi) none sz) T w (.slice a h c) := by
  cases a with
  | none =>
    have e : pev T (.sl x none (some hi) none sz) = .rq (((0 : Nat) : Int) ≤ ((0 : Nat) : Int) ∧ ((0 : Nat) : Int) ≤ (h : Int) ∧ (h : Int) ≤ (c : Int) ∧ (c : Int) ≤ (c : Int)) (.slice none h c) := by
      simp [pev, hx, bnd, hh]
    exact (pev_rq e ⟨by omega, by omega, by omega, by omega⟩).2 w
  | some y =>
    obtain ⟨b, o, s⟩ := y
    cases s with
    | some s => exact (hsp rfl).elim
    | none =>
      have e : pev T (.sl x none (some hi) none sz) = .rq (((0 : Nat) : Int) ≤ ((0 : Nat) : Int) ∧ ((0 : Nat) : Int) ≤ (h : Int) ∧ (h : Int) ≤ (c : Int) ∧ (c : Int) ≤ (c : Int)) (.slice (some ⟨b, o, none⟩) h c) := by
        simp [pev, hx, bnd, hh, slo]
      exact (pev_rq e ⟨by omega, by omega, by omega, by omega⟩).2 w
theorem Rd.head {w : World} {a : Option Addr} {n c E m : Nat} {xs : List Value} (h : Rd (.slice a n c) E 1 n xs w) (hm : m ≤ n) : Rd (.slice a m c) E 1 m (xs.take m) w := by
  rcases h with ⟨⟨a', h⟩, rfl, rfl⟩ | ⟨b', off', cap', l, h, hn, hl, hx, hb⟩
  · cases h
    have : m = 0 := by omega
    subst this
    exact .inl ⟨⟨_, rfl⟩, rfl, rfl⟩
  · cases h
    refine .inr ⟨b', off', _, l, rfl, by omega, hl, ?_, hb⟩
    rw [← hx, List.take_take]
    congr 1
    omega
section
variable {w w0 : World} {S0 S S1 : Nat → Prop} {K : Value → World → Prop} {jb d fr bk : Nat} {J : Jou} {D : Dev} {B L : List Res} {vl v : Value} {Z : GZ}
theorem head_of {bs : List UInt8} (hl : bs.length = 128) : ∃ c r, bs = c :: r := by
  cases bs with
  | nil => cases hl
  | cons c r => exact ⟨c, r, rfl⟩
theorem byte0 {bs : List UInt8} {c : UInt8} {r : List UInt8} (hbs : bs = c :: r) {l : List Value} {off : Nat} (hx : List.take (128 * 1) (List.drop off l) = bys bs) : l[off]? = some (.int .u8 (c.toNat : Int)) := by
  have : (List.take (128 * 1) (List.drop off l))[0]? = (bys bs)[0]? := by rw [hx]
  rw [List.getElem?_take_of_lt (by decide), List.getElem?_drop, hbs] at this
  simpa [bys] using this
/-- the first bytes of an owned row, as a row -/
theorem row_head {n m : Nat} {xs : List Value} {a : Option Addr} {c E : Nat} (hS : St w0 S0 w L) (i : Nat) (hi : L[i]? = some (row (.slice a n c) E 1 n xs)) (hm : m ≤ n) : St w0 S0 w (L.set i (row (.slice a m c) E 1 m (xs.take m))) := by
  refine hS.conv i hi (fun b h => by cases a <;> exact h) ?_
  rcases hS.ok i _ hi with ⟨hv, hn, hx⟩ | ⟨b, cap, rest, hv, hcap, hxl, hl', hB⟩
  · cases hv
    have : m = 0 := by omega
    subst this
    exact .inl ⟨rfl, rfl, by rw [List.take_zero]⟩
  · cases hv
    refine .inr ⟨b, _, xs.drop m ++ rest, rfl, by omega, by rw [List.length_take]; omega, by rw [← List.append_assoc, List.take_append_drop]; exact hl', by rw [← List.append_assoc, List.take_append_drop]; exact hB⟩
set_option maxRecDepth 100000 in
theorem c113 {i : Nat} (hF : Fine D fr bk) (hi : i ≤ 100000) (hS : St w0 S0 w (JouR S jb d fr bk J :: DevR S1 d D :: B))
    (h1 : stand ((area D fr bk).drop i) [] 0 = none → ∀ w' S S1 l, l.length = 3 → l.all (·.oneCell') = true → St w0 S0 w' (JouR S jb d fr bk J :: DevR S1 d D :: B) → K (.tuple ⟨[.agg ⟨l⟩, .bool false]⟩) w')
    (h2 : ∀ g, stand ((area D fr bk).drop i) [] 0 = some g → ∀ w' S S1 v', St w0 S0 w' (JouR S jb d fr bk J :: DevR S1 d D :: row v' 5 1 g.b.length (bys g.b) :: B) → K (.tuple ⟨[.agg ⟨gv1 (g, v')⟩, .bool true]⟩) w') : CK Try.prog 113 [dp jb, .int .i64 i] w K := by
  obtain ⟨hw, hb4, hf4, _, _⟩ := JouR.blk hS
  refine call_k Try.func113 k113 Try.ntmps113 (Nat.le_of_ble_eq_true rfl) ?_
  (repeat (first | refine g_sq ?_ | refine g_rg ?_ | refine g_r0 ?_ | refine g_ok rfl rfl ?_ | refine g_no rfl ?_ | refine g_no0 rfl ?_ | refine g_bk ?_ | refine g_b ?_ | refine g_sk ?_ | refine g_cT rfl ?_ | refine g_cF rfl ?_ | refine g_x rfl ?_ | refine g_lb ?_))
  refine g_ef rfl (ef_al hS fun b4 w hS => ?_)
  have hS := hS.front
  have hS := (hS.nilrow 5 1).front
  have hS : St w0 S0 w (row (.slice none 0 0) 5 1 0 (bys []) :: cel b4 [.int .i64 0, .slice none 0 0, .int .i64 0] 134 :: JouR S jb d fr bk J :: DevR S1 d D :: B) := hS
  have hS := hS.selB (A := [_, _, _, _]) (B := B) [2, 3, 0, 1] rfl rfl
  (repeat (first | refine g_sq ?_ | refine g_rg ?_ | refine g_r0 ?_ | refine g_ok rfl rfl ?_ | refine g_no rfl ?_ | refine g_no0 rfl ?_ | refine g_bk ?_ | refine g_b ?_ | refine g_sk ?_ | refine g_cT rfl ?_ | refine g_cF rfl ?_ | refine g_x rfl ?_ | refine g_lb ?_))
  refine g_lp (ι := Nat × Value × List UInt8) (fun x => [(0, dp jb), (1, .int .i64 i), (4, dp b4), (6, x.2.1), (7, .int .i64 ((i + x.1 : Nat) : Int))])
    (fun x w => (x.1 ≤ bk - i) ∧ x.2.2.length = 119 * x.1 ∧ stand ((area D fr bk).drop i) [] 0 = stand ((area D fr bk).drop (i + x.1)) x.2.2 x.1 ∧ ∃ S S1, St w0 S0 w (JouR S jb d fr bk J :: DevR S1 d D :: row x.2.1 5 1 x.2.2.length (bys x.2.2) :: cel b4 [.int .i64 0, .slice none 0 0, .int .i64 0] 134 :: B)) (fun x => bk + 1 - x.1) (0, .slice none 0 0, []) ⟨rfl, rfl, rfl, rfl, rfl, trivial⟩
    ⟨Nat.zero_le _, rfl, rfl, S, S1, hS⟩ ?_
  clear hS
  rintro ⟨k, vin, inn⟩ w ⟨hk, hil, hst, S, S1, hS⟩
  simp only at hk hil hst hS
  (repeat (first | refine g_sq ?_ | refine g_rg ?_ | refine g_r0 ?_ | refine g_ok rfl rfl ?_ | refine g_no rfl ?_ | refine g_no0 rfl ?_ | refine g_bk ?_ | refine g_b ?_ | refine g_sk ?_ | refine g_cT rfl ?_ | refine g_cF rfl ?_ | refine g_x rfl ?_ | refine g_lb ?_))
  refine g_cl rfl rfl (c115 hF hS (fun hge => ?_) (fun hlt w S S1 v8 hS => ?_))
  · -- behind the area
    (repeat (first | refine g_sq ?_ | refine g_rg ?_ | refine g_r0 ?_ | refine g_ok rfl rfl ?_ | refine g_no rfl ?_ | refine g_no0 rfl ?_ | refine g_bk ?_ | refine g_b ?_ | refine g_sk ?_ | refine g_cT rfl ?_ | refine g_cF rfl ?_ | refine g_x rfl ?_ | refine g_lb ?_))
    refine g_ef0 rfl (ef_st hS 3 rfl rfl rfl rfl (Nat.le_of_ble_eq_true rfl) rfl fun w hS => ?_)
    have hnil : (area D fr bk).drop (i + k) = [] := List.drop_eq_nil_of_le (by rw [area_len]; exact hge)
    rw [hnil] at hst
    (repeat (first | refine g_sq ?_ | refine g_rg ?_ | refine g_r0 ?_ | refine g_ok rfl rfl ?_ | refine g_no rfl ?_ | refine g_no0 rfl ?_ | refine g_bk ?_ | refine g_b ?_ | refine g_sk ?_ | refine g_cT rfl ?_ | refine g_cF rfl ?_ | refine g_x rfl ?_ | refine g_lb ?_))
    refine g_ret (q_c2 (n := 3) rfl rfl (hS.b 3 rfl) (Nat.le_of_ble_eq_true rfl) rfl (h1 hst _ S S1 _ rfl rfl ?_))
    exact St.sub (A := [_, _]) ((List.sublist_cons_self _ _).trans (List.sublist_cons_self _ _)) hS
  have hwf := (DevR.blk (hS.selB (A := [_, _, _, _, _]) (B := B) [1, 0, 2, 3, 4] rfl rfl)).1
  have hlen := rd_len hwf (i := ((fr + (i + k) : Nat) : Int)) ⟨by omega, by have := hF.2; omega⟩
  have hdr : (area D fr bk).drop (i + k) = D.rd ((fr + (i + k) : Nat) : Int) :: (area D fr bk).drop (i + k + 1) := by
    have hg := area_get D (fr := fr) hlt
    have hl2 := (List.getElem?_eq_some_iff.1 hg).1
    rw [List.drop_eq_getElem_cons hl2, (List.getElem?_eq_some_iff.1 hg).2]
  rw [hdr] at hst
  generalize D.rd ((fr + (i + k) : Nat) : Int) = bs at hS hlen hst
  clear hdr
  obtain ⟨c, r, hbs⟩ := head_of hlen
  have hh : bs.head? = some c := by rw [hbs]; rfl
  have hr := Ow.rd (hS.ok 2 _ rfl)
  obtain ⟨b8, o8, c8, l8, rfl, hcap, hll, hx, hB⟩ := Rd.block hr (by decide)
  have h0 := byte0 hbs hx
  rw [stand_cons, hh] at hst
  (repeat (first | refine g_sq ?_ | refine g_rg ?_ | refine g_r0 ?_ | refine g_ok rfl rfl ?_ | refine g_no rfl ?_ | refine g_no0 rfl ?_ | refine g_bk ?_ | refine g_b ?_ | refine g_sk ?_ | refine g_cT rfl ?_ | refine g_cF rfl ?_ | refine g_x rfl ?_ | refine g_lb ?_))
  refine g_rq rfl rfl ⟨by decide, by decide⟩ ?_
  refine g_l1r rfl rfl hB h0 ?_
  (repeat (first | refine g_sq ?_ | refine g_rg ?_ | refine g_r0 ?_ | refine g_ok rfl rfl ?_ | refine g_no rfl ?_ | refine g_no0 rfl ?_ | refine g_bk ?_ | refine g_b ?_ | refine g_sk ?_ | refine g_cT rfl ?_ | refine g_cF rfl ?_ | refine g_x rfl ?_ | refine g_lb ?_))
  refine g_cd rfl (fun hc => ?_) (fun hc => ?_)
  all_goals simp only [cmv, decide_eq_true_eq, decide_eq_false_iff_not] at hc
  · -- a data block
    have hc1 : c = 1 := UInt8.toNat.inj (by show c.toNat = 1; omega)
    rw [if_pos (by rw [hc1])] at hst
    have rm := Rd.mid (x := .const (.int .i64 1)) (i := 1) (j := 120) hr (by decide) (by decide)
    rw [bys_drop, bys_take] at rm
    have hml : ((bs.drop 1).take 119).length = 119 := by rw [List.length_take, List.length_drop]; omega
    (repeat (first | refine g_sq ?_ | refine g_rg ?_ | refine g_r0 ?_ | refine g_ok rfl rfl ?_ | refine g_no rfl ?_ | refine g_no0 rfl ?_ | refine g_bk ?_ | refine g_b ?_ | refine g_sk ?_ | refine g_cT rfl ?_ | refine g_cF rfl ?_ | refine g_x rfl ?_ | refine g_lb ?_))
    refine g_rq rfl rfl ⟨by decide, by decide, by omega, by omega⟩ ?_
    refine g_ef rfl (ef_ap (n := inn.length) (m := 119) (ys := bys ((bs.drop 1).take 119)) hS 3 rfl rfl rfl (.inl ⟨5, rm⟩) (bys_one _) (by omega) (by omega) fun vin1 w hS => ?_)
    have hS := hS.selB (A := [_, _, _, _, _]) (B := B) [0, 1, 3, 4] rfl rfl
    have e1 : inn.length + 119 = (inn ++ (bs.drop 1).take 119).length := by rw [List.length_append, hml]
    rw [← bys_append, e1] at hS
    (repeat (first | refine g_sq ?_ | refine g_rg ?_ | refine g_r0 ?_ | refine g_ok rfl rfl ?_ | refine g_no rfl ?_ | refine g_no0 rfl ?_ | refine g_bk ?_ | refine g_b ?_ | refine g_sk ?_ | refine g_cT rfl ?_ | refine g_cF rfl ?_ | refine g_x rfl ?_ | refine g_lb ?_))
    refine g_rq rfl rfl (in64 (by simp only [arv]; omega)) ?_
    rw [show arv BinOp.add ((i + k : Nat) : Int) 1 = ((i + (k + 1) : Nat) : Int) by simp only [arv]; omega]
    (repeat (first | refine g_sq ?_ | refine g_rg ?_ | refine g_r0 ?_ | refine g_ok rfl rfl ?_ | refine g_no rfl ?_ | refine g_no0 rfl ?_ | refine g_bk ?_ | refine g_b ?_ | refine g_sk ?_ | refine g_cT rfl ?_ | refine g_cF rfl ?_ | refine g_x rfl ?_ | refine g_lb ?_))
    exact g_l (k + 1, vin1, inn ++ (bs.drop 1).take 119) ⟨rfl, rfl, rfl, rfl, rfl, trivial⟩ ⟨by simp only; omega, by simp only [List.length_append, hml]; omega, hst, S, S1, hS⟩ (by simp only; omega)
  have hcn : ¬ (some c = some (1 : UInt8)) := fun e => hc (by cases e; rfl)
  rw [if_neg hcn] at hst
  (repeat (first | refine g_sq ?_ | refine g_rg ?_ | refine g_r0 ?_ | refine g_ok rfl rfl ?_ | refine g_no rfl ?_ | refine g_no0 rfl ?_ | refine g_bk ?_ | refine g_b ?_ | refine g_sk ?_ | refine g_cT rfl ?_ | refine g_cF rfl ?_ | refine g_x rfl ?_ | refine g_lb ?_))
  refine g_rq rfl rfl ⟨by decide, by decide⟩ ?_
  refine g_l1r rfl rfl hB h0 ?_
  (repeat (first | refine g_sq ?_ | refine g_rg ?_ | refine g_r0 ?_ | refine g_ok rfl rfl ?_ | refine g_no rfl ?_ | refine g_no0 rfl ?_ | refine g_bk ?_ | refine g_b ?_ | refine g_sk ?_ | refine g_cT rfl ?_ | refine g_cF rfl ?_ | refine g_x rfl ?_ | refine g_lb ?_))
  refine g_cd rfl (fun hc2 => ?_) (fun hc2 => ?_)
  all_goals simp only [cmv, Bool.not_eq_true', Bool.not_eq_false', decide_eq_true_eq, decide_eq_false_iff_not] at hc2
  · -- neither
    rw [if_pos (fun e => hc2 (by cases e; rfl))] at hst
    (repeat (first | refine g_sq ?_ | refine g_rg ?_ | refine g_r0 ?_ | refine g_ok rfl rfl ?_ | refine g_no rfl ?_ | refine g_no0 rfl ?_ | refine g_bk ?_ | refine g_b ?_ | refine g_sk ?_ | refine g_cT rfl ?_ | refine g_cF rfl ?_ | refine g_x rfl ?_ | refine g_lb ?_))
    refine g_ef0 rfl (ef_st hS 4 rfl rfl rfl rfl (Nat.le_of_ble_eq_true rfl) rfl fun w hS => ?_)
    (repeat (first | refine g_sq ?_ | refine g_rg ?_ | refine g_r0 ?_ | refine g_ok rfl rfl ?_ | refine g_no rfl ?_ | refine g_no0 rfl ?_ | refine g_bk ?_ | refine g_b ?_ | refine g_sk ?_ | refine g_cT rfl ?_ | refine g_cF rfl ?_ | refine g_x rfl ?_ | refine g_lb ?_))
    refine g_ret (q_c2 (n := 3) rfl rfl (hS.b 4 rfl) (Nat.le_of_ble_eq_true rfl) rfl (h1 hst _ S S1 _ rfl rfl ?_))
    exact hS.selB (A := [_, _, _, _, _]) (B := B) [0, 1] rfl rfl
  have hce : c = 2 := UInt8.toNat.inj (by show c.toNat = 2; omega)
  rw [if_neg (by simp [hce])] at hst
  have hB4 := St.sub (A := [JouR S jb d fr bk J, DevR S1 d D]) (L := row (.slice (some ⟨b8, o8, none⟩) 128 c8) 5 1 128 (bys bs) :: row vin 5 1 inn.length (bys inn) :: cel b4 [.int .i64 0, .slice none 0 0, .int .i64 0] 134 :: B) (List.Sublist.refl _) hS
  clear hB4
  have hmax : maxN = 4611686018427387904 := rfl
  have hnl := numB_lt ((bs.drop 1).take 8)
  rw [show ((bs.drop 1).take 8).length = 8 by rw [List.length_take, List.length_drop]; omega] at hnl
  have hll4 := numB_lt ((bs.drop 9).take 4)
  rw [show ((bs.drop 9).take 4).length = 4 by rw [List.length_take, List.length_drop]; omega] at hll4
  (repeat (first | refine g_sq ?_ | refine g_rg ?_ | refine g_r0 ?_ | refine g_ok rfl rfl ?_ | refine g_no rfl ?_ | refine g_no0 rfl ?_ | refine g_bk ?_ | refine g_b ?_ | refine g_sk ?_ | refine g_cT rfl ?_ | refine g_cF rfl ?_ | refine g_x rfl ?_ | refine g_lb ?_))
  refine g_dr mixed ?_
  have hS := hS.drew
  have hr := Ow.rd (hS.ok 2 _ rfl)
  have r1 := Rd.mid (x := .const (.int .i64 1)) (i := 1) (j := 9) hr (by decide) (by decide)
  have r2 := Rd.mid (x := .const (.int .i64 9)) (i := 9) (j := 13) hr (by decide) (by decide)
  rw [bys_drop, bys_take] at r1 r2
  (repeat (first | refine d_ok rfl rfl rfl ?_ | refine d_no rfl rfl ?_))
  refine d_rq rfl rfl rfl ⟨by decide, by decide, by omega, by omega⟩ ?_
  (repeat (first | refine d_ok rfl rfl rfl ?_ | refine d_no rfl rfl ?_))
  refine d_rq rfl rfl rfl ⟨by decide, by decide, by omega, by omega⟩ ?_
  refine d_cl rfl rfl rfl (c127 r1 (by decide) ⟨rc_0, ?_⟩)
  refine d_cl rfl rfl rfl (c127 r2 (by decide) ⟨rc_0, ?_⟩)
  rw [show ((bs.drop 1).take (9 - 1)) = (bs.drop 1).take 8 from rfl, show ((bs.drop 9).take (13 - 9)) = (bs.drop 9).take 4 from rfl]
  clear r1 r2 hr
  generalize numB ((bs.drop 1).take 8) = n at hst hnl ⊢
  generalize numB ((bs.drop 9).take 4) = long at hst hll4 ⊢
  (repeat (first | refine d_ok rfl rfl rfl ?_ | refine d_no rfl rfl ?_))
  refine d_fin ?_
  (repeat (first | refine g_sq ?_ | refine g_rg ?_ | refine g_r0 ?_ | refine g_ok rfl rfl ?_ | refine g_no rfl ?_ | refine g_no0 rfl ?_ | refine g_bk ?_ | refine g_b ?_ | refine g_sk ?_ | refine g_cT rfl ?_ | refine g_cF rfl ?_ | refine g_x rfl ?_ | refine g_lb ?_))
  refine g_rq rfl rfl (in64 (by simp only [arv]; omega)) ?_
  (repeat (first | refine g_sq ?_ | refine g_rg ?_ | refine g_r0 ?_ | refine g_ok rfl rfl ?_ | refine g_no rfl ?_ | refine g_no0 rfl ?_ | refine g_bk ?_ | refine g_b ?_ | refine g_sk ?_ | refine g_cT rfl ?_ | refine g_cF rfl ?_ | refine g_x rfl ?_ | refine g_lb ?_))
  refine g_rq rfl rfl (in64 (by simp only [arv]; omega)) ?_
  rw [show arv BinOp.sub (arv BinOp.add ((i + k : Nat) : Int) 1) (i : Int) = ((k + 1 : Nat) : Int) by simp only [arv]; omega]
  (repeat (first | refine g_sq ?_ | refine g_rg ?_ | refine g_r0 ?_ | refine g_ok rfl rfl ?_ | refine g_no rfl ?_ | refine g_no0 rfl ?_ | refine g_bk ?_ | refine g_b ?_ | refine g_sk ?_ | refine g_cT rfl ?_ | refine g_cF rfl ?_ | refine g_x rfl ?_ | refine g_lb ?_))
  refine g_ef rfl (ef_al hS fun b11 w hS => ?_)
  have hS := hS.front
  refine g_ef0 rfl (ef_st hS 0 rfl rfl rfl rfl (Nat.le_of_ble_eq_true rfl) rfl fun w hS => ?_)
  have hS : St w0 S0 w (cel b11 [.int .i64 (IntKind.i64.wrap (n : Int)), .slice none 0 0, .int .i64 ((k + 1 : Nat) : Int)] 134 :: JouR S jb d fr bk J :: DevR S1 d D :: row (.slice (some ⟨b8, o8, none⟩) 128 c8) 5 1 128 (bys bs) :: row vin 5 1 inn.length (bys inn) :: cel b4 [.int .i64 0, .slice none 0 0, .int .i64 0] 134 :: B) := hS
  obtain ⟨ai, ci, rfl⟩ := hS.rlen 4 rfl
  have hle := Ow.le (hS.ok 4 _ rfl)
  (repeat (first | refine g_sq ?_ | refine g_rg ?_ | refine g_r0 ?_ | refine g_ok rfl rfl ?_ | refine g_no rfl ?_ | refine g_no0 rfl ?_ | refine g_bk ?_ | refine g_b ?_ | refine g_sk ?_ | refine g_cT rfl ?_ | refine g_cF rfl ?_ | refine g_x rfl ?_ | refine g_lb ?_))
  refine g_dr mixed ?_
  have hS := hS.drew
  have stop : ∀ {w' : World}, St w0 S0 w' (cel b11 [.int .i64 (IntKind.i64.wrap (n : Int)), .slice none 0 0, .int .i64 ((k + 1 : Nat) : Int)] 134 :: JouR S jb d fr bk J :: DevR S1 d D :: row (.slice (some ⟨b8, o8, none⟩) 128 c8) 5 1 128 (bys bs) :: row (.slice ai inn.length ci) 5 1 inn.length (bys inn) :: cel b4 [.int .i64 0, .slice none 0 0, .int .i64 0] 134 :: B) →
    (n < 1 ∨ maxN < n ∨ inn.length < long ∨ blk long ≠ k + 1) → K (.tuple ⟨[.agg ⟨[.int .i64 0, .slice none 0 0, .int .i64 0]⟩, .bool false]⟩) w' := fun hS hbad => by
    rw [if_pos hbad] at hst
    exact h1 hst _ S S1 _ rfl rfl (hS.selB (A := [_, _, _, _, _, _]) (B := B) [1, 2] rfl rfl)
  (repeat (first | refine d_ok rfl rfl rfl ?_ | refine d_no rfl rfl ?_))
  generalize hq1 : cmv BinOp.lss (n : Int) 1 = q1
  cases q1
  all_goals simp only [cmv, decide_eq_true_eq, decide_eq_false_iff_not] at hq1
  rotate_left
  · (repeat (first | refine d_ok rfl rfl rfl ?_ | refine d_no rfl rfl ?_))
    refine d_en rfl rfl (rc_no rfl rfl rfl rc_0) ?_
    (repeat (first | refine d_ok rfl rfl rfl ?_ | refine d_no rfl rfl ?_))
    refine d_fin ?_
    (repeat (first | refine g_sq ?_ | refine g_rg ?_ | refine g_r0 ?_ | refine g_ok rfl rfl ?_ | refine g_no rfl ?_ | refine g_no0 rfl ?_ | refine g_bk ?_ | refine g_b ?_ | refine g_sk ?_ | refine g_cT rfl ?_ | refine g_cF rfl ?_ | refine g_x rfl ?_ | refine g_lb ?_))
    refine g_ef0 rfl (ef_st hS 5 rfl rfl rfl rfl (Nat.le_of_ble_eq_true rfl) rfl fun w hS => ?_)
    (repeat (first | refine g_sq ?_ | refine g_rg ?_ | refine g_r0 ?_ | refine g_ok rfl rfl ?_ | refine g_no rfl ?_ | refine g_no0 rfl ?_ | refine g_bk ?_ | refine g_b ?_ | refine g_sk ?_ | refine g_cT rfl ?_ | refine g_cF rfl ?_ | refine g_x rfl ?_ | refine g_lb ?_))
    exact g_ret (q_c2 (n := 3) rfl rfl (hS.b 5 rfl) (Nat.le_of_ble_eq_true rfl) rfl (stop hS (.inl (by omega))))
  (repeat (first | refine d_ok rfl rfl rfl ?_ | refine d_no rfl rfl ?_))
  generalize hq2 : cmv BinOp.gtr (n : Int) 4611686018427387904 = q2
  cases q2
  all_goals simp only [cmv, decide_eq_true_eq, decide_eq_false_iff_not] at hq2
  rotate_left
  · (repeat (first | refine d_ok rfl rfl rfl ?_ | refine d_no rfl rfl ?_))
    refine d_en rfl rfl (rc_no rfl rfl rfl rc_0) ?_
    (repeat (first | refine d_ok rfl rfl rfl ?_ | refine d_no rfl rfl ?_))
    refine d_fin ?_
    (repeat (first | refine g_sq ?_ | refine g_rg ?_ | refine g_r0 ?_ | refine g_ok rfl rfl ?_ | refine g_no rfl ?_ | refine g_no0 rfl ?_ | refine g_bk ?_ | refine g_b ?_ | refine g_sk ?_ | refine g_cT rfl ?_ | refine g_cF rfl ?_ | refine g_x rfl ?_ | refine g_lb ?_))
    refine g_ef0 rfl (ef_st hS 5 rfl rfl rfl rfl (Nat.le_of_ble_eq_true rfl) rfl fun w hS => ?_)
    (repeat (first | refine g_sq ?_ | refine g_rg ?_ | refine g_r0 ?_ | refine g_ok rfl rfl ?_ | refine g_no rfl ?_ | refine g_no0 rfl ?_ | refine g_bk ?_ | refine g_b ?_ | refine g_sk ?_ | refine g_cT rfl ?_ | refine g_cF rfl ?_ | refine g_x rfl ?_ | refine g_lb ?_))
    exact g_ret (q_c2 (n := 3) rfl rfl (hS.b 5 rfl) (Nat.le_of_ble_eq_true rfl) rfl (stop hS (.inr (.inl (by omega)))))
  (repeat (first | refine d_ok rfl rfl rfl ?_ | refine d_no rfl rfl ?_))
  rw [wrap_in (k := .u64) (n := (inn.length : Int)) ⟨by show (0 : Int) ≤ _; omega, by show _ ≤ (18446744073709551615 : Int); omega⟩]
  generalize hq3 : cmv BinOp.gtr (long : Int) (inn.length : Int) = q3
  cases q3
  all_goals simp only [cmv, decide_eq_true_eq, decide_eq_false_iff_not] at hq3
  rotate_left
  · (repeat (first | refine d_ok rfl rfl rfl ?_ | refine d_no rfl rfl ?_))
    refine d_en rfl rfl (rc_no rfl rfl rfl rc_0) ?_
    (repeat (first | refine d_ok rfl rfl rfl ?_ | refine d_no rfl rfl ?_))
    refine d_fin ?_
    (repeat (first | refine g_sq ?_ | refine g_rg ?_ | refine g_r0 ?_ | refine g_ok rfl rfl ?_ | refine g_no rfl ?_ | refine g_no0 rfl ?_ | refine g_bk ?_ | refine g_b ?_ | refine g_sk ?_ | refine g_cT rfl ?_ | refine g_cF rfl ?_ | refine g_x rfl ?_ | refine g_lb ?_))
    refine g_ef0 rfl (ef_st hS 5 rfl rfl rfl rfl (Nat.le_of_ble_eq_true rfl) rfl fun w hS => ?_)
    (repeat (first | refine g_sq ?_ | refine g_rg ?_ | refine g_r0 ?_ | refine g_ok rfl rfl ?_ | refine g_no rfl ?_ | refine g_no0 rfl ?_ | refine g_bk ?_ | refine g_b ?_ | refine g_sk ?_ | refine g_cT rfl ?_ | refine g_cF rfl ?_ | refine g_x rfl ?_ | refine g_lb ?_))
    exact g_ret (q_c2 (n := 3) rfl rfl (hS.b 5 rfl) (Nat.le_of_ble_eq_true rfl) rfl (stop hS (.inr (.inr (.inl (by omega))))))
  (repeat (first | refine d_ok rfl rfl rfl ?_ | refine d_no rfl rfl ?_))
  rw [wrap_in (k := .i64) (n := (long : Int)) (in64 (by omega))]
  refine d_l1 rfl rfl rfl (hS.b 0 rfl) rfl ?_
  refine d_cl rfl rfl rfl (c40 (by omega) ⟨rc_1 rfl rfl rfl rfl (hS.b 0 rfl) rfl rc_0, ?_⟩)
  (repeat (first | refine d_ok rfl rfl rfl ?_ | refine d_no rfl rfl ?_))
  refine d_fin ?_
  (repeat (first | refine g_sq ?_ | refine g_rg ?_ | refine g_r0 ?_ | refine g_ok rfl rfl ?_ | refine g_no rfl ?_ | refine g_no0 rfl ?_ | refine g_bk ?_ | refine g_b ?_ | refine g_sk ?_ | refine g_cT rfl ?_ | refine g_cF rfl ?_ | refine g_x rfl ?_ | refine g_lb ?_))
  refine g_cd rfl (fun hz => ?_) (fun hz => ?_)
  all_goals simp only [cmv, Bool.not_eq_true', Bool.not_eq_false', decide_eq_true_eq, decide_eq_false_iff_not] at hz
  · (repeat (first | refine g_sq ?_ | refine g_rg ?_ | refine g_r0 ?_ | refine g_ok rfl rfl ?_ | refine g_no rfl ?_ | refine g_no0 rfl ?_ | refine g_bk ?_ | refine g_b ?_ | refine g_sk ?_ | refine g_cT rfl ?_ | refine g_cF rfl ?_ | refine g_x rfl ?_ | refine g_lb ?_))
    refine g_ef0 rfl (ef_st hS 5 rfl rfl rfl rfl (Nat.le_of_ble_eq_true rfl) rfl fun w hS => ?_)
    (repeat (first | refine g_sq ?_ | refine g_rg ?_ | refine g_r0 ?_ | refine g_ok rfl rfl ?_ | refine g_no rfl ?_ | refine g_no0 rfl ?_ | refine g_bk ?_ | refine g_b ?_ | refine g_sk ?_ | refine g_cT rfl ?_ | refine g_cF rfl ?_ | refine g_x rfl ?_ | refine g_lb ?_))
    exact g_ret (q_c2 (n := 3) rfl rfl (hS.b 5 rfl) (Nat.le_of_ble_eq_true rfl) rfl (stop hS (.inr (.inr (.inr (by omega))))))
  clear stop
  rw [if_neg (by omega)] at hst
  have ew : IntKind.i64.wrap (n : Int) = (n : Int) := wrap_in (k := .i64) (in64 (by omega))
  rw [ew] at hS ⊢
  have htl : (inn.take long).length = long := by rw [List.length_take]; omega
  (repeat (first | refine g_sq ?_ | refine g_rg ?_ | refine g_r0 ?_ | refine g_ok rfl rfl ?_ | refine g_no rfl ?_ | refine g_no0 rfl ?_ | refine g_bk ?_ | refine g_b ?_ | refine g_sk ?_ | refine g_cT rfl ?_ | refine g_cF rfl ?_ | refine g_x rfl ?_ | refine g_lb ?_))
  refine g_qt rfl (qt_slh (h := long) (k := .u64) rfl hle.2 rfl (by omega) hle.1) ?_
  (repeat (first | refine g_sq ?_ | refine g_rg ?_ | refine g_r0 ?_ | refine g_ok rfl rfl ?_ | refine g_no rfl ?_ | refine g_no0 rfl ?_ | refine g_bk ?_ | refine g_b ?_ | refine g_sk ?_ | refine g_cT rfl ?_ | refine g_cF rfl ?_ | refine g_x rfl ?_ | refine g_lb ?_))
  refine g_ef0 rfl (ef_st hS 0 rfl rfl rfl rfl (Nat.le_of_ble_eq_true rfl) rfl fun w hS => ?_)
  have hS : St w0 S0 w (cel b11 [.int .i64 (n : Int), .slice ai long ci, .int .i64 ((k + 1 : Nat) : Int)] 134 :: JouR S jb d fr bk J :: DevR S1 d D :: row (.slice (some ⟨b8, o8, none⟩) 128 c8) 5 1 128 (bys bs) :: row (.slice ai inn.length ci) 5 1 inn.length (bys inn) :: cel b4 [.int .i64 0, .slice none 0 0, .int .i64 0] 134 :: B) := hS
  have hS := row_head (m := long) hS 4 rfl (by omega)
  rw [bys_take] at hS
  (repeat (first | refine g_sq ?_ | refine g_rg ?_ | refine g_r0 ?_ | refine g_ok rfl rfl ?_ | refine g_no rfl ?_ | refine g_no0 rfl ?_ | refine g_bk ?_ | refine g_b ?_ | refine g_sk ?_ | refine g_cT rfl ?_ | refine g_cF rfl ?_ | refine g_x rfl ?_ | refine g_lb ?_))
  refine g_dr mixed ?_
  have hS := hS.drew
  refine d_lm rfl rfl rfl (hS.b 0 rfl) (Nat.le_of_ble_eq_true rfl) ?_
  (repeat (first | refine d_ok rfl rfl rfl ?_ | refine d_no rfl rfl ?_))
  refine d_l1 rfl rfl rfl (hS.b 0 rfl) rfl ?_
  (repeat (first | refine d_ok rfl rfl rfl ?_ | refine d_no rfl rfl ?_))
  refine d_l1 rfl rfl rfl (hS.b 0 rfl) rfl ?_
  refine d_cl rfl rfl rfl (c116 (n := n) (m := long) (bs := inn.take long) (by omega) hS (Ow.rd (hS.ok 4 _ rfl)) (by omega) fun v' w hS => ?_)
  have hS := hS.front
  refine ⟨rc_m rfl rfl rfl rfl (hS.b 1 rfl) (Nat.le_of_ble_eq_true rfl) rfl rc_0, ?_⟩
  refine d_cl rfl rfl rfl (c128 (Ow.rd (hS.ok 4 _ rfl)) (Ow.rd (hS.ok 0 _ rfl)) ⟨rc_m rfl rfl rfl rfl (hS.b 1 rfl) (Nat.le_of_ble_eq_true rfl) rfl rc_0, ?_⟩)
  refine d_e0 rfl rfl ?_
  refine ef_st hS 6 rfl rfl rfl rfl (Nat.le_of_ble_eq_true rfl) rfl fun w hS => ⟨rc_0, ?_⟩
  (repeat (first | refine d_ok rfl rfl rfl ?_ | refine d_no rfl rfl ?_))
  refine d_fin ?_
  (repeat (first | refine g_sq ?_ | refine g_rg ?_ | refine g_r0 ?_ | refine g_ok rfl rfl ?_ | refine g_no rfl ?_ | refine g_no0 rfl ?_ | refine g_bk ?_ | refine g_b ?_ | refine g_sk ?_ | refine g_cT rfl ?_ | refine g_cF rfl ?_ | refine g_x rfl ?_ | refine g_lb ?_))
  have hS2 := hS.selB (A := [_, _, _, _, _, _, _]) (B := B) [2, 3, 5] rfl rfl
  by_cases hE : bs = endedB n (inn.take long)
  · rw [if_pos hE] at hst
    have e0 : decide (bs = endedB n (inn.take long)) = true := decide_eq_true hE
    rw [e0]
    have hm : (⟨n, inn.take long⟩ : Grp).many = k + 1 := by show blk (inn.take long).length = k + 1; rw [htl]; omega
    have h2 := h2 ⟨n, inn.take long⟩ hst w S S1 (.slice ai long ci) (by rw [htl]; exact hS2)
    have e1 : gv1 ((⟨n, inn.take long⟩ : Grp), Value.slice ai long ci) = [.int .i64 (n : Int), .slice ai long ci, .int .i64 ((k + 1 : Nat) : Int)] := by
      show [Value.int .i64 (n : Int), .slice ai long ci, .int .i64 (((⟨n, inn.take long⟩ : Grp).many : Nat) : Int)] = _
      rw [hm]
    rw [e1] at h2
    exact g_ret (q_c2 (n := 3) rfl rfl (hS.b 6 rfl) (Nat.le_of_ble_eq_true rfl) rfl h2)
  · rw [if_neg hE] at hst
    have e0 : decide (bs = endedB n (inn.take long)) = false := decide_eq_false hE
    rw [e0]
    exact g_ret (q_c2 (n := 3) rfl rfl (hS.b 6 rfl) (Nat.le_of_ble_eq_true rfl) rfl (h1 hst _ S S1 _ rfl rfl (St.sub (A := [_, _]) (List.sublist_cons_self _ _) hS2)))
end
end Go.Proofs.Ytegjocpjmfaigaa
