/- Helpers of walks: slices that are read, picks of resources, cuts, results that lie in cells. -/
import Derived.Test.YtbdpcpafjphmpaaDoorEnN
set_option linter.unusedSimpArgs false
set_option linter.unusedVariables false
namespace Go.En
section
variable {w w0 : World} {S0 S : Nat → Prop} {K : Value → World → Prop} {B L : List Res} {E : Env} {ks : List KI} {T : TT} {D : List Deferred} {Q : QX}
theorem Rd.form {v : Value} {E sz n : Nat} {xs : List Value} (h : Rd v E sz n xs w) : ∃ a c, v = .slice a n c := by
  rcases h with ⟨⟨a, rfl⟩, rfl, _⟩ | ⟨b, off, cap, l, rfl, _⟩
  · exact ⟨_, _, rfl⟩
  · exact ⟨_, _, rfl⟩

theorem Rd.block {v : Value} {E sz n : Nat} {xs : List Value} (h : Rd v E sz n xs w) (hn : 0 < n) : ∃ b off cap l, v = .slice (some ⟨b, off, none⟩) n cap ∧ n ≤ cap ∧ off + cap * sz ≤ l.length ∧ (l.drop off).take (n * sz) = xs ∧ Blr w b l E := by
  rcases h with ⟨_, rfl, _⟩ | h
  · omega
  · exact h

theorem Rd.take {b off n cap E k : Nat} {xs : List Value} (h : Rd (.slice (some ⟨b, off, none⟩) n cap) E 1 n xs w) (hk : k ≤ n) : Rd (.slice (some ⟨b, off, none⟩) k cap) E 1 k (xs.take k) w := by
  rcases h with ⟨⟨a', h⟩, rfl, rfl⟩ | ⟨b', off', cap', l, h, hn, hl, hx, hb⟩
  · cases h
    have : k = 0 := by omega
    subst this
    exact .inl ⟨⟨_, rfl⟩, rfl, rfl⟩
  · cases h
    refine .inr ⟨b, off, cap, l, rfl, by omega, hl, ?_, hb⟩
    rw [← hx, List.take_take]
    congr 1
    omega

theorem Rd.drop {b off n cap E k : Nat} {x : Operand} {xs : List Value} (h : Rd (.slice (some ⟨b, off, none⟩) n cap) E 1 n xs w) (hk : k ≤ n) : Rd (.slice (some ⟨b, slo (some x) off cap k 1, none⟩) (n - k) (cap - k)) E 1 (n - k) (xs.drop k) w := by
  rcases h with ⟨⟨a', h⟩, rfl, rfl⟩ | ⟨b', off', cap', l, h, hn, hl, hx, hb⟩
  · cases h
    have : k = 0 := by omega
    subst this
    exact .inl ⟨⟨_, rfl⟩, rfl, rfl⟩
  · cases h
    by_cases e : cap = k
    · have : n = k := by omega
      subst this
      have hso : slo (some x) off cap n 1 = off := by simp only [slo, if_pos e]
      rw [hso]
      refine .inr ⟨b, off, cap - n, l, rfl, by omega, by omega, ?_, hb⟩
      have hxl : xs.length ≤ n := by rw [← hx]; simp; omega
      have hnil : xs.drop n = [] := List.drop_eq_nil_of_le hxl
      rw [hnil]
      simp
    · have hso : slo (some x) off cap k 1 = off + k * 1 := by simp only [slo, if_neg e]
      rw [hso]
      refine .inr ⟨b, off + k * 1, cap - k, l, rfl, by omega, by omega, ?_, hb⟩
      rw [← hx, ← List.drop_drop, List.drop_take]
      simp

theorem selLen {L : List Res} : ∀ {is : List Nat} {R : List Res}, sel L is = some R → R.length = is.length ∧ ∀ i, i ∈ is → i < L.length
  | [], R, h => by simp [sel] at h; subst h; simp
  | i :: is, R, h => by
    simp only [sel] at h
    split at h
    · rename_i r0 R0 h1 h2
      cases h
      obtain ⟨e, k⟩ := selLen h2
      refine ⟨by simp [e], fun j hj => ?_⟩
      rcases List.mem_cons.1 hj with rfl | hj
      · exact (List.getElem?_eq_some_iff.1 h1).1
      · exact k j hj
    · cases h

theorem St.selB {A B A' : List Res} (hS : St w0 S0 w (A ++ B)) (is : List Nat) (h : En.sel A is = some A') (hn : nodB is = true) : St w0 S0 w (A' ++ B) := by
  obtain ⟨hl, hlt⟩ := selLen h
  refine hS.pick (is ++ (List.range B.length).map (· + A.length)) _ ?_ ?_
  · intro k r hk
    by_cases e : k < A'.length
    · rw [List.getElem?_append_left e] at hk
      obtain ⟨i, h1, h2⟩ := sel_get h k r hk
      refine ⟨i, ?_, ?_⟩
      · rw [List.getElem?_append_left (by omega)]; exact h1
      · rw [List.getElem?_append_left (List.getElem?_eq_some_iff.1 h2).1]; exact h2
    · rw [List.getElem?_append_right (by omega)] at hk
      have hb := (List.getElem?_eq_some_iff.1 hk).1
      refine ⟨k - A'.length + A.length, ?_, ?_⟩
      · rw [List.getElem?_append_right (by omega), ← hl]
        simp [hb]
      · rw [List.getElem?_append_right (by omega), Nat.add_sub_cancel]; exact hk
  · rw [List.nodup_append]
    refine ⟨nodB_ok hn, List.Pairwise.map _ (fun a b h => by omega) List.nodup_range, ?_⟩
    intro i hi j hj
    simp only [List.mem_map, List.mem_range] at hj
    obtain ⟨k, _, rfl⟩ := hj
    have := hlt i hi
    omega

theorem cmv_self (a : Int) : cmv BinOp.eql a a = true := by simp [cmv]

theorem g_atx {ι : Type} (n : Nat) (T' : ι → TT) (I : ι → World → Prop) (hn : noD n ks = true) (h1 : G E (insA (.l (fun T1 D1 w1 => D1 = D ∧ ∃ x, SubL (T' x) T1 ∧ I x w1)) n ks) T D w Q) (h2 : ∀ x T w, SubL (T' x) T → I x w → G E (ks.drop n) T D w Q) : G E ks T D w Q :=
  kq_ins n ks hn (fun T1 D1 w1 ⟨hD, x, hs, hI⟩ => hD ▸ h2 x T1 w1 hs hI) _ _ _ _ h1

theorem g_jx {ι : Type} {T' : ι → TT} {I : ι → World → Prop} (x : ι) (hs : SubL (T' x) T) (hI : I x w) : G E (.l (fun T1 D1 w1 => D1 = D ∧ ∃ x, SubL (T' x) T1 ∧ I x w1) :: ks) T D w Q := ⟨rfl, x, hs, hI⟩

theorem qt_bsR {P : Program} {T : TT} {w : World} {x : Operand} {v : Value} {E n : Nat} {bs : List UInt8} (hx : ev T x = some v) (hr : Rd v E 1 n (bys bs) w) : Qt P (.bs x) T w (.string ⟨bs.toArray⟩) := by
  rcases hr with ⟨⟨a, rfl⟩, rfl, hb⟩ | ⟨b, off, cap, l, rfl, hc, hl, hx', hB⟩
  · have : bs = [] := by
      have := congrArg List.length hb
      simpa using this
    subst this
    exact qt_bs0 hx
  · rw [Nat.mul_one] at hx'
    exact qt_bs hx hB (by omega) hx'

theorem inc8 (b : UInt8) : IntKind.u8.wrap (arv .add (b.toNat : Int) 1) = ((b + 1).toNat : Int) := by
  revert b
  have key : ∀ n : Fin 256, IntKind.u8.wrap (arv .add (n.val : Int) 1) = (((n.val + 1) % 256 : Nat) : Int) := by decide +kernel
  intro b
  have h := key ⟨b.toNat, b.toNat_lt⟩
  rw [h, UInt8.toNat_add]
  rfl

theorem bys_set (bs : List UInt8) (rest : List Value) (i : Nat) (x : UInt8) (h : i < bs.length) : spl (bys bs ++ rest) (0 + i * 1) [.int .u8 (x.toNat : Int)] = bys (bs.set i x) ++ rest := by
  have : spl (bys bs ++ rest) i [.int .u8 (x.toNat : Int)] = (bys bs ++ rest).set i (.int .u8 (x.toNat : Int)) := by
    rw [List.set_eq_take_append_cons_drop, if_pos (by simp; omega)]
    simp [spl]
  rw [Nat.zero_add, Nat.mul_one, this, List.set_append_left _ _ (by simpa using h)]
  simp [bys, List.map_set]

theorem d_l1r {l : List MOp} {i s : Nat} {g : Option (Nat × Bool)} {x : Operand} {b off : Nat} {cs : List Value} {ty : TypeId} {v : Value} {t : DT} (hl : l[i]? = some ⟨some s, g, .ld x none⟩) (hg : gv T ⟨some s, g, .ld x none⟩ = some true) (hx : ev T x = some (.pointer (some ⟨b, off, none⟩))) (hb : Blr w b cs ty) (hv : cs[off]? = some v)
    (h : G E (.d l t :: ks) ((s, v) :: T) D w Q) : G E (.d l (.q i t) :: ks) T D w Q := d_qt hl hg rfl (qt_ld1r hx hb hv) h

theorem rc_1r {l : List MOp} {j d : Nat} {g : Option (Nat × Bool)} {x : Operand} {b off : Nat} {cs : List Value} {ty : TypeId} {v : Value} {rc : List Nat} {T' : TT} (hl : l[j]? = some ⟨some d, g, .ld x none⟩) (hv : lk T d = some v) (hg : gv T' ⟨some d, g, .ld x none⟩ = some true) (hx : ev T' x = some (.pointer (some ⟨b, off, none⟩))) (hb : Blr w b cs ty) (hc : cs[off]? = some v)
    (h : RC E l rc T T' w) : RC E l (j :: rc) T T' w := rc_qt hl hv hg rfl (qt_ld1r hx hb hc) h

theorem q_c1 {P : Program} {a ty n b off : Nat} {l : List Value} {E : TypeId} {T : TT} {w : World} {K : Value → World → Prop} (ht : lk T a = some (.pointer (some ⟨b, off, none⟩))) (h1 : rdAs P ty (some n) = true) (hb : Blk w b l E) (hn : off + n ≤ l.length) (h : K (.agg ⟨(l.drop off).take n⟩) w) : QF P [.cell a ty] K .ret T [] w :=
  ⟨[_], ⟨_, _, [], ht, run_loadm h1 hb.r hn, rfl, rfl⟩, h⟩

theorem q_c2 {P : Program} {a ty n b off t : Nat} {l : List Value} {E : TypeId} {T : TT} {w : World} {K : Value → World → Prop} {u : Value} (ht : lk T a = some (.pointer (some ⟨b, off, none⟩))) (h1 : rdAs P ty (some n) = true) (hb : Blk w b l E) (hn : off + n ≤ l.length) (hu : lk T t = some u) (h : K (.tuple ⟨[.agg ⟨(l.drop off).take n⟩, u]⟩) w) : QF P [.cell a ty, .tmp t] K .ret T [] w :=
  ⟨[_, _], ⟨_, _, [u], ht, run_loadm h1 hb.r hn, ⟨_, [], hu, rfl, rfl⟩, rfl⟩, h⟩

theorem Rd.mid {b off n cap E i j : Nat} {x : Operand} {xs : List Value} (h : Rd (.slice (some ⟨b, off, none⟩) n cap) E 1 n xs w) (hi : i ≤ j) (hj : j ≤ n) : Rd (.slice (some ⟨b, slo (some x) off cap i 1, none⟩) (j - i) (cap - i)) E 1 (j - i) ((xs.drop i).take (j - i)) w :=
  Rd.take (Rd.drop h (by omega)) (by omega)

theorem qt_slh {P : Program} {T : TT} {w : World} {x hi : Operand} {a : Option Addr} {n c sz h : Nat} {k : IntKind} (hx : ev T x = some (.slice a n c)) (hsp : ∀ {y o v}, a = some ⟨y, o, some v⟩ → False) (hh : ev T hi = some (.int k (h : Int))) (hle : h ≤ n) (hc : n ≤ c) : Qt P (.sl x none (some hi) none sz) T w (.slice a h c) := by
  cases a with
  | none =>
    have e : pev T (.sl x none (some hi) none sz) = .rq (((0 : Nat) : Int) ≤ ((0 : Nat) : Int) ∧ ((0 : Nat) : Int) ≤ (h : Int) ∧ (h : Int) ≤ (c : Int) ∧ (c : Int) ≤ (c : Int)) (.slice none h c) := by
      simp [pev, hx, bnd, hh]
    exact (pev_rq e ⟨by omega, by omega, by omega, by omega⟩).2 w
  | some y =>
    obtain ⟨b, o, s⟩ := y
    cases s with
    | some s => exact (hsp rfl).elim
    | none =>
      have e : pev T (.sl x none (some hi) none sz) = .rq (((0 : Nat) : Int) ≤ ((0 : Nat) : Int) ∧ ((0 : Nat) : Int) ≤ (h : Int) ∧ (h : Int) ≤ (c : Int) ∧ (c : Int) ≤ (c : Int)) (.slice (some ⟨b, o, none⟩) h c) := by
        simp [pev, hx, bnd, hh, slo]
      exact (pev_rq e ⟨by omega, by omega, by omega, by omega⟩).2 w

theorem Rd.head {w : World} {a : Option Addr} {n c E m : Nat} {xs : List Value} (h : Rd (.slice a n c) E 1 n xs w) (hm : m ≤ n) : Rd (.slice a m c) E 1 m (xs.take m) w := by
  rcases h with ⟨⟨a', h⟩, rfl, rfl⟩ | ⟨b', off', cap', l, h, hn, hl, hx, hb⟩
  · cases h
    have : m = 0 := by omega
    subst this
    exact .inl ⟨⟨_, rfl⟩, rfl, rfl⟩
  · cases h
    refine .inr ⟨b', off', _, l, rfl, by omega, hl, ?_, hb⟩
    rw [← hx, List.take_take]
    congr 1
    omega

theorem row_head {n m : Nat} {xs : List Value} {a : Option Addr} {c E : Nat} (hS : St w0 S0 w L) (i : Nat) (hi : L[i]? = some (row (.slice a n c) E 1 n xs)) (hm : m ≤ n) : St w0 S0 w (L.set i (row (.slice a m c) E 1 m (xs.take m))) := by
  refine hS.conv i hi (fun b h => by cases a <;> exact h) ?_
  rcases hS.ok i _ hi with ⟨hv, hn, hx⟩ | ⟨b, cap, rest, hv, hcap, hxl, hl', hB⟩
  · cases hv
    have : m = 0 := by omega
    subst this
    exact .inl ⟨rfl, rfl, by rw [List.take_zero]⟩
  · cases hv
    refine .inr ⟨b, _, xs.drop m ++ rest, rfl, by omega, by rw [List.length_take]; omega, by rw [← List.append_assoc, List.take_append_drop]; exact hl', by rw [← List.append_assoc, List.take_append_drop]; exact hB⟩

theorem row_blk {w0 w : World} {S0 : Nat → Prop} {L : List Res} {v : Value} {E n sz : Nat} {xs : List Value} (hS : St w0 S0 w L) (i : Nat) (hi : L[i]? = some (row v E sz n xs)) (hn : 0 < n) :
    ∃ b cap rest, v = .slice (some ⟨b, 0, none⟩) n cap ∧ n ≤ cap ∧ Blk w b (xs ++ rest) E ∧ (xs ++ rest).length = cap * sz := by
  obtain ⟨a, m, c, hv⟩ := hS.rowb i hi hn
  rcases hS.ok i _ hi with ⟨hv', _⟩ | ⟨bw, capw, restw, hv', hcap, hxl, hl', hB⟩
  · rw [hv] at hv'; cases hv'
  · exact ⟨bw, capw, restw, hv', hcap, hB, hl'⟩

theorem g_sq2 {A B C : MC} (h : G E (.c A :: .c B :: .c C :: ks) T D w Q) : G E (.c A :: .c (.sq B C) :: ks) T D w Q := fun hd c a hc hd' ha =>
  wpIn_mono (h hd c a hc hd' ha) (LQ.mono fun e T D w hq => by
    cases e with
    | normal => exact g_sq hq
    | _ => exact hq)

theorem cmv_neq (a : Int) : cmv BinOp.neq a a = false := by simp [cmv]

def Ext (w0 : World) (p : Value × List UInt8) : Prop := ∃ E, Rd p.1 E 1 p.2.length (bys p.2) w0
end
end Go.En
