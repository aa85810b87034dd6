/- The journal: plain laws. -/
import Derived.Test.YtegjocpjmfaigaaJl
set_option linter.unusedSimpArgs false
set_option linter.unusedVariables false
namespace Go.Proofs.Ytegjocpjmfaigaa
open Go.En

def putL (l : List (List UInt8)) (i : Nat) (xs : List (List UInt8)) : List (List UInt8) := l.take i ++ xs ++ l.drop (i + xs.length)
def dblocks (rest : List UInt8) : List (List UInt8) := if h : rest = [] then [] else pad (1 :: rest.take 119) :: dblocks (rest.drop 119)
termination_by rest.length
decreasing_by
  have : 0 < rest.length := List.length_pos_iff.2 h
  simp only [List.length_drop]
  omega
def gblocks (g : Grp) : List (List UInt8) := dblocks g.b ++ [endedB g.n g.b]
theorem dblocks_nil : dblocks [] = [] := by rw [dblocks, dif_pos rfl]
theorem dblocks_cons {rest : List UInt8} (h : rest ≠ []) : dblocks rest = pad (1 :: rest.take 119) :: dblocks (rest.drop 119) := by rw [dblocks, dif_neg h]
theorem dblocks_len : ∀ (n : Nat) (rest : List UInt8), rest.length ≤ n → (dblocks rest).length + 1 = blk rest.length
  | n, rest, hn => by
    by_cases h : rest = []
    · subst h; rw [dblocks_nil]; rfl
    · have hp : 0 < rest.length := List.length_pos_iff.2 h
      rw [dblocks_cons h, List.length_cons]
      cases n with
      | zero => omega
      | succ n =>
        have := dblocks_len n (rest.drop 119) (by rw [List.length_drop]; omega)
        rw [List.length_drop] at this
        unfold blk at *
        omega
theorem gblocks_len (g : Grp) : (gblocks g).length = g.many := by
  have := dblocks_len g.b.length g.b (Nat.le_refl _)
  simp only [gblocks, List.length_append, List.length_cons, List.length_nil]
  exact this
theorem putL_len {l xs : List (List UInt8)} {i : Nat} (h : i + xs.length ≤ l.length) : (putL l i xs).length = l.length := by
  simp [putL]; omega
theorem putL_nil (l : List (List UInt8)) (i : Nat) : putL l i [] = l := by simp [putL]
theorem putL_step {l xs : List (List UInt8)} {i : Nat} {x : List UInt8} (h : i < l.length) : putL (l.set i x) (i + 1) xs = putL l i (x :: xs) := by
  unfold putL
  rw [List.set_eq_take_append_cons_drop, if_pos h]
  have hl : (l.take i).length = i := by rw [List.length_take]; omega
  have e1 : (l.take i ++ x :: l.drop (i + 1)).take (i + 1) = l.take i ++ [x] := by
    rw [List.take_append, hl, List.take_of_length_le (by omega)]
    simp
  have e2 : (l.take i ++ x :: l.drop (i + 1)).drop (i + 1 + xs.length) = l.drop (i + (x :: xs).length) := by
    rw [List.drop_append, hl, List.drop_of_length_le (by omega), List.nil_append, show i + 1 + xs.length - i = xs.length + 1 by omega, List.drop_succ_cons, List.drop_drop, List.length_cons]
    congr 1
    omega
  rw [e1, e2]
  simp
theorem putL_app {l xs ys : List (List UInt8)} {i : Nat} (h : i + xs.length ≤ l.length) : putL (putL l i xs) (i + xs.length) ys = putL l i (xs ++ ys) := by
  unfold putL
  have hl : (l.take i ++ xs).length = i + xs.length := by rw [List.length_append, List.length_take]; omega
  have e1 : (l.take i ++ xs ++ l.drop (i + xs.length)).take (i + xs.length) = l.take i ++ xs := by rw [← hl, List.take_left' rfl]
  have e2 : (l.take i ++ xs ++ l.drop (i + xs.length)).drop (i + xs.length + ys.length) = l.drop (i + (xs ++ ys).length) := by
    rw [List.drop_append, hl, List.drop_of_length_le (by rw [hl]; omega), List.nil_append, List.drop_drop, List.length_append]
    congr 1
    omega
  rw [e1, e2]
  simp
theorem putL_one {l : List (List UInt8)} {i : Nat} {x : List UInt8} (h : i < l.length) : putL l i [x] = l.set i x := by
  rw [← putL_step h, putL_nil]
theorem putL_get_lt {l xs : List (List UInt8)} {i k : Nat} (hi : i ≤ l.length) (h : k < i) : (putL l i xs)[k]? = l[k]? := by
  unfold putL
  rw [List.append_assoc, List.getElem?_append_left (by rw [List.length_take]; omega), List.getElem?_take_of_lt h]

theorem oper_wf {D : Dev} (h : D.wf) : D.oper.1.wf := by
  unfold Dev.oper
  split
  · exact Dev.wf.crash (D := { D with since := inc D.since }) h _
  · exact h
theorem write_wf {D : Dev} (h : D.wf) (hn : D.waits.length + 1 < 1152921504) (i : Int) (bs : List UInt8) : (D.write i bs).1.wf := by
  unfold Dev.write
  split
  · exact h
  · split
    · rename_i hin
      exact oper_wf (h.wr1 hin.1 hin.2 hn)
    · exact h
theorem sync_wf {D : Dev} (h : D.wf) : D.sync.1.wf := by
  unfold Dev.sync
  split
  · exact h
  · split
    · exact (oper_wf h).sync1
    · exact oper_wf h
/-- a group's data blocks, without a crash -/
theorem jdata_calm : ∀ (n : Nat) (rest : List UInt8) (D : Dev) (i : Nat), rest.length ≤ n → D.calm → D.wf → i + (dblocks rest).length ≤ D.cells.length → D.waits.length + (dblocks rest).length < 1152921504 →
    ∃ D', jdata D i rest = (D', 0, i + (dblocks rest).length) ∧ D'.calm ∧ D'.wf ∧ D'.cells.length = D.cells.length ∧ D'.all = putL D.all i (dblocks rest)
  | n, rest, D, i, hn, hc, hw, hi, hwt => by
    by_cases h : rest = []
    · subst h
      rw [jdata, dif_pos rfl, dblocks_nil, putL_nil]
      exact ⟨D, rfl, hc, hw, rfl, rfl⟩
    · have hp : 0 < rest.length := List.length_pos_iff.2 h
      cases n with
      | zero => omega
      | succ n =>
        rw [dblocks_cons h] at hi hwt ⊢
        simp only [List.length_cons] at hi hwt ⊢
        have hlen : (1 :: rest.take 119).length ≤ 128 := by rw [List.length_cons, List.length_take]; omega
        have hin : (0 ≤ (i : Int) ∧ (i : Int) < D.cells.length) ∧ (1 :: rest.take 119).length ≤ 128 := ⟨by omega, hlen⟩
        have hwf := write_wf hw (by omega) (i : Int) (1 :: rest.take 119)
        have hc1 := write_calm hc (i : Int) (1 :: rest.take 119)
        have e2 : (D.write (i : Int) (1 :: rest.take 119)).2 = 0 := by rw [write_ok hc.1 hc.2 hin]
        have hcl : (D.write (i : Int) (1 :: rest.take 119)).1.cells.length = D.cells.length := (write_fit D _ _).1
        have hwl := (write_fit D (i : Int) (1 :: rest.take 119)).2
        have hal : (D.write (i : Int) (1 :: rest.take 119)).1.all = D.all.set i (pad (1 :: rest.take 119)) := by
          rw [show D.all.set i (pad (1 :: rest.take 119)) = (D.wr1 (i : Int) (1 :: rest.take 119)).all by rw [wr1_all hc.1 hin.1]; rfl, write_ok hc.1 hc.2 hin]
          exact all_eq rfl rfl rfl
        obtain ⟨D', h1, h2, h3, h4, h5⟩ := jdata_calm n (rest.drop 119) (D.write (i : Int) (1 :: rest.take 119)).1 (i + 1) (by rw [List.length_drop]; omega) hc1 hwf (by omega) (by omega)
        refine ⟨D', ?_, h2, h3, h4.trans hcl, ?_⟩
        · rw [jdata, dif_neg h, if_neg (by rw [e2]; simp), h1]
          congr 2
          omega
        · rw [h5, hal, putL_step (by rw [Dev.all_len]; omega)]
theorem jwrite_calm {D : Dev} {i : Nat} {g : Grp} (hc : D.calm) (hw : D.wf) (hi : i + g.many ≤ D.cells.length) (hwt : D.waits.length + g.many < 1152921504) :
    ∃ D', jwrite D i g = (D', 0) ∧ D'.calm ∧ D'.wf ∧ D'.cells.length = D.cells.length ∧ D'.waits = [] ∧ D'.all = putL D.all i (gblocks g) := by
  have hdl : (dblocks g.b).length + 1 = g.many := dblocks_len g.b.length g.b (Nat.le_refl _)
  obtain ⟨D1, h1, h2, h3, h4, h5⟩ := jdata_calm g.b.length g.b D i (Nat.le_refl _) hc hw (by omega) (by omega)
  have es := sync_ok h2.1 h2.2
  have hs1 : D1.sync.1.cells = D1.all := by rw [es]; exact putAll_all h3 h2.1
  have hs2 : D1.sync.1.waits = [] := by rw [es]; rfl
  have hs3 : D1.sync.1.calm := by rw [es]; exact h2
  have hs4 : D1.sync.2 = 0 := by rw [es]
  have hs5 := sync_wf h3
  have hs6 : D1.sync.1.all = D1.all := by rw [nowait_all hs3.1 hs2, hs1]
  have hs7 : D1.sync.1.cells.length = D.cells.length := by rw [hs1, Dev.all_len]; exact h4
  have hin : (0 ≤ ((i + (dblocks g.b).length : Nat) : Int) ∧ ((i + (dblocks g.b).length : Nat) : Int) < D1.sync.1.cells.length) ∧ (endedB g.n g.b).length ≤ 128 := ⟨by rw [hs7]; omega, by rw [endedB_len]; exact Nat.le_refl _⟩
  have e0 : jwrite D i g = ((D1.sync.1.write ((i + (dblocks g.b).length : Nat) : Int) (endedB g.n g.b)).1.sync) := by
    unfold jwrite
    rw [h1]
    simp only
    rw [if_neg (by simp), if_neg (by rw [hs4]; simp), if_neg (by rw [write_ok hs3.1 hs3.2 hin]; simp)]
  rw [e0]
  have hpad : pad (endedB g.n g.b) = endedB g.n g.b := by rw [pad, endedB_len]; simp
  have hwal : (D1.sync.1.write ((i + (dblocks g.b).length : Nat) : Int) (endedB g.n g.b)).1.all = D1.sync.1.all.set (i + (dblocks g.b).length) (endedB g.n g.b) := by
    rw [write_ok hs3.1 hs3.2 hin]
    have := wr1_all hs3.1 hin.1 (endedB g.n g.b)
    rw [hpad] at this
    exact (all_eq rfl rfl rfl).trans this
  have hwc := write_calm hs3 ((i + (dblocks g.b).length : Nat) : Int) (endedB g.n g.b)
  have hww := write_wf hs5 (by rw [hs2]; decide) ((i + (dblocks g.b).length : Nat) : Int) (endedB g.n g.b)
  have hwl : (D1.sync.1.write ((i + (dblocks g.b).length : Nat) : Int) (endedB g.n g.b)).1.cells.length = D.cells.length := (write_fit _ _ _).1.trans hs7
  generalize (D1.sync.1.write ((i + (dblocks g.b).length : Nat) : Int) (endedB g.n g.b)).1 = D2 at *
  have et := sync_ok hwc.1 hwc.2
  refine ⟨D2.sync.1, by rw [et], by rw [et]; exact hwc, sync_wf hww, (sync_fit D2).1.trans hwl, by rw [et]; rfl, ?_⟩
  have ht1 : D2.sync.1.cells = D2.all := by rw [et]; exact putAll_all hww hwc.1
  have ht2 : D2.sync.1.waits = [] := by rw [et]; rfl
  have ht3 : D2.sync.1.down = false := by rw [et]; exact hwc.1
  rw [nowait_all ht3 ht2, ht1, hwal, hs6, h5, gblocks, ← putL_app (by rw [Dev.all_len]; omega), putL_one (by rw [putL_len (by rw [Dev.all_len]; omega), Dev.all_len]; omega)]
/-- a group is appended, without a crash -/
theorem append_calm {J : Jou} {D : Dev} {fr bk : Nat} {b : List UInt8} (hc : D.calm) (hw : D.wf) (hsh : J.shut = false) (hfit : blk b.length ≤ bk - J.used) (hn : J.next ≤ maxN) (hu : J.used ≤ bk) (hi : fr + bk ≤ D.cells.length) (hwt : D.waits.length + blk b.length < 1152921504) :
    ∃ D', J.append fr bk D b = (⟨J.l ++ [⟨J.next, b⟩], J.next + 1, false⟩, D', 0) ∧ D'.calm ∧ D'.wf ∧ D'.cells.length = D.cells.length ∧ D'.waits = [] ∧ D'.all = putL D.all (fr + J.used) (gblocks ⟨J.next, b⟩) := by
  obtain ⟨D', h1, h2⟩ := jwrite_calm (i := fr + J.used) (g := ⟨J.next, b⟩) hc hw (by show fr + J.used + blk b.length ≤ _; omega) hwt
  refine ⟨D', ?_, h2⟩
  unfold Jou.append
  rw [if_neg (by simp [hsh]), if_neg (by omega), h1]
  simp [hsh]
theorem append_full {J : Jou} {D : Dev} {fr bk : Nat} {b : List UInt8} (hsh : J.shut = false) (hfit : ¬ blk b.length ≤ bk - J.used) : J.append fr bk D b = (J, D, 150) := by
  unfold Jou.append
  rw [if_neg (by simp [hsh]), if_pos (.inl (by omega))]
/-- an area of noughts -/
theorem stand_zero (l : List (List UInt8)) (hl : ∀ b ∈ l, b.head? = some 0) : stand l [] 0 = none := by
  cases l with
  | nil => rfl
  | cons b r =>
    rw [stand_cons, hl b List.mem_cons_self]
    simp
theorem open_new {n bk : Nat} (h : bk ≤ n) : openJ (Dev.new n) 0 bk = ⟨[], 1, false⟩ := by
  have hz : ∀ b ∈ area (Dev.new n) 0 bk, b = List.replicate 128 0 := by
    intro b hb
    simp only [area, List.mem_map, List.mem_range] at hb
    obtain ⟨k, hk, rfl⟩ := hb
    have hk2 : 0 + k < n := by omega
    simp [Dev.rd, Dev.new]
    have : k < n := by omega
    simp [this]
  have h1 : opened (area (Dev.new n) 0 bk) = [] := by
    unfold opened opn
    rw [stand_zero _ (fun b hb => by rw [hz b (List.mem_of_mem_drop hb)]; rfl)]
  have h2 : ∀ (l : List (List UInt8)), (∀ b ∈ l, b = List.replicate 128 0) → ∀ m : Nat, l.foldl (fun n b => max n (numd b)) m = m := by
    intro l
    induction l with
    | nil => intro _ m; rfl
    | cons b l ih =>
      intro hb m
      rw [List.foldl_cons, hb b List.mem_cons_self, show max m (numd (List.replicate 128 0)) = m by
        have : numd (List.replicate 128 0) = 0 := by decide +kernel
        rw [this]; omega]
      exact ih (fun c hc => hb c (List.mem_cons_of_mem _ hc)) m
  unfold openJ great
  rw [h1, h2 _ hz 0]
theorem new_calm (n : Nat) : (Dev.new n).calm := ⟨rfl, fun h => absurd h (Int.lt_irrefl 0)⟩
end Go.Proofs.Ytegjocpjmfaigaa
