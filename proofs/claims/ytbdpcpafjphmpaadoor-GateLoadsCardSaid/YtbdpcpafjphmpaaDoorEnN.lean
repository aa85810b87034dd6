/- A string is ranged over; a row is cleared; maps. -/
import Derived.Test.YtbdpcpafjphmpaaDoorEnM
import Derived.MapKept
import Derived.Laws.Externs
import Derived.Lib.BytesEntry
import Derived.Lib.Bytealg
set_option linter.unusedSimpArgs false
set_option linter.unusedVariables false
namespace Go.En
variable {P : Program} {r : Option Nat} {T : TT} {w w0 : World} {S0 : Nat → Prop} {L : List Res} {K : Value → World → Prop}

theorem St.newObj (hS : St w0 S0 w L) (o : Obj) : St w0 S0 (w.alloc o) (L ++ [obj w.heap.size o]) :=
  hS.new (fr_alloc w o _) (fun b hb => by have : b = w.heap.size := hb; omega) (fun b hb => by have : b = w.heap.size := hb; rw [alloc_size]; omega) (by
    show (w.heap.push o)[w.heap.size]? = some o
    simp)
theorem St.putO (hS : St w0 S0 w L) {b : Nat} {o : Obj} (i : Nat) (hi : L[i]? = some (obj b o)) (o' : Obj) : St w0 S0 (w.putObj b o') (L.set i (obj b o')) := by
  have hb : w.heap[b]? = some o := hS.ok i _ hi
  have hlt := (Array.getElem?_eq_some_iff.1 hb).1
  exact hS.turn hi (fr_putObj w b o') (fun _ hb => .inl hb) (fun c hc => by have : c = b := hc; subst this; simpa using hlt) (World.putObj_heap_same hlt)
def noC : Obj → Bool
  | .cells .. => false
  | _ => true
theorem run_getO {b : Nat} {o : Obj} (hb : w.heap[b]? = some o) (hn : noC o = true) : (getObj b).run P w = .ok o w := by
  cases o <;> first | (simp [getObj, Sem.run, hb]; done) | simp [noC] at hn
theorem run_setO {b : Nat} {o : Obj} (o' : Obj) (hb : w.heap[b]? = some o) (hn : noC o = true) : (setObj b o').run P w = .ok () (w.putObj b o') := by
  cases o <;> first | (simp [setObj, Sem.run, hb, World.putObj]; done) | simp [noC] at hn
theorem ef_rg {x : Operand} {s : ByteArray} (hS : St w0 S0 w L) (hx : ev T x = some (.string s)) (h : ∀ b w', St w0 S0 w' (L ++ [obj b (.stringIter s 0)]) → K (.pointer (some ⟨b, 0, none⟩)) w') : Ef P r (.rg x) T w K := by
  refine ef_run ?_
  rintro ⟨dst, op, ty, pos, after, guard⟩ ρ hc ha
  cases op <;> simp only [chkO, Bool.false_eq_true, Bool.and_eq_true] at hc
  obtain ⟨e1, hu⟩ := hc
  have e1 := oeq_eq e1; subst e1
  split at hu
  · rename_i hu'
    refine ⟨_, w.alloc (.stringIter s 0), ?_, h _ _ (hS.newObj _)⟩
    simp only [execOp, Instr.range, ha.2 _ (by simp [MK.ops]) _ hx, Sem.run_bind, run_underlying hu' w, Result.andThen_ok, run_newObj, Sem.run_pure]
    rfl
  · simp at hu
theorem ef_nx {x : Operand} {s : ByteArray} {b pos : Nat} (hS : St w0 S0 w L) (i : Nat) (hi : L[i]? = some (obj b (.stringIter s pos))) (hx : ev T x = some (.pointer (some ⟨b, 0, none⟩)))
    (h1 : pos < s.size → ∀ w', St w0 S0 w' (L.set i (obj b (.stringIter s (pos + (Utf8.decode s pos).2)))) → K (.tuple ⟨[.bool true, .int .i64 pos, .int .i32 (Utf8.decode s pos).1]⟩) w')
    (h2 : ¬ pos < s.size → K (.tuple ⟨[.bool false]⟩) w) : Ef P r (.nx x) T w K := by
  have hb : w.heap[b]? = some (.stringIter s pos) := hS.ok i _ hi
  refine ef_run ?_
  rintro ⟨dst, op, ty, pos', after, guard⟩ ρ hc ha
  cases op <;> try (simp [chkO] at hc; done)
  rename_i y q
  cases q
  · simp [chkO] at hc
  simp only [chkO] at hc
  have e1 := oeq_eq hc; subst e1
  by_cases hlt : pos < s.size
  · refine ⟨_, w.putObj b (.stringIter s (pos + (Utf8.decode s pos).2)), ?_, h1 hlt _ (hS.putO i hi _)⟩
    simp only [execOp, Instr.next, ha.2 _ (by simp [MK.ops]) _ hx, Sem.run_bind, run_getO hb rfl, Result.andThen_ok, hlt, if_true, run_setO _ hb rfl, Sem.run_pure]
    rfl
  · refine ⟨_, w, ?_, h2 hlt⟩
    simp only [execOp, Instr.next, ha.2 _ (by simp [MK.ops]) _ hx, Sem.run_bind, run_getO hb rfl, Result.andThen_ok, hlt, if_false, Sem.run_pure]
theorem ef_clr {x : Operand} {sz : Nat} {z : ZZ} {b off n c : Nat} {l : List Value} {E : TypeId} (hS : St w0 S0 w L) (i : Nat) (hi : L[i]? = some (cel b l E)) (hx : ev T x = some (.slice (some ⟨b, off, none⟩) n c)) (hn : off + n * sz ≤ l.length) (h1 : (zx z).all (·.oneCell') = true)
    (h : ∀ w', St w0 S0 w' (L.set i (cel b (spl l off (rep n z)) E)) → K (.tuple ⟨[]⟩) w') : Ef P r (.clr sz z x) T w K := by
  refine ef_run ?_
  rintro ⟨dst, op, ty, pos, after, guard⟩ ρ hc ha
  cases op <;> simp only [chkO, Bool.false_eq_true] at hc
  rename_i cl
  simp only [Bool.and_eq_true] at hc
  obtain ⟨⟨hb, he⟩, hc⟩ := hc
  obtain ⟨cs, hr⟩ := run_builtin (P := P) hb ρ ⟨dst, .call cl, ty, pos, after, guard⟩ rfl
  have he := oeqs_eq he
  simp only [hr, ← he, List.map_cons, List.map_nil, ha.2 _ (by simp [MK.ops]) _ hx]
  split at hc
  · rename_i t ht
    split at hc
    · rename_i e hu'
      simp only [Bool.and_eq_true, decide_eq_true_eq] at hc
      obtain ⟨⟨hs, hz⟩, hzl⟩ := hc
      obtain ⟨v, hv, hvl⟩ := zeroIs_run hz w
      have hrl : (rep n z).length = n * sz := by
        rw [rep, flat_len (k := sz) (fun l hl => by rw [List.eq_of_mem_replicate hl, hzl]), List.length_replicate]
      have hst := run_stores (P := P) (off := off) (b := b) (E := E) (rep n z) 0 l w (hS.b i hi) (by rw [hrl]; omega) (by
        rw [List.all_eq_true] at h1 ⊢
        intro u hu
        rw [rep, List.mem_flatten] at hu
        obtain ⟨l', hl', hu⟩ := hu
        rw [List.eq_of_mem_replicate hl'] at hu
        exact h1 u hu)
      rw [Nat.add_zero] at hst
      have hgo := h _ (hS.set i hi (spl l off (rep n z)) (spl_length (by rw [hrl]; omega)))
      refine ⟨_, _, ?_, hgo⟩
      cases n with
      | zero =>
        have : spl l off (rep 0 z) = l := by simp [spl, rep]
        rw [this, setB_self (hS.b i hi)]
        simp only [builtin, Sem.run_bind, Builtin.clear_, ht, List.getElem?_toArray, List.getElem?_cons_zero, run_underlying hu' w, Result.andThen_ok, Sem.run_pure]
      | succ n =>
        simp only [builtin, Sem.run_bind, Builtin.clear_, ht, List.getElem?_toArray, List.getElem?_cons_zero, run_underlying hu' w, Result.andThen_ok, hv, run_zeros hvl, hst, Sem.run_pure]
    · simp at hc
  · simp at hc
/-- A CALL OF ONE OF THE MODEL's OWN FUNCTIONS. -/
theorem ef_xl {f : FuncId} {fn : Func} {e : Array Value → Sem Value} {args : List Operand} {vs : List Value} {v : Value} (hf : P.funcs[f]? = some fn) (hn : Extern.findNext fn = none) (he : Extern.find fn = some e) (hx : evs T args = some vs) (hr : (e ⟨vs⟩).run P w = .ok v w) (h : K v w) : Ef P r (.xl f args) T w K := by
  refine ef_run ?_
  rintro ⟨dst, op, ty, pos, after, guard⟩ ρ hc ha
  cases op <;> simp only [chkO, Bool.false_eq_true] at hc
  rename_i c
  split at hc
  · rename_i g hg
    simp only [Bool.and_eq_true, decide_eq_true_eq] at hc
    obtain ⟨⟨rfl, ho⟩, hc⟩ := hc
    have ho := oeqs_eq ho
    rw [hf] at hc
    simp only [Bool.and_eq_true, Bool.not_eq_true'] at hc
    refine ⟨v, w, ?_, h⟩
    have hval : ρ (.func f) = .func (.func f) #[] #[] := ha.2 _ (by simp [MK.ops]) _ rfl
    have hargs : c.args.map ρ = ⟨vs⟩ := by
      rw [map_arr, ← ho, evs_map (fun x hx => ha.2 x (by simp [MK.ops]; exact .inr hx)) hx]
    simp only [execOp, resolve, hg, Sem.run_bind, Sem.run_pure, Deferred.ofValue, hval, hargs, invoke, Result.andThen_ok]
    rw [show (#[] : Array Value) ++ ⟨vs⟩ ++ #[] = ⟨vs⟩ by simp, run_callFunc_extern hf hc.2 hc.1 hn he, hr]
    rfl
  · simp at hc
theorem run_bytesX {v : Value} {E n : Nat} {bs : List UInt8} (h : Rd v E 1 n (bys bs) w) : (Extern.Bytes.bytesOf v).run P w = .ok ⟨bs.toArray⟩ w := by
  have hlen := h.len
  have hbl : bs.length = n := by simpa using hlen
  rcases h with ⟨⟨a, rfl⟩, rfl, hx⟩ | ⟨b, off, cap, l, rfl, hn, hl, hx, hB⟩
  · have : bs = [] := by cases bs <;> simp [bys] at hx ⊢
    subst this
    cases a <;> rfl
  · have hg := Lib.run_loadBytesX (P := P) w (bs.map fun b => (b.toNat : Int)) ⟨b, off, none⟩ .empty (fun j x hj => by
      rw [add_plain, hB.cell]
      have hj2 : (bys bs)[j]? = some (.int .u8 x) := by
        simp only [bys, List.getElem?_map] at hj ⊢
        cases hb : bs[j]? with
        | none => rw [hb] at hj; cases hj
        | some y => rw [hb] at hj; cases hj; rfl
      have hlt := (List.getElem?_eq_some_iff.1 hj2).1
      rw [← hx, List.getElem?_take_of_lt (by rw [bys_length] at hlt; omega), List.getElem?_drop] at hj2
      exact hj2)
    rw [List.length_map, hbl] at hg
    show (Extern.Bytes.loadBytes ⟨b, off, none⟩ n .empty).run P w = _
    rw [hg]
    congr 2
    apply Array.ext'
    simp [Lib.bytesOf]
    exact (List.map_congr_left fun b _ => by simp).trans (List.map_id _)
theorem run_cmpX {v u : Value} {E E' n m : Nat} {a b : List UInt8} (ha : Rd v E 1 n (bys a) w) (hb : Rd u E' 1 m (bys b) w) : (Extern.BytealgCompare.compare ⟨[v, u]⟩).run P w = .ok (.int .i64 (Lib.compareBytes a b)) w := by
  change Sem.run P (do pure (goInt (Extern.BytealgCompare.cmp (← Extern.Bytes.bytesOf v) (← Extern.Bytes.bytesOf u)))) w = _
  simp only [Sem.run_bind, run_bytesX ha, run_bytesX hb, Sem.run_pure, Result.andThen_ok]
  rw [Lib.cmp_eq]
  rfl
/-! ### maps -/
structure KL (P : Program) (kt : TypeId) (ok : Value → Prop) : Prop where
  check : ∀ (w : World) (em : Bool) {v : Value}, ok v → (Instr.checkKey em 10000 kt v).run P w = .ok () w
  find : ∀ (w : World) {x : Value}, ok x → ∀ es : List MapEntry, (∀ e ∈ es, ok e.key) →
    ((Instr.findKey kt x es).run P w = .ok none w ∧ ∀ e ∈ es, e.key ≠ x) ∨ ∃ (j : Nat) (e : MapEntry), (Instr.findKey kt x es).run P w = .ok (some (j, e.val)) w ∧ es[j]? = some e ∧ e.key = x
  stays : ∀ (w : World) {v : Value}, ok v → (Instr.keyThatStays v v).run P w = .ok v w
def strK (v : Value) : Prop := ∃ s, v = .string s
theorem kl_str {kt : TypeId} (h : P.underlying kt = some .string) : KL P kt strK where
  check w em v hv := by
    obtain ⟨s, rfl⟩ := hv
    exact MapKept.run_checkKey h (by trivial) em 9999
  find w x hx es hes := by
    have hx' : MapKept.IsKey .string x := by obtain ⟨s, rfl⟩ := hx; trivial
    rcases MapKept.findNow_spec hx' es 0 (fun e he => by obtain ⟨s, hs⟩ := hes e he; rw [hs]; trivial) with ⟨h1, h2⟩ | ⟨j, e, h1, h2, h3⟩
    · exact .inl ⟨MapKept.run_findKey h h1, h2⟩
    · exact .inr ⟨j, e, MapKept.run_findKey h (by simpa using h1), h2, h3⟩
  stays w v hv := by
    obtain ⟨s, rfl⟩ := hv
    exact MapKept.run_keyThatStays (d := .string) (by trivial)
theorem ef_mkm (hS : St w0 S0 w L) (h : ∀ b w', St w0 S0 w' (L ++ [obj b (.map ⟨[]⟩ 0)]) → K (.map (some b)) w') : Ef P r .mkm T w K := by
  refine ef_run ?_
  rintro ⟨dst, op, ty, pos, after, guard⟩ ρ hc ha
  cases op <;> try (simp [chkO] at hc; done)
  rename_i t q
  cases q
  · refine ⟨_, w.alloc (.map ⟨[]⟩ 0), ?_, h _ _ (hS.newObj _)⟩
    simp only [execOp, Instr.makeMap, Sem.run_bind, run_newObj, Result.andThen_ok, Sem.run_pure, Option.map_none]
    rfl
  · simp [chkO] at hc
theorem isMap_of {t kt : TypeId} (h : isMap P t kt = true) : ∃ e, P.underlying t = some (.map kt e) := by
  unfold isMap at h
  split at h
  · rename_i k e hu; simp at h; subst h; exact ⟨e, hu⟩
  · cases h
theorem ef_mup {kt : TypeId} {ok : Value → Prop} (KW : KL P kt ok) {m k v : Operand} {b c : Nat} {key val : Value} {es : List MapEntry} (hS : St w0 S0 w L) (i : Nat) (hi : L[i]? = some (obj b (.map ⟨es⟩ c))) (hm : ev T m = some (.map (some b))) (hk : ev T k = some key) (hv : ev T v = some val)
    (hok : ok key) (hes : ∀ e ∈ es, ok e.key) (h1 : (∀ e ∈ es, e.key ≠ key) → ∀ w', St w0 S0 w' (L.set i (obj b (.map ⟨es ++ [⟨key, val, c⟩]⟩ (c + 1)))) → K undef w')
    (h2 : ∀ (j : Nat) (e : MapEntry), es[j]? = some e → e.key = key → ∀ w', St w0 S0 w' (L.set i (obj b (.map ⟨es.set j ⟨key, val, e.born⟩⟩ c))) → K undef w') : Ef P r (.mup kt m k v) T w K := by
  have hb : w.heap[b]? = some (.map ⟨es⟩ c) := hS.ok i _ hi
  refine ef_skip ?_
  rintro ⟨dst, op, ty, pos, after, guard⟩ ρ hc ha
  cases op <;> simp only [chkO, Bool.false_eq_true, Bool.and_eq_true] at hc
  obtain ⟨⟨⟨e1, e2⟩, e3⟩, hu⟩ := hc
  have e1 := oeq_eq e1; have e2 := oeq_eq e2; have e3 := oeq_eq e3; subst e1 e2 e3
  obtain ⟨et, hu⟩ := isMap_of hu
  rcases KW.find w hok es hes with ⟨hf, hne⟩ | ⟨j, e, hf, hj, he⟩
  · refine ⟨w.putObj b (.map ⟨es ++ [⟨key, val, c⟩]⟩ (c + 1)), ?_, h1 hne _ (hS.putO i hi _)⟩
    simp only [execOp, Instr.mapUpdate, ha.2 _ (by simp [MK.ops]) _ hm, ha.2 _ (by simp [MK.ops]) _ hk, ha.2 _ (by simp [MK.ops]) _ hv, Sem.run_bind, run_underlying hu w, Result.andThen_ok, run_getO hb rfl, KW.check w false hok, hf, run_setO _ hb rfl, Sem.run_pure]
    congr 2
    simp
  · refine ⟨w.putObj b (.map ⟨es.set j ⟨key, val, e.born⟩⟩ c), ?_, h2 j e hj he _ (hS.putO i hi _)⟩
    have hlt := (List.getElem?_eq_some_iff.1 hj).1
    have hks : (Instr.keyThatStays (((⟨es⟩ : Array MapEntry)[j]?.map (·.key)).getD key) key).run P w = .ok key w := by
      have : ((⟨es⟩ : Array MapEntry)[j]?.map (·.key)).getD key = key := by
        have : (⟨es⟩ : Array MapEntry)[j]? = some e := by simpa using hj
        rw [this]; exact he
      rw [this]; exact KW.stays w hok
    have hmod : (⟨es⟩ : Array MapEntry).modify j (fun e => { e with key := key, val := val }) = ⟨es.set j ⟨key, val, e.born⟩⟩ := by
      apply Array.ext'
      rw [Array.toList_modify]
      refine List.ext_getElem? fun i => ?_
      rw [List.getElem?_modify, List.getElem?_set]
      by_cases h : j = i
      · subst h; simp [hj, hlt, (List.getElem?_eq_some_iff.1 hj).2]
      · simp [h]
    simp only [execOp, Instr.mapUpdate, ha.2 _ (by simp [MK.ops]) _ hm, ha.2 _ (by simp [MK.ops]) _ hk, ha.2 _ (by simp [MK.ops]) _ hv, Sem.run_bind, run_underlying hu w, Result.andThen_ok, run_getO hb rfl, KW.check w false hok, hf, hks, hmod, run_setO _ hb rfl, Sem.run_pure]
def zv (ag : Bool) (z : ZZ) : Value := match ag with | true => .agg ⟨zx z⟩ | false => (zx z).headD undef
def lkv (ok : Bool) (v : Value) (q : Bool) : Value := match ok with | true => .tuple ⟨[v, .bool q]⟩ | false => v
theorem ef_mlk {kt : TypeId} {okp : Value → Prop} (KW : KL P kt okp) {ag ok : Bool} {z : ZZ} {m k : Operand} {b c : Nat} {key : Value} {es : List MapEntry} (hb : w.heap[b]? = some (.map ⟨es⟩ c)) (hm : ev T m = some (.map (some b))) (hk : ev T k = some key)
    (hok : okp key) (hes : ∀ e ∈ es, okp e.key) (h1 : (∀ e ∈ es, e.key ≠ key) → K (lkv ok (zv ag z) false) w)
    (h2 : ∀ (j : Nat) (e : MapEntry), es[j]? = some e → e.key = key → K (lkv ok e.val true) w) : Ef P r (.mlk kt ag z ok m k) T w K := by
  refine ef_run ?_
  rintro ⟨dst, op, ty, pos, after, guard⟩ ρ hc ha
  cases op <;> simp only [chkO, Bool.false_eq_true, Bool.and_eq_true, decide_eq_true_eq] at hc
  obtain ⟨⟨⟨e1, e2⟩, rfl⟩, hu⟩ := hc
  have e1 := oeq_eq e1; have e2 := oeq_eq e2; subst e1 e2
  split at hu
  · rename_i k' e' hu'
    simp only [Bool.and_eq_true, decide_eq_true_eq] at hu
    obtain ⟨⟨rfl, hz⟩, hi⟩ := hu
    have hzv : (zeroValue e').run P w = .ok (zv ag z) w := by
      unfold zeroIs at hz
      split at hi
      · rename_i i hi'
        rw [hi'] at hz
        simp only at hz
        split at hi
        · rename_i cs hcs
          rw [hcs] at hz
          simp only at hz
          have := veqs_eq hz
          subst hi
          have : cs = ⟨zx z⟩ := by
            obtain ⟨l⟩ := cs
            simp [Value.cells] at this
            rw [this]
          simp [zeroValue, typeInfo, hi', hcs, zv, this]
        · rename_i v hv1 hv
          simp only [Bool.and_eq_true, Bool.not_eq_true'] at hi
          obtain ⟨rfl, hi⟩ := hi
          have := veqs_eq hi
          simp [zeroValue, typeInfo, hi', hv, zv, ← this]
        · cases hi
      · cases hi
    rcases KW.find w hok es hes with ⟨hf, hne⟩ | ⟨j, e, hf, hj, he⟩
    · refine ⟨_, w, ?_, h1 hne⟩
      simp only [execOp, Instr.lookup, ha.2 _ (by simp [MK.ops]) _ hm, ha.2 _ (by simp [MK.ops]) _ hk, Sem.run_bind, run_underlying hu' w, Result.andThen_ok, run_getO hb rfl, KW.check w _ hok, hf, hzv, Sem.run_pure]
      cases ok <;> rfl
    · refine ⟨_, w, ?_, h2 j e hj he⟩
      simp only [execOp, Instr.lookup, ha.2 _ (by simp [MK.ops]) _ hm, ha.2 _ (by simp [MK.ops]) _ hk, Sem.run_bind, run_underlying hu' w, Result.andThen_ok, run_getO hb rfl, KW.check w _ hok, hf, Sem.run_pure]
      cases ok <;> rfl
  · simp at hu
end Go.En
