/- EnH EnQ EnO Oa2 Oh4 EnK EnY Rp1 Rg0 Rg1 Sd Rg2 Rg3 -/
import Derived.Test.YtfffdhafbbbpcaaGreatDoorPt10
import Derived.WalkKit
import Derived.CallsIn
import Derived.OrdersIn
import Derived.RangeFuncIn
import Derived.RangeFuncLeaves
import Derived.Scope
import Derived.RangeFuncRecord
import Derived.ChangeKeysEq
import Derived.Lib.IndexLaws
import Derived.DeepKeys3
import Derived.Maps.RangeRun
import Derived.Test.YtfffdhafbbbpcaaGreatDoorChecked
import Derived.KernelRfl
import Derived.Shelf.SlSortCmp.NoneTotal
import Derived.Test.YtfffdhafbbbpcaaGreatDoorProg
import Derived.Laws.StructEq
import Derived.MapKept
import Derived.Laws.Externs
import Derived.Lib.BytesEntry
import Derived.Lib.Bytealg
import Derived.Shelf.Small.Utf8
import Derived.Shelf.Small.Bits
import Derived.Shelf.Small.Strs
import Derived.Shelf.Strconv.Itoa0
import Derived.Shelf.Strings.Search1
import Derived.Shelf.Strings.Search2
import Derived.Shelf.Strings.Search3
import Derived.Shelf.Strings.Cut
import Derived.Shelf.Strings.Count
import Derived.Shelf.LaysM
import Derived.Shelf.Strings.Shaped
import Derived.Shelf.Sort.Plain
import Derived.Shelf.Strings.Prefix
import Derived.Shelf.Strings.Split
import Derived.Shelf.Strings.SplitShaped
import Derived.Shelf.Strings.Runes
import Derived.Shelf.Strings.IndexAny
import Derived.Shelf.Strings.AsciiSet
import Derived.Shelf.Strings.IndexAnyAll
import Derived.Shelf.Unicode.DecodeSlow
import Derived.Shelf.Slices.In.SortNone
import Derived.Shelf.Bytes.SlIndexAt
import Derived.Shelf.Bytes.Small
import Derived.Shelf.Bytes.IndexByte
import Derived.Lib.SplitLaws
import Derived.Shelf.SlSortCmp.WholeK
import Derived.Deep.Slices
import Derived.ChangeSlices
import Derived.ChangeArms
import Derived.OpenShut
import Derived.Below
import Derived.Carry
import Derived.ChangeMaps5
import Derived.Shelf.Spec.SlicesGrow
import Derived.OwnWalk
set_option linter.unusedSimpArgs false
set_option linter.unusedVariables false
namespace Go.En
variable {P : Program} {T : TT} {w : World}
variable {P : Program} {T : TT} {w : World}
variable {P : Program} {r : Option Nat} {T : TT} {w w0 : World} {S0 : Nat → Prop} {L : List Res} {K : Value → World → Prop}
variable {P : Program} {r : Option Nat} {T : TT} {w w0 : World} {S0 : Nat → Prop} {L : List Res} {K : Value → World → Prop}
variable {P : Program} {r : Option Nat} {T : TT} {w w0 : World} {S0 : Nat → Prop} {L : List Res} {K : Value → World → Prop}
theorem ef_cp {sz : Nat} {x y : Operand} {b off n c m : Nat} {l : List Value} {E : TypeId} {u : Value} {ys : List Value} (hS : St w0 S0 w L) (i : Nat) (hi : L[i]? = some (cel b l E)) (hx : ev T x = some (.slice (some ⟨b, off, none⟩) n c)) (hy : ev T y = some u)
  (hu : News u sz m ys w) (hl : off + n * sz ≤ l.length) (h1 : ys.all (·.oneCell') = true) (h : ∀ w', St w0 S0 w' (L.set i (cel b (spl l off (ys.take (min m n * sz))) E)) → K (.int .i64 (min m n : Nat)) w') : Ef P r (.cp sz x y) T w K := by
 refine ef_run ?_
 rintro ⟨dst, op, ty, pos, after, guard⟩ ρ hc ha
 cases op <;> simp only [chkO, Bool.false_eq_true, Bool.and_eq_true] at hc
 rename_i c
 obtain ⟨⟨hb, he⟩, hc⟩ := hc
 obtain ⟨cs, hr⟩ := run_builtin (P := P) hb ρ ⟨dst, .call c, ty, pos, after, guard⟩ rfl
 have he := oeqs_eq he
 simp only [hr, ← he, List.map_cons, List.map_nil, ha.2 _ (by simp [MK.ops]) _ hx, ha.2 _ (by simp [MK.ops]) _ hy]
 split at hc
 ·rename_i t ht
  split at hc
  ·rename_i e hu'
   have hk : min m n ≤ m := Nat.min_le_left _ _
   have hk2 : min m n ≤ n := Nat.min_le_right _ _
   have g1 := Nat.mul_le_mul_right sz hk
   have g2 := Nat.mul_le_mul_right sz hk2
   have hlen : (ys.take (min m n * sz)).length = min m n * sz := by rw [List.length_take, hu.len]; omega
   have hst := run_stores (P := P) (off := off) (b := b) (E := E) (ys.take (min m n * sz)) 0 l w (hS.b i hi) (by rw [hlen]; omega) (by
    rw [List.all_eq_true] at h1 ⊢
    exact fun v hv => h1 v (List.mem_of_mem_take hv))
   have ht2 : c.argTypes.size ≠ 0 := by
    intro e0
    have : c.argTypes[0]? = none := Array.getElem?_eq_none (by omega)
    rw [this] at ht; cases ht
   refine ⟨_, _, ?_, h _ (hS.set i hi _ (spl_length (by rw [hlen]; omega)))⟩
   have hfc := hu.take (P := P) hk
   simp only [builtin, Sem.run_bind, Builtin.copy_, ht, List.getElem?_toArray, List.getElem?_cons_zero, List.getElem?_cons_succ, run_underlying hu' w, Result.andThen_ok, hu.lenOf w, run_size hc w, show Nat.min m n = min m n from rfl, hfc, hst, Nat.add_zero, Sem.run_pure, goInt]
  ·simp at hc
 ·simp at hc
/-! ### what is checked of a region that draws -/
/-! ### the operations, as they lie -/
/-! ### every order -/
variable {P : Program} {T : TT}
/-! ### a function -/
/-! ### resources -/
open Go
section
variable {w w0 : World} {S0 : Nat → Prop} {L : List Res} {r0 : Res}
theorem St.fact (hS : St w0 S0 w L) {p : Prop} (hp : p) : St w0 S0 w (L ++ [En.emp.when p]) :=
 hS.new (Fr.refl _ _) (fun _ h => h.elim) (fun _ h => h.elim) ⟨hp, trivial⟩
end
section
variable {w w0 : World} {S0 : Nat → Prop} {L B : List Res}
theorem St.ows_split {α : Type} {F : α → Res} : ∀ (l : List α) (x : α) (r : List α) {B : List Res}, St w0 S0 w (ows F (l ++ x :: r) :: B) → St w0 S0 w (ows F l :: F x :: ows F r :: B)
 | [], x, r, B, hS => by
  have hS : St w0 S0 w ((F x).and (ows F r) :: B) := hS
  have hS := (hS.split 0 rfl).front
  have hS : St w0 S0 w (ows F r :: F x :: B) := hS
  have hS := hS.emp.front
  exact selB' (A := [_, _, _]) (B := B) hS [0, 2, 1] rfl rfl
 | a :: l, x, r, B, hS => by
  have hS : St w0 S0 w ((F a).and (ows F (l ++ x :: r)) :: B) := hS
  have hS := (hS.split 0 rfl).front
  have hS : St w0 S0 w (ows F (l ++ x :: r) :: F a :: B) := hS
  have hS := St.ows_split l x r hS
  have hS := selB' (A := [_, _, _, _]) (B := B) hS [3, 0, 1, 2] rfl rfl
  have hS := hS.merge 0 1 rfl rfl (by decide)
  have hS : St w0 S0 w ((F a).and (ows F l) :: En.emp :: F x :: ows F r :: B) := hS
  exact selB' (A := [_, _, _, _]) (B := B) hS [0, 2, 3] rfl rfl
end
end Go.En
namespace Go.Proofs.YtfffdhafbbbpcaaGreatDoor
open Go.En
theorem rc_site (r : Rec) : (rc r)[0]? = some (.int .i64 r.site) := rfl
theorem ib_none : ∀ (s : Bs) (c : UInt8), c ∉ s → Lib.indexByte s c = -1
 | [], c, _ => rfl
 | x :: s, c, h => by
  have h1 : ¬ c = x := fun e => h (by rw [e]; exact List.mem_cons_self)
  have ih := ib_none s c (fun hm => h (List.mem_cons_of_mem _ hm))
  unfold Lib.indexByte
  rw [if_neg (by simpa using fun e => h1 e.symm), ih]
  rfl
end Go.Proofs.YtfffdhafbbbpcaaGreatDoor
namespace Go.En
section
variable {P : Program} {r : Option Nat} {T : TT} {w w0 : World} {S0 : Nat → Prop} {L : List Res} {K : Value → World → Prop}
theorem ef_mlk0 {kt : TypeId} {okp : Value → Prop} (KW : KL P kt okp) {ag ok : Bool} {z : ZZ} {m k : Operand} {key : Value} (hm : ev T m = some (.map none)) (hk : ev T k = some key)
  (hok : okp key) (h1 : K (lkv ok (zv ag z) false) w) : Ef P r (.mlk kt ag z ok m k) T w K := by
 refine ef_run ?_
 rintro ⟨dst, op, ty, pos, after, guard⟩ ρ hc ha
 cases op <;> simp only [chkO, Bool.false_eq_true, Bool.and_eq_true, decide_eq_true_eq] at hc
 obtain ⟨⟨⟨e1, e2⟩, rfl⟩, hu⟩ := hc
 have e1 := oeq_eq e1; have e2 := oeq_eq e2; subst e1 e2
 split at hu
 ·rename_i k' e' hu'
  simp only [Bool.and_eq_true, decide_eq_true_eq] at hu
  obtain ⟨⟨rfl, hz⟩, hi⟩ := hu
  have hzv : (zeroValue e').run P w = .ok (zv ag z) w := by
   unfold zeroIs at hz
   split at hi
   ·rename_i i hi'
    rw [hi'] at hz
    simp only at hz
    split at hi
    ·rename_i cs hcs
     rw [hcs] at hz
     simp only at hz
     have := veqs_eq hz
     subst hi
     have : cs = ⟨zx z⟩ := by
      obtain ⟨l⟩ := cs
      simp [Value.cells] at this
      rw [this]
     simp [zeroValue, typeInfo, hi', hcs, zv, this]
    ·rename_i v hv1 hv
     simp only [Bool.and_eq_true, Bool.not_eq_true'] at hi
     obtain ⟨rfl, hi⟩ := hi
     have := veqs_eq hi
     simp [zeroValue, typeInfo, hi', hv, zv, ← this]
    ·cases hi
   ·cases hi
  have hf : (Instr.findKey k' key []).run P w = .ok none w := by
   rcases KW.find w hok [] (fun _ h => nomatch h) with ⟨hf, _⟩ | ⟨j, e, _, hj, _⟩
   ·exact hf
   ·simp at hj
  refine ⟨_, w, ?_, h1⟩
  simp only [execOp, Instr.lookup, ha.2 _ (by simp [MK.ops]) _ hm, ha.2 _ (by simp [MK.ops]) _ hk, Sem.run_bind, run_underlying hu' w, Result.andThen_ok, Sem.run_pure, KW.check w _ hok, hf, hzv]
  cases ok <;> rfl
 ·simp at hu
end
section
variable {P : Program} {r : Option Nat} {T : TT} {w w0 : World} {S0 : Nat → Prop} {L : List Res} {K : Value → World → Prop}
theorem run_zv {e : TypeId} {z : ZZ} {ag : Bool} (hz : zeroIs P e z = true) (hi : (match P.info? e with | some i => (match i.zero with | some (.agg _) => ag | some v => !ag && veqs [v] (zx z) | none => false) | none => false) = true) (w : World) : (zeroValue e).run P w = .ok (zv ag z) w := by
 unfold zeroIs at hz
 split at hi
 ·rename_i i hi'
  rw [hi'] at hz
  simp only at hz
  split at hi
  ·rename_i cs hcs
   rw [hcs] at hz
   simp only at hz
   have := veqs_eq hz
   subst hi
   have : cs = ⟨zx z⟩ := by
    obtain ⟨l⟩ := cs
    simp [Value.cells] at this
    rw [this]
   simp [zeroValue, typeInfo, hi', hcs, zv, this]
  ·rename_i v hv1 hv
   simp only [Bool.and_eq_true, Bool.not_eq_true'] at hi
   obtain ⟨rfl, hi⟩ := hi
   have := veqs_eq hi
   simp [zeroValue, typeInfo, hi', hv, zv, ← this]
  ·cases hi
 ·cases hi
theorem ef_me {kt : TypeId} {okp : Value → Prop} (KW : KL P kt okp) {ag : Bool} {z : ZZ} {m k : Operand} {b c : Nat} {key : Value} {es : List MapEntry} (hS : St w0 S0 w L) (i : Nat) (hi : L[i]? = some (obj b (.map ⟨es⟩ c))) (hm : ev T m = some (.map (some b))) (hk : ev T k = some key)
  (hok : okp key) (hes : ∀ e ∈ es, okp e.key) (h1 : (∀ e ∈ es, e.key ≠ key) → ∀ w', St w0 S0 w' (L.set i (obj b (.map ⟨es ++ [⟨key, zv ag z, c⟩]⟩ (c + 1)))) → K (.tuple ⟨[zv ag z, .int .i64 (c : Int)]⟩) w')
  (h2 : ∀ (j : Nat) (e : MapEntry), es[j]? = some e → e.key = key → ∀ w', St w0 S0 w' (L.set i (obj b (.map ⟨es⟩ c))) → K (.tuple ⟨[e.val, .int .i64 (e.born : Int)]⟩) w') : Ef P r (.me kt ag z m k) T w K := by
 have hb : w.heap[b]? = some (.map ⟨es⟩ c) := hS.ok i _ hi
 refine ef_run ?_
 rintro ⟨dst, op, ty, pos, after, guard⟩ ρ hc ha
 cases op <;> simp only [chkO, Bool.false_eq_true, Bool.and_eq_true] at hc
 obtain ⟨⟨e1, e2⟩, hu⟩ := hc
 have e1 := oeq_eq e1; have e2 := oeq_eq e2; subst e1 e2
 split at hu
 ·rename_i k' e' hu'
  simp only [Bool.and_eq_true, decide_eq_true_eq] at hu
  obtain ⟨⟨rfl, hz⟩, hz2⟩ := hu
  have hzv := run_zv hz hz2 w
  rcases KW.find w hok es hes with ⟨hf, hne⟩ | ⟨j, e, hf, hj, he⟩
  ·refine ⟨_, w.putObj b (.map ⟨es ++ [⟨key, zv ag z, c⟩]⟩ (c + 1)), ?_, h1 hne _ (hS.putO i hi _)⟩
   simp only [execOp, Instr.mapEntry, ha.2 _ (by simp [MK.ops]) _ hm, ha.2 _ (by simp [MK.ops]) _ hk, Sem.run_bind, run_underlying hu' w, Result.andThen_ok, run_getO hb rfl, KW.check w false hok, hf, hzv, run_setO _ hb rfl, Sem.run_pure]
   congr 2
   simp
  ·refine ⟨_, w.putObj b (.map ⟨es⟩ c), ?_, h2 j e hj he _ (hS.putO i hi _)⟩
   have hje : (⟨es⟩ : Array MapEntry)[j]? = some e := by simpa using hj
   have hks : (Instr.keyThatStays (((⟨es⟩ : Array MapEntry)[j]?.map (·.key)).getD key) key).run P w = .ok key w := by
    rw [hje]
    show (Instr.keyThatStays e.key key).run P w = _
    rw [he]; exact KW.stays w hok
   have hmod : (⟨es⟩ : Array MapEntry).modify j (fun e => { e with key := key }) = ⟨es⟩ := by
    apply Array.ext'
    rw [Array.toList_modify]
    refine List.ext_getElem? fun i => ?_
    rw [List.getElem?_modify]
    by_cases h : j = i
    ·subst h; simp [hj]; rw [← he]
    ·simp [h]
   simp only [execOp, Instr.mapEntry, ha.2 _ (by simp [MK.ops]) _ hm, ha.2 _ (by simp [MK.ops]) _ hk, Sem.run_bind, run_underlying hu' w, Result.andThen_ok, run_getO hb rfl, KW.check w false hok, hf, hks, hmod, run_setO _ hb rfl, Sem.run_pure]
   rw [hje]
   rfl
 ·cases hu
theorem ef_es {m s v : Operand} {b c n j : Nat} {val : Value} {e : MapEntry} {es : List MapEntry} (hS : St w0 S0 w L) (i : Nat) (hi : L[i]? = some (obj b (.map ⟨es⟩ c))) (hm : ev T m = some (.map (some b))) (hs : ev T s = some (.int .i64 (n : Int))) (hv : ev T v = some val)
  (hj : es[j]? = some e) (he : e.born = n) (hn : ∀ (k : Nat) (e' : MapEntry), k < j → es[k]? = some e' → e'.born ≠ n) (h : ∀ w', St w0 S0 w' (L.set i (obj b (.map ⟨es.set j ⟨e.key, val, e.born⟩⟩ c))) → K undef w') : Ef P r (.es m s v) T w K := by
 have hb : w.heap[b]? = some (.map ⟨es⟩ c) := hS.ok i _ hi
 refine ef_skip ?_
 rintro ⟨dst, op, ty, pos, after, guard⟩ ρ hc ha
 cases op <;> simp only [chkO, Bool.false_eq_true, Bool.and_eq_true] at hc
 obtain ⟨⟨e1, e2⟩, e3⟩ := hc
 have e1 := oeq_eq e1; have e2 := oeq_eq e2; have e3 := oeq_eq e3; subst e1 e2 e3
 have hlt := (List.getElem?_eq_some_iff.1 hj).1
 refine ⟨w.putObj b (.map ⟨es.set j ⟨e.key, val, e.born⟩⟩ c), ?_, h _ (hS.putO i hi _)⟩
 have hfi : (⟨es⟩ : Array MapEntry).findIdx? (fun e => (e.born : Int) == (n : Int)) = some j := by
  show es.toArray.findIdx? _ = _
  rw [List.findIdx?_toArray, List.findIdx?_eq_some_iff_getElem]
  refine ⟨hlt, ?_, fun k hk => ?_⟩
  ·rw [(List.getElem?_eq_some_iff.1 hj).2, he]; simp
  ·have := hn k _ hk (List.getElem?_eq_getElem (by omega))
   simp only [beq_iff_eq, Bool.not_eq_true, beq_eq_false_iff_ne]
   omega
 have hmod : (⟨es⟩ : Array MapEntry).modify j (fun e => { e with val := val }) = ⟨es.set j ⟨e.key, val, e.born⟩⟩ := by
  apply Array.ext'
  rw [Array.toList_modify]
  refine List.ext_getElem? fun i => ?_
  rw [List.getElem?_modify, List.getElem?_set]
  by_cases h : j = i
  ·subst h; rw [hj]; simp [hlt]
  ·simp [h]
 simp only [execOp, Instr.entryStore, ha.2 _ (by simp [MK.ops]) _ hm, ha.2 _ (by simp [MK.ops]) _ hs, ha.2 _ (by simp [MK.ops]) _ hv, Sem.run_bind, Sem.run_pure, Result.andThen_ok, run_getO hb rfl, asInt, asIntOf, hfi, hmod, run_setO _ hb rfl]
end
end Go.En
namespace Go.Proofs.YtfffdhafbbbpcaaGreatDoor
open Go.En
theorem gps_at (Y : List Sb) {i : Nat} (hi : i < Y.length) : (gps Y)[i]'(by unfold gps; rw [List.length_map]; exact hi) = Y[i].g := by unfold gps; rw [List.getElem_map]
def m4 : MC := .sq (.rg [.c 0 (.bool false)]) (.sq (.rg [.o 1 (.al [(16, .int .u32 0), (1, .map none)] 45)]) (.sq (.sq (.rg [.o 27 (.cl 10 [.const (.string ⟨#[98]⟩), .const (.int .i64 0), .const (.int .u8 1), .const (.slice none 0 0)]), .o 28 (.cl 10 [.const (.string ⟨#[97]⟩), .const (.int .i64 1), .const (.int .u8 2), .const (.slice none 0 0)]), .o 29 (.cl 10 [.const (.string ⟨#[98]⟩), .const (.int .i64 2), .const (.int .u8 3), .const (.slice none 0 0)]), .o 30 (.bl 40 52 [.tmp 27, .tmp 28, .tmp 29]), .o 31 (.ln false (.tmp 30)), .c 32 (.int .i64 0)]) (.bk 0 (.lp (.sq (.rg [.o 33 (.cm .lss (.tmp 32) (.tmp 31))]) (.sq (.cd (.tmp 33) (.sk) (.xt 0)) (.sq (.bk 1 (.sq (.rg [.o 34 (.ias (.tmp 30) (.tmp 32) 52), .o 35 (.ld (.tmp 34) (some 52)), .o 3 (.al [(2, .int .i64 0), (16, .int .u32 0), (1, .string ⟨#[]⟩), (1, .bool false), (32, .int .u8 0)] 40), .e (.st (.tmp 3) (.tmp 35) 52)]) (.sq (.rg [.o 36 (.ld (.tmp 3) (some 52)), .o 37 (.cl 11 [.tmp 1, .tmp 36]), .o 38 (.cm .neq (.tmp 37) (.const (.int .i64 0)))]) (.cd (.tmp 38) (.sq (.rg [.c 0 (.bool false)]) (.rt)) (.sk))))) (.rg [.o 39 (.ar .add .i64 (.tmp 32) (.const (.int .i64 1)) true), .t 32 39]))))))) (.sq (.rg [.o 40 (.cl 12 [.tmp 1]), .t 4 40]) (.sq (.rg [.t 41 4, .o 42 (.ln false (.tmp 41)), .o 43 (.cm .eql (.tmp 42) (.const (.int .i64 3))), .t 44 43, .q 45 44 true (.mv (.tmp 4)), .q 46 44 true (.ias (.tmp 45) (.const (.int .i64 0)) 52), .q 47 44 true (.fa (.tmp 46) 18), .q 48 44 true (.ld (.tmp 47) none), .q 49 44 true (.se .eql (.tmp 48) (.const (.string ⟨#[97]⟩))), .o 50 (.pk (.tmp 44) (.tmp 49) (.const (.bool false))), .t 51 50, .q 52 51 true (.mv (.tmp 4)), .q 53 51 true (.ias (.tmp 52) (.const (.int .i64 1)) 52), .q 54 51 true (.fa (.tmp 53) 0), .q 55 51 true (.fa (.tmp 54) 0), .q 56 51 true (.ld (.tmp 55) none), .q 57 51 true (.cm .eql (.tmp 56) (.const (.int .i64 0))), .o 58 (.pk (.tmp 51) (.tmp 57) (.const (.bool false))), .t 59 58, .q 60 59 true (.cl 13 [.tmp 1]), .q 61 59 true (.bd [(16, .int .u32 0)] [(0, 1, .const (.int .u32 1)), (1, 1, .const (.int .u32 1)), (2, 1, .const (.int .u32 1))]), .q 62 59 true (.eqd .eql (List.replicate 16 (.i .u32)) (.tmp 60) (.tmp 61)), .o 63 (.pk (.tmp 59) (.tmp 62) (.const (.bool false))), .t 64 63, .q 65 64 true (.cl 15 [.tmp 1]), .q 66 64 true (.bd [(32, .int .u8 0)] [(0, 1, .const (.int .u8 1))]), .q 67 64 true (.bd [(32, .int .u8 0)] [(0, 1, .const (.int .u8 2))]), .q 68 64 true (.bd [(32, .int .u8 0)] [(0, 1, .const (.int .u8 3))]), .q 69 64 true (.bl 38 32 [.tmp 66, .tmp 67, .tmp 68]), .q 70 64 true (.cl 14 [.tmp 65, .tmp 69]), .o 71 (.pk (.tmp 64) (.tmp 70) (.const (.bool false))), .t 72 71, .q 73 72 true (.cl 16 [.tmp 1, .const (.string ⟨#[98]⟩)]), .q 74 72 true (.ln false (.tmp 73)), .q 75 72 true (.cm .eql (.tmp 74) (.const (.int .i64 2))), .o 76 (.pk (.tmp 72) (.tmp 75) (.const (.bool false))), .t 77 76, .q 78 77 true (.cl 16 [.tmp 1, .const (.string ⟨#[99]⟩)]), .q 79 77 true (.ln false (.tmp 78)), .q 80 77 true (.cm .eql (.tmp 79) (.const (.int .i64 0))), .o 81 (.pk (.tmp 77) (.tmp 80) (.const (.bool false))), .t 82 81, .q 83 82 true (.cl 17 [.tmp 1, .const (.pointer none), .const (.string ⟨#[98]⟩)]), .q 84 82 true (.ln false (.tmp 83)), .q 85 82 true (.cm .eql (.tmp 84) (.const (.int .i64 2))), .o 86 (.pk (.tmp 82) (.tmp 85) (.const (.bool false))), .t 5 86]) (.sq (.rg [.o 87 (.cl 10 [.const (.string ⟨#[98]⟩), .const (.int .i64 0), .const (.int .u8 1), .const (.slice none 0 0)]), .o 88 (.cl 11 [.tmp 1, .tmp 87]), .o 89 (.cl 10 [.const (.string ⟨#[97, 32, 98]⟩), .const (.int .i64 3), .const (.int .u8 1), .const (.slice none 0 0)]), .o 90 (.cl 11 [.tmp 1, .tmp 89]), .o 91 (.bl 22 1 [.const (.int .u32 2)]), .o 92 (.cl 10 [.const (.string ⟨#[98]⟩), .const (.int .i64 3), .const (.int .u8 1), .tmp 91]), .o 93 (.cl 11 [.tmp 1, .tmp 92]), .t 6 88, .t 7 90, .t 8 93]) (.sq (.rg [.o 94 (.cl 18 [.tmp 1]), .t 9 94]) (.sq (.rg [.o 95 (.bl 22 1 [.const (.int .u32 1), .const (.int .u32 1), .const (.int .u32 1)]), .o 96 (.cl 10 [.const (.string ⟨#[98]⟩), .const (.int .i64 1), .const (.int .u8 0), .tmp 95]), .o 97 (.cl 11 [.tmp 1, .tmp 96]), .t 10 97]) (.sq (.rg [.o 98 (.cl 19 [.tmp 1, .const (.pointer none)]), .t 11 98]) (.sq (.rg [.t 99 6, .o 100 (.cm .eql (.tmp 99) (.const (.int .i64 210))), .t 101 100, .q 102 101 true (.mv (.tmp 7)), .q 103 101 true (.cm .eql (.tmp 102) (.const (.int .i64 210))), .o 104 (.pk (.tmp 101) (.tmp 103) (.const (.bool false))), .t 105 104, .q 106 105 true (.mv (.tmp 8)), .q 107 105 true (.cm .eql (.tmp 106) (.const (.int .i64 210))), .o 108 (.pk (.tmp 105) (.tmp 107) (.const (.bool false))), .t 109 108, .q 110 109 true (.mv (.tmp 10)), .q 111 109 true (.cm .eql (.tmp 110) (.const (.int .i64 0))), .o 112 (.pk (.tmp 109) (.tmp 111) (.const (.bool false))), .t 113 112, .q 114 113 true (.mv (.tmp 11)), .q 115 113 true (.ln false (.tmp 114)), .q 116 113 true (.cm .eql (.tmp 115) (.const (.int .i64 1))), .o 117 (.pk (.tmp 113) (.tmp 116) (.const (.bool false))), .t 118 117, .q 119 118 true (.mv (.tmp 11)), .q 120 118 true (.ias (.tmp 119) (.const (.int .i64 0)) 33), .q 121 118 true (.fa (.tmp 120) 0), .q 122 118 true (.ld (.tmp 121) none), .q 123 118 true (.se .eql (.tmp 122) (.const (.string ⟨#[97]⟩))), .o 124 (.pk (.tmp 118) (.tmp 123) (.const (.bool false))), .t 125 124, .q 126 125 true (.cl 16 [.tmp 1, .const (.string ⟨#[98]⟩)]), .q 127 125 true (.ln false (.tmp 126)), .q 128 125 true (.cm .eql (.tmp 127) (.const (.int .i64 1))), .o 129 (.pk (.tmp 125) (.tmp 128) (.const (.bool false))), .t 130 129, .q 131 130 true (.cl 21 [.tmp 1]), .q 132 130 true (.bl 9 1 [.const (.string ⟨#[97]⟩), .const (.string ⟨#[98]⟩)]), .q 133 130 true (.cl 20 [.tmp 131, .tmp 132]), .o 134 (.pk (.tmp 130) (.tmp 133) (.const (.bool false))), .t 135 134, .q 136 135 true (.mv (.tmp 9)), .q 137 135 true (.cl 19 [.tmp 136, .const (.pointer none)]), .q 138 135 true (.ln false (.tmp 137)), .q 139 135 true (.cm .eql (.tmp 138) (.const (.int .i64 3))), .o 140 (.pk (.tmp 135) (.tmp 139) (.const (.bool false))), .t 12 140]) (.sq (.rg [.o 142 (.cl 13 [.tmp 1]), .o 143 (.cl 12 [.tmp 1]), .o 144 (.cl 6 [.tmp 142, .tmp 143]), .t 141 144, .o 145 (.ex (.tmp 141) 0), .o 146 (.ex (.tmp 141) 1), .t 13 145, .t 14 146]) (.sq (.rg [.o 148 (.bd [(16, .int .u32 0)] []), .o 149 (.cl 12 [.tmp 1]), .o 150 (.cl 6 [.tmp 148, .tmp 149]), .t 147 150, .o 151 (.ex (.tmp 147) 0), .o 152 (.ex (.tmp 147) 1), .t 15 151, .t 16 152]) (.sq (.rg [.o 154 (.cl 13 [.tmp 1]), .o 155 (.cl 10 [.const (.string ⟨#[98]⟩), .const (.int .i64 0), .const (.int .u8 1), .const (.slice none 0 0)]), .o 156 (.cl 10 [.const (.string ⟨#[97]⟩), .const (.int .i64 1), .const (.int .u8 2), .const (.slice none 0 0)]), .o 157 (.bl 40 52 [.tmp 155, .tmp 156]), .o 158 (.cl 6 [.tmp 154, .tmp 157]), .t 153 158, .o 159 (.ex (.tmp 153) 0), .o 160 (.ex (.tmp 153) 1), .t 17 159, .t 18 160]) (.sq (.rg [.o 162 (.cl 13 [.tmp 1]), .o 163 (.cl 10 [.const (.string ⟨#[97]⟩), .const (.int .i64 1), .const (.int .u8 2), .const (.slice none 0 0)]), .o 164 (.cl 10 [.const (.string ⟨#[97]⟩), .const (.int .i64 0), .const (.int .u8 1), .const (.slice none 0 0)]), .o 165 (.bl 40 52 [.tmp 163, .tmp 164]), .o 166 (.cl 6 [.tmp 162, .tmp 165]), .t 161 166, .o 167 (.ex (.tmp 161) 0), .o 168 (.ex (.tmp 161) 1), .t 19 167, .t 20 168]) (.sq (.rg [.o 170 (.bd [(16, .int .u32 0)] [(0, 1, .const (.int .u32 0)), (1, 1, .const (.int .u32 1))]), .o 171 (.bl 22 1 [.const (.int .u32 1)]), .o 172 (.cl 10 [.const (.string ⟨#[97]⟩), .const (.int .i64 1), .const (.int .u8 2), .tmp 171]), .o 173 (.bl 40 52 [.tmp 172]), .o 174 (.cl 6 [.tmp 170, .tmp 173]), .t 169 174, .o 175 (.ex (.tmp 169) 0), .o 176 (.ex (.tmp 169) 1), .t 21 175, .t 22 176]) (.sq (.rg [.o 178 (.bd [(16, .int .u32 0)] [(0, 1, .const (.int .u32 7))]), .o 179 (.cl 6 [.tmp 178, .const (.slice none 0 0)]), .t 177 179, .o 180 (.ex (.tmp 177) 0), .o 181 (.ex (.tmp 177) 1), .t 23 180, .t 24 181]) (.sq (.rg [.t 182 14, .o 183 (.cm .eql (.tmp 182) (.const (.int .i64 0))), .t 184 183, .q 185 184 true (.mv (.tmp 13)), .q 186 184 true (.cl 12 [.tmp 185]), .q 187 184 true (.cl 12 [.tmp 1]), .q 188 184 true (.cl 8 [.tmp 186, .tmp 187]), .o 189 (.pk (.tmp 184) (.tmp 188) (.const (.bool false))), .t 190 189, .q 191 190 true (.mv (.tmp 13)), .q 192 190 true (.cl 13 [.tmp 191]), .q 193 190 true (.cl 13 [.tmp 1]), .q 194 190 true (.eqd .eql (List.replicate 16 (.i .u32)) (.tmp 192) (.tmp 193)), .o 195 (.pk (.tmp 190) (.tmp 194) (.const (.bool false))), .t 196 195, .q 197 196 true (.mv (.tmp 16)), .q 198 196 true (.cm .eql (.tmp 197) (.const (.int .i64 210))), .o 199 (.pk (.tmp 196) (.tmp 198) (.const (.bool false))), .t 200 199, .q 201 200 true (.mv (.tmp 18)), .q 202 200 true (.cm .eql (.tmp 201) (.const (.int .i64 210))), .o 203 (.pk (.tmp 200) (.tmp 202) (.const (.bool false))), .t 204 203, .q 205 204 true (.mv (.tmp 20)), .q 206 204 true (.cm .eql (.tmp 205) (.const (.int .i64 210))), .o 207 (.pk (.tmp 204) (.tmp 206) (.const (.bool false))), .t 208 207, .q 209 208 true (.mv (.tmp 22)), .q 210 208 true (.cm .eql (.tmp 209) (.const (.int .i64 210))), .o 211 (.pk (.tmp 208) (.tmp 210) (.const (.bool false))), .t 212 211, .q 213 212 true (.mv (.tmp 24)), .q 214 212 true (.cm .eql (.tmp 213) (.const (.int .i64 0))), .o 215 (.pk (.tmp 212) (.tmp 214) (.const (.bool false))), .t 216 215, .q 217 216 true (.mv (.tmp 23)), .q 218 216 true (.cl 13 [.tmp 217]), .q 219 216 true (.bd [(16, .int .u32 0)] [(0, 1, .const (.int .u32 7))]), .q 220 216 true (.eqd .eql (List.replicate 16 (.i .u32)) (.tmp 218) (.tmp 219)), .o 221 (.pk (.tmp 216) (.tmp 220) (.const (.bool false))), .t 222 221, .q 223 222 true (.mv (.tmp 23)), .q 224 222 true (.cl 21 [.tmp 223]), .q 225 222 true (.ln false (.tmp 224)), .q 226 222 true (.cm .eql (.tmp 225) (.const (.int .i64 0))), .o 227 (.pk (.tmp 222) (.tmp 226) (.const (.bool false))), .t 25 227]) (.sq (.rg [.c 26 (.pointer none)]) (.sq (.rg [.c 228 (.bool true), .q 229 228 true (.cl 22 []), .o 230 (.pk (.tmp 228) (.tmp 229) (.const (.bool false))), .t 231 230, .q 232 231 true (.mv (.tmp 5)), .o 233 (.pk (.tmp 231) (.tmp 232) (.const (.bool false))), .t 234 233, .q 235 234 true (.mv (.tmp 12)), .o 236 (.pk (.tmp 234) (.tmp 235) (.const (.bool false))), .t 237 236, .q 238 237 true (.mv (.tmp 25)), .o 239 (.pk (.tmp 237) (.tmp 238) (.const (.bool false))), .t 240 239, .q 241 240 true (.mv (.tmp 26)), .q 242 240 true (.cl 10 [.const (.string ⟨#[97]⟩), .const (.int .i64 0), .const (.int .u8 1), .const (.slice none 0 0)]), .q 243 240 true (.cl 11 [.tmp 241, .tmp 242]), .q 244 240 true (.cm .eql (.tmp 243) (.const (.int .i64 1))), .o 245 (.pk (.tmp 240) (.tmp 244) (.const (.bool false))), .t 246 245, .q 247 246 true (.mv (.tmp 26)), .q 248 246 true (.cl 13 [.tmp 247]), .q 249 246 true (.bd [(16, .int .u32 0)] []), .q 250 246 true (.eqd .eql (List.replicate 16 (.i .u32)) (.tmp 248) (.tmp 249)), .o 251 (.pk (.tmp 246) (.tmp 250) (.const (.bool false))), .t 252 251, .q 253 252 true (.mv (.tmp 26)), .q 254 252 true (.cl 21 [.tmp 253]), .q 255 252 true (.ln false (.tmp 254)), .q 256 252 true (.mv (.tmp 26)), .q 257 252 true (.cl 12 [.tmp 256]), .q 258 252 true (.ln false (.tmp 257)), .q 259 252 true (.ar .add .i64 (.tmp 255) (.tmp 258) true), .q 260 252 true (.mv (.tmp 26)), .q 261 252 true (.cl 16 [.tmp 260, .const (.string ⟨#[97]⟩)]), .q 262 252 true (.ln false (.tmp 261)), .q 263 252 true (.ar .add .i64 (.tmp 259) (.tmp 262) true), .q 264 252 true (.mv (.tmp 26)), .q 265 252 true (.cl 15 [.tmp 264]), .q 266 252 true (.ln false (.tmp 265)), .q 267 252 true (.ar .add .i64 (.tmp 263) (.tmp 266) true), .q 268 252 true (.mv (.tmp 26)), .q 269 252 true (.cl 17 [.tmp 268, .const (.pointer none), .const (.string ⟨#[97]⟩)]), .q 270 252 true (.ln false (.tmp 269)), .q 271 252 true (.ar .add .i64 (.tmp 267) (.tmp 270) true), .q 272 252 true (.mv (.tmp 26)), .q 273 252 true (.cl 19 [.tmp 272, .const (.pointer none)]), .q 274 252 true (.ln false (.tmp 273)), .q 275 252 true (.ar .add .i64 (.tmp 271) (.tmp 274) true), .q 276 252 true (.cm .eql (.tmp 275) (.const (.int .i64 0))), .o 277 (.pk (.tmp 252) (.tmp 276) (.const (.bool false))), .t 278 277, .q 279 278 true (.mv (.tmp 26)), .q 280 278 true (.cl 18 [.tmp 279]), .q 281 278 true (.pn .eql (.tmp 280)), .o 282 (.pk (.tmp 278) (.tmp 281) (.const (.bool false))), .t 0 282]) (.rt)))))))))))))))))))
theorem k4 : Tryz.f4.body.any (fun c => chkC Tryz.prog c m4 && allD (dlt 283) m4) = true := by kernel_rfl
def m22 : MC := .sq (.rg [.c 0 (.bool false)]) (.sq (.rg [.o 1 (.al [(16, .int .u32 0), (1, .map none)] 45)]) (.sq (.rg [.o 7 (.bl 22 1 [.const (.int .u32 1)]), .o 8 (.cl 10 [.const (.string ⟨#[98]⟩), .const (.int .i64 0), .const (.int .u8 1), .tmp 7]), .o 9 (.cl 11 [.tmp 1, .tmp 8]), .t 2 9]) (.sq (.rg [.o 10 (.cl 10 [.const (.string ⟨#[98]⟩), .const (.int .i64 0), .const (.int .u8 1), .const (.slice none 0 0)]), .o 11 (.cl 11 [.tmp 1, .tmp 10]), .o 12 (.cl 10 [.const (.string ⟨#[97]⟩), .const (.int .i64 1), .const (.int .u8 2), .const (.slice none 0 0)]), .o 13 (.cl 11 [.tmp 1, .tmp 12]), .o 14 (.cl 10 [.const (.string ⟨#[98]⟩), .const (.int .i64 2), .const (.int .u8 3), .const (.slice none 0 0)]), .o 15 (.cl 11 [.tmp 1, .tmp 14]), .t 3 11, .t 4 13, .t 5 15]) (.sq (.rg [.o 16 (.cl 19 [.tmp 1, .const (.pointer none)]), .t 6 16]) (.sq (.rg [.t 17 2, .o 18 (.cm .eql (.tmp 17) (.const (.int .i64 210))), .t 19 18, .q 20 19 true (.mv (.tmp 3)), .q 21 19 true (.cm .eql (.tmp 20) (.const (.int .i64 0))), .o 22 (.pk (.tmp 19) (.tmp 21) (.const (.bool false))), .t 23 22, .q 24 23 true (.mv (.tmp 4)), .q 25 23 true (.cm .eql (.tmp 24) (.const (.int .i64 0))), .o 26 (.pk (.tmp 23) (.tmp 25) (.const (.bool false))), .t 27 26, .q 28 27 true (.mv (.tmp 5)), .q 29 27 true (.cm .eql (.tmp 28) (.const (.int .i64 0))), .o 30 (.pk (.tmp 27) (.tmp 29) (.const (.bool false))), .t 31 30, .q 32 31 true (.cl 21 [.tmp 1]), .q 33 31 true (.bl 9 1 [.const (.string ⟨#[97]⟩), .const (.string ⟨#[98]⟩)]), .q 34 31 true (.cl 20 [.tmp 32, .tmp 33]), .o 35 (.pk (.tmp 31) (.tmp 34) (.const (.bool false))), .t 36 35, .q 37 36 true (.mv (.tmp 6)), .q 38 36 true (.ln false (.tmp 37)), .q 39 36 true (.cm .eql (.tmp 38) (.const (.int .i64 3))), .o 40 (.pk (.tmp 36) (.tmp 39) (.const (.bool false))), .t 41 40, .q 42 41 true (.mv (.tmp 6)), .q 43 41 true (.ias (.tmp 42) (.const (.int .i64 0)) 33), .q 44 41 true (.ld (.tmp 43) (some 33)), .q 45 41 true (.bd [(32, .int .u8 0)] [(0, 1, .const (.int .u8 2))]), .q 46 41 true (.bd [(1, .string ⟨#[]⟩), (32, .int .u8 0)] [(0, 1, .const (.string ⟨#[97]⟩)), (1, 32, .tmp 45)]), .q 47 41 true (.eqd .eql ([.s] ++ List.replicate 32 (.i .u8)) (.tmp 44) (.tmp 46)), .o 48 (.pk (.tmp 41) (.tmp 47) (.const (.bool false))), .t 49 48, .q 50 49 true (.mv (.tmp 6)), .q 51 49 true (.ias (.tmp 50) (.const (.int .i64 1)) 33), .q 52 49 true (.fa (.tmp 51) 1), .q 53 49 true (.ld (.tmp 52) (some 32)), .q 54 49 true (.bd [(32, .int .u8 0)] [(0, 1, .const (.int .u8 1))]), .q 55 49 true (.aq .eql 32 (.tmp 53) (.tmp 54)), .o 56 (.pk (.tmp 49) (.tmp 55) (.const (.bool false))), .t 57 56, .q 58 57 true (.mv (.tmp 6)), .q 59 57 true (.ias (.tmp 58) (.const (.int .i64 2)) 33), .q 60 57 true (.fa (.tmp 59) 1), .q 61 57 true (.ld (.tmp 60) (some 32)), .q 62 57 true (.bd [(32, .int .u8 0)] [(0, 1, .const (.int .u8 3))]), .q 63 57 true (.aq .eql 32 (.tmp 61) (.tmp 62)), .o 64 (.pk (.tmp 57) (.tmp 63) (.const (.bool false))), .t 65 64, .q 66 65 true (.mv (.tmp 6)), .q 67 65 true (.ias (.tmp 66) (.const (.int .i64 1)) 33), .q 68 65 true (.fa (.tmp 67) 0), .q 69 65 true (.ld (.tmp 68) none), .q 70 65 true (.ln true (.tmp 69)), .q 71 65 true (.cm .eql (.tmp 70) (.const (.int .i64 66))), .o 72 (.pk (.tmp 65) (.tmp 71) (.const (.bool false))), .t 0 72]) (.rt))))))
theorem k22 : Tryz.f22.body.any (fun c => chkC Tryz.prog c m22 && allD (dlt 73) m22) = true := by kernel_rfl
def m10 : MC := .sq (.rg [.o 8 (.al [(2, .int .i64 0), (16, .int .u32 0), (1, .string ⟨#[]⟩), (1, .bool false), (32, .int .u8 0)] 40)]) (.sq (.rg [.t 10 0, .t 11 2, .o 12 (.cm .gtr (.tmp 11) (.const (.int .u8 0))), .o 13 (.bd [(2, .int .i64 0), (16, .int .u32 0), (1, .string ⟨#[]⟩), (1, .bool false), (32, .int .u8 0)] [(18, 1, .tmp 10), (19, 1, .tmp 12)]), .o 9 (.al [(2, .int .i64 0), (16, .int .u32 0), (1, .string ⟨#[]⟩), (1, .bool false), (32, .int .u8 0)] 40), .e (.st (.tmp 9) (.tmp 13) 52)]) (.sq (.rg [.t 14 2, .o 15 (.fa (.tmp 9) 20), .o 16 (.iaa (.tmp 15) (.const (.int .i64 0)) 32 1), .e (.st (.tmp 16) (.tmp 14) 1)]) (.sq (.rg [.o 17 (.fa (.tmp 9) 2), .o 18 (.sp (.tmp 17) none none 16 1), .t 19 3, .o 20 (.cp 1 (.tmp 18) (.tmp 19))]) (.sq (.rg [.t 21 1, .t 22 1, .o 23 (.fa (.tmp 9) 2), .o 24 (.iaa (.tmp 23) (.tmp 22) 16 1), .o 25 (.ld (.tmp 24) none), .o 26 (.ci .i64 (.tmp 25)), .o 27 (.ar .add .i64 (.tmp 26) (.const (.int .i64 1)) true), .o 28 (.bd [(2, .int .i64 0)] [(0, 1, .tmp 21), (1, 1, .tmp 27)]), .o 29 (.fa (.tmp 9) 0), .e (.st (.tmp 29) (.tmp 28) 2)]) (.sq (.rg [.o 30 (.ld (.tmp 9) (some 52)), .e (.st (.tmp 8) (.tmp 30) 52)]) (.rt))))))
theorem k10 : Tryz.f10.body.any (fun c => chkC Tryz.prog c m10 && allD (dlt 31) m10) = true := by kernel_rfl
def m11 : MC := .sq (.rg [.o 3 (.bx 40 (.tmp 1)), .c 4 (.int .i64 0)]) (.sq (.sq (.rg [.t 11 0, .o 12 (.pn .eql (.tmp 11))]) (.cd (.tmp 12) (.sq (.rg [.c 4 (.int .i64 1)]) (.rt)) (.sk))) (.sq (.dr [.t 14 0, .o 15 (.nc (.tmp 14)), .o 16 (.fa (.tmp 15) 0), .o 17 (.ld (.tmp 16) (some 16)), .o 18 (.fa (.tmp 3) 0), .o 19 (.ld (.tmp 18) (some 2)), .o 20 (.cl 39 [.tmp 17, .tmp 19]), .t 13 20, .o 21 (.ex (.tmp 13) 0), .o 22 (.ex (.tmp 13) 1), .o 5 (.al [(16, .int .u32 0)] 24), .e (.st (.tmp 5) (.tmp 21) 16), .t 6 22] [0, 1, 3, 7, 0, 16, 63, 127, 255, 255, 0, 1535, 4095] (.q 0 (.q 1 (.q 2 (.q 3 (.q 4 (.q 5 (.alt [.e 6 [] (.q 7 (.q 8 (.q 9 (.e 10 [] (.e 11 [] (.q 12 (.fin))))))), .e 10 [3, 5] (.e 6 [] (.q 7 (.q 8 (.q 9 (.e 11 [] (.q 12 (.fin)))))))])))))))) (.sq (.sq (.dr [.t 23 6, .o 24 (.cm .neq (.tmp 23) (.const (.int .i64 0))), .t 25 24, .q 26 25 false (.ld (.tmp 3) (some 52)), .q 27 25 false (.cl 40 [.tmp 26]), .q 28 25 false (.cm .neq (.tmp 27) (.const (.int .i64 0))), .o 29 (.pk (.tmp 25) (.const (.bool true)) (.tmp 28)), .t 30 29, .q 31 30 false (.fa (.tmp 3) 2), .q 32 30 false (.ld (.tmp 31) (some 16)), .q 33 30 false (.mv (.tmp 0)), .q 34 30 false (.nc (.tmp 33)), .q 35 30 false (.fa (.tmp 34) 0), .q 36 30 false (.ld (.tmp 35) (some 16)), .q 37 30 false (.cl 27 [.tmp 32, .tmp 36]), .q 38 30 false (.nt (.tmp 37)), .o 39 (.pk (.tmp 30) (.const (.bool true)) (.tmp 38))] [0, 1, 3, 7, 15, 31, 63, 127, 255, 511, 255, 1279, 3327, 7423, 16383, 32767, 65535] (.q 0 (.q 1 (.q 2 (.q 3 (.e 4 [] (.q 5 (.q 6 (.q 7 (.q 8 (.q 9 (.q 10 (.q 11 (.q 12 (.q 13 (.e 14 [] (.q 15 (.q 16 (.fin))))))))))))))))))) (.cd (.tmp 39) (.sq (.rg [.c 4 (.int .i64 210)]) (.rt)) (.sk))) (.sq (.dr [.t 41 0, .o 42 (.nc (.tmp 41)), .o 43 (.fa (.tmp 42) 16), .o 44 (.ld (.tmp 43) none), .o 45 (.fa (.tmp 3) 18), .o 46 (.ld (.tmp 45) none), .o 47 (.mlk 9 false [(1, .pointer none)] true (.tmp 44) (.tmp 46)), .t 40 47, .o 48 (.ex (.tmp 40) 0), .o 49 (.ex (.tmp 40) 1), .t 7 48, .t 8 49] [0, 1, 3, 7, 0, 16, 63, 127, 255, 255, 511, 2047] (.q 0 (.q 1 (.q 2 (.q 3 (.q 4 (.q 5 (.e 6 [] (.q 7 (.q 8 (.q 9 (.q 10 (.q 11 (.fin)))))))))))))) (.sq (.sq (.rg [.t 50 8, .o 51 (.nt (.tmp 50))]) (.cd (.tmp 51) (.sq (.rg [.o 53 (.fa (.tmp 3) 18), .o 54 (.ld (.tmp 53) none), .o 55 (.cl 41 [.tmp 54]), .t 52 55, .o 56 (.ex (.tmp 52) 0), .o 57 (.ex (.tmp 52) 1), .t 7 56, .t 6 57]) (.sq (.rg [.t 58 6, .o 59 (.cm .neq (.tmp 58) (.const (.int .i64 0)))]) (.cd (.tmp 59) (.sq (.rg [.c 4 (.int .i64 210)]) (.rt)) (.sk)))) (.sk))) (.sq (.sq (.rg [.t 61 7, .o 62 (.ld (.tmp 3) (some 52)), .o 63 (.cl 42 [.tmp 61, .tmp 62]), .t 60 63, .o 64 (.ex (.tmp 60) 0), .o 65 (.ex (.tmp 60) 1), .t 9 64, .t 10 65]) (.sq (.rg [.t 66 10, .o 67 (.cm .neq (.tmp 66) (.const (.int .i64 0)))]) (.cd (.tmp 67) (.sq (.rg [.c 4 (.int .i64 210)]) (.rt)) (.sk)))) (.sq (.sq (.rg [.t 68 0, .o 69 (.nc (.tmp 68)), .o 70 (.fa (.tmp 69) 16), .o 71 (.ld (.tmp 70) none), .o 72 (.mpn .eql (.tmp 71))]) (.cd (.tmp 72) (.rg [.t 73 0, .o 74 (.mkm), .o 75 (.nc (.tmp 73)), .o 76 (.fa (.tmp 75) 16), .e (.st (.tmp 76) (.tmp 74) 1)]) (.sk))) (.sq (.dr [.t 77 0, .t 78 0, .o 79 (.nc (.tmp 78)), .o 80 (.fa (.tmp 79) 16), .o 81 (.ld (.tmp 80) none), .o 82 (.fa (.tmp 3) 18), .o 83 (.ld (.tmp 82) none), .o 84 (.ld (.tmp 5) (some 16)), .t 85 7, .o 86 (.nc (.tmp 77)), .o 87 (.fa (.tmp 86) 0), .e (.st (.tmp 87) (.tmp 84) 16), .o 88 (.me 9 false [(1, .pointer none)] (.tmp 81) (.tmp 83)), .o 89 (.ex (.tmp 88) 1), .e (.es (.tmp 81) (.tmp 89) (.tmp 85))] [0, 0, 2, 6, 14, 0, 32, 0, 0, 159, 671, 1695, 3839, 7935, 16383] (.q 0 (.q 1 (.q 2 (.q 3 (.q 4 (.q 5 (.q 6 (.q 7 (.q 8 (.q 9 (.q 10 (.e 11 [6] (.e 12 [] (.q 13 (.e 14 [] (.fin))))))))))))))))) (.sq (.rg [.c 4 (.int .i64 0)]) (.rt))))))))))
theorem k11 : Tryz.f11.body.any (fun c => chkC Tryz.prog c m11 && allD (dlt 90) m11) = true := by kernel_rfl
def m18 : MC := .sq (.rg [.c 2 (.pointer none)]) (.sq (.sq (.rg [.t 6 0, .o 7 (.pn .eql (.tmp 6))]) (.cd (.tmp 7) (.sq (.rg [.c 2 (.pointer none)]) (.rt)) (.sk))) (.sq (.rg [.t 8 0, .o 9 (.nc (.tmp 8)), .o 10 (.fa (.tmp 9) 0), .o 11 (.ld (.tmp 10) (some 16)), .o 12 (.mkm), .o 13 (.bd [(16, .int .u32 0), (1, .map none)] [(0, 16, .tmp 11), (16, 1, .tmp 12)]), .o 14 (.bx 45 (.tmp 13)), .t 3 14]) (.sq (.sq (.rg [.t 15 0, .o 16 (.nc (.tmp 15)), .o 17 (.fa (.tmp 16) 16), .o 18 (.ld (.tmp 17) none), .o 19 (.mrg (.tmp 18))]) (.bk 0 (.lp (.sq (.rg [.o 20 (.mnx (.tmp 19)), .o 21 (.ex (.tmp 20) 0)]) (.sq (.cd (.tmp 21) (.sk) (.xt 0)) (.bk 1 (.sq (.rg [.o 22 (.men (.tmp 19)), .o 23 (.ex (.tmp 22) 0), .o 24 (.ex (.tmp 22) 1), .t 4 23, .t 5 24]) (.dr [.t 25 3, .o 26 (.nc (.tmp 25)), .o 27 (.fa (.tmp 26) 16), .o 28 (.ld (.tmp 27) none), .t 29 4, .t 30 5, .o 31 (.cl 49 [.tmp 30]), .e (.mup 9 (.tmp 28) (.tmp 29) (.tmp 31))] [0, 1, 3, 7, 0, 0, 32, 127] (.q 0 (.q 1 (.q 2 (.q 3 (.q 4 (.q 5 (.e 6 [3] (.e 7 [] (.fin))))))))))))))))) (.sq (.rg [.t 32 3, .t 2 32]) (.rt)))))
theorem k18 : Tryz.f18.body.any (fun c => chkC Tryz.prog c m18 && allD (dlt 33) m18) = true := by kernel_rfl
def m39 : MC := .sq (.rg [.o 2 (.bx 24 (.tmp 0)), .o 3 (.bx 36 (.tmp 1)), .o 4 (.al [(16, .int .u32 0)] 24), .c 5 (.int .i64 0)]) (.sq (.sq (.rg [.o 9 (.ld (.tmp 3) (some 2)), .o 10 (.cl 59 [.tmp 9]), .t 6 10]) (.sq (.rg [.t 11 6, .o 12 (.cm .neq (.tmp 11) (.const (.int .i64 0)))]) (.cd (.tmp 12) (.sq (.rg [.o 13 (.bd [(16, .int .u32 0)] []), .t 14 6, .e (.st (.tmp 4) (.tmp 13) 16), .t 5 14]) (.rt)) (.sk)))) (.sq (.sq (.rg [.o 16 (.ld (.tmp 2) (some 16)), .o 17 (.fa (.tmp 3) 0), .o 18 (.ld (.tmp 17) none), .o 19 (.cl 71 [.tmp 16, .tmp 18]), .t 15 19, .o 20 (.ex (.tmp 15) 0), .o 21 (.ex (.tmp 15) 1), .o 7 (.al [(2, .int .i64 0)] 36), .e (.st (.tmp 7) (.tmp 20) 2), .t 8 21]) (.sq (.rg [.t 22 8, .o 23 (.cm .neq (.tmp 22) (.const (.int .i64 0))), .t 24 23, .q 25 24 false (.ld (.tmp 7) (some 2)), .q 26 24 false (.ld (.tmp 3) (some 2)), .q 27 24 false (.eqd .neq (List.replicate 2 (.i .i64)) (.tmp 25) (.tmp 26)), .o 28 (.pk (.tmp 24) (.const (.bool true)) (.tmp 27))]) (.cd (.tmp 28) (.sq (.rg [.o 29 (.bd [(16, .int .u32 0)] []), .e (.st (.tmp 4) (.tmp 29) 16), .c 5 (.int .i64 61)]) (.rt)) (.sk)))) (.sq (.rg [.o 30 (.fa (.tmp 3) 0), .o 31 (.ld (.tmp 30) none), .o 32 (.iaa (.tmp 2) (.tmp 31) 16 1), .o 33 (.ld (.tmp 32) none), .o 34 (.ar .add .u32 (.tmp 33) (.const (.int .u32 1)) false), .o 35 (.iaa (.tmp 2) (.tmp 31) 16 1), .e (.st (.tmp 35) (.tmp 34) 1)]) (.sq (.rg [.o 36 (.ld (.tmp 2) (some 16)), .e (.st (.tmp 4) (.tmp 36) 16), .c 5 (.int .i64 0)]) (.rt)))))
theorem k39 : Tryz.f39.body.any (fun c => chkC Tryz.prog c m39 && allD (dlt 37) m39) = true := by kernel_rfl
def m71 : MC := .sq (.rg [.o 2 (.bx 24 (.tmp 0)), .o 4 (.al [(2, .int .i64 0)] 36), .c 5 (.int .i64 0)]) (.sq (.bk 0 (.sq (.rg [.t 7 1, .o 8 (.cm .lss (.tmp 7) (.const (.int .i64 0))), .t 9 8, .q 10 9 false (.mv (.tmp 1)), .q 11 9 false (.cm .geq (.tmp 10) (.const (.int .i64 16))), .o 12 (.pk (.tmp 9) (.const (.bool true)) (.tmp 11)), .t 6 12]) (.cd (.tmp 6) (.sq (.rg [.o 13 (.bd [(2, .int .i64 0)] []), .e (.st (.tmp 4) (.tmp 13) 2), .c 5 (.int .i64 50)]) (.rt)) (.sq (.rg [.t 15 1, .o 16 (.iaa (.tmp 2) (.tmp 15) 16 1), .o 17 (.ld (.tmp 16) none), .o 18 (.cm .eql (.tmp 17) (.const (.int .u32 4294967295))), .t 14 18]) (.cd (.tmp 14) (.sq (.rg [.o 19 (.bd [(2, .int .i64 0)] []), .e (.st (.tmp 4) (.tmp 19) 2), .c 5 (.int .i64 60)]) (.rt)) (.sk)))))) (.sq (.rg [.t 20 1, .t 21 1, .o 22 (.iaa (.tmp 2) (.tmp 21) 16 1), .o 23 (.ld (.tmp 22) none), .o 24 (.ci .i64 (.tmp 23)), .o 25 (.ar .add .i64 (.tmp 24) (.const (.int .i64 1)) true), .o 26 (.bd [(2, .int .i64 0)] [(0, 1, .tmp 20), (1, 1, .tmp 25)]), .e (.st (.tmp 4) (.tmp 26) 2), .c 5 (.int .i64 0)]) (.rt)))
theorem k71 : Tryz.f71.body.any (fun c => chkC Tryz.prog c m71 && allD (dlt 27) m71) = true := by kernel_rfl
def m41 : MC := .sq (.rg [.c 2 (.pointer none), .c 3 (.int .i64 0)]) (.sq (.sq (.rg [.t 5 0, .o 6 (.cl 72 [.tmp 5]), .t 4 6]) (.sq (.rg [.t 7 4, .o 8 (.cm .neq (.tmp 7) (.const (.int .i64 0)))]) (.cd (.tmp 8) (.sq (.rg [.t 9 4, .c 2 (.pointer none), .t 3 9]) (.rt)) (.sk)))) (.sq (.rg [.t 10 0, .o 11 (.bd [(1, .string ⟨#[]⟩), (1, .slice none 0 0)] [(0, 1, .tmp 10)]), .o 12 (.bx 109 (.tmp 11)), .t 2 12, .c 3 (.int .i64 0)]) (.rt)))
theorem k41 : Tryz.f41.body.any (fun c => chkC Tryz.prog c m41 && allD (dlt 13) m41) = true := by kernel_rfl
def m42 : MC := .sq (.rg [.o 3 (.bx 40 (.tmp 1)), .c 4 (.int .i64 0), .c 5 (.int .i64 0)]) (.sq (.rg [.o 9 (.mf 73 [] [.tmp 3]), .t 6 9]) (.sq (.bk 0 (.sq (.rg [.t 11 0, .o 12 (.cl 74 [.tmp 11]), .t 10 12]) (.cd (.tmp 10) (.sq (.rg [.c 4 (.int .i64 0), .c 5 (.int .i64 1)]) (.rt)) (.sq (.dr [.o 14 (.ld (.tmp 3) (some 52)), .o 15 (.cl 40 [.tmp 14]), .o 16 (.cm .neq (.tmp 15) (.const (.int .i64 0))), .t 17 16, .q 18 17 false (.fa (.tmp 3) 18), .q 19 17 false (.ld (.tmp 18) none), .q 20 17 false (.mv (.tmp 0)), .q 21 17 false (.nc (.tmp 20)), .q 22 17 false (.fa (.tmp 21) 0), .q 23 17 false (.ld (.tmp 22) none), .q 24 17 false (.se .neq (.tmp 19) (.tmp 23)), .o 25 (.pk (.tmp 17) (.const (.bool true)) (.tmp 24)), .t 26 25, .q 27 26 false (.mv (.tmp 0)), .q 28 26 false (.nc (.tmp 27)), .q 29 26 false (.fa (.tmp 28) 1), .q 30 26 false (.ld (.tmp 29) none), .q 31 26 false (.mv (.tmp 6)), .q 32 26 false (.cl 28 [.tmp 30, .tmp 31]), .o 33 (.pk (.tmp 26) (.const (.bool true)) (.tmp 32)), .t 13 33] [0, 1, 3, 7, 15, 31, 15, 79, 207, 463, 1023, 2047, 4095, 8191, 16383, 32767, 65535, 8191, 262143, 524287, 1048575] (.q 0 (.e 1 [] (.q 2 (.q 3 (.q 4 (.q 5 (.q 6 (.q 7 (.q 8 (.q 9 (.q 10 (.q 11 (.q 12 (.q 13 (.q 14 (.q 15 (.q 16 (.q 17 (.e 18 [] (.q 19 (.q 20 (.fin))))))))))))))))))))))) (.cd (.tmp 13) (.sq (.rg [.c 4 (.int .i64 0), .c 5 (.int .i64 190)]) (.rt)) (.sk)))))) (.sq (.dr [.t 34 0, .o 35 (.nc (.tmp 34)), .o 36 (.fa (.tmp 35) 1), .o 37 (.ld (.tmp 36) none), .o 38 (.ld (.tmp 3) (some 52)), .o 39 (.mf 75 [.tmp 38] []), .o 40 (.cl 28 [.tmp 37, .tmp 39]), .t 7 40] [0, 1, 3, 7, 0, 16, 63, 127] (.q 0 (.q 1 (.q 2 (.q 3 (.q 4 (.q 5 (.e 6 [] (.q 7 (.fin)))))))))) (.sq (.rg [.t 41 0, .o 42 (.nc (.tmp 41)), .o 43 (.fa (.tmp 42) 1), .o 44 (.ld (.tmp 43) none), .o 45 (.ln false (.tmp 44)), .t 8 45]) (.sq (.rg [.t 46 0, .t 47 0, .o 48 (.ld (.tmp 3) (some 52)), .o 49 (.cl 77 [.tmp 47, .tmp 48]), .o 50 (.cl 76 [.tmp 49]), .o 51 (.nc (.tmp 46)), .o 52 (.fa (.tmp 51) 1), .e (.st (.tmp 52) (.tmp 50) 1)]) (.sq (.rg [.t 53 8, .t 54 0, .o 55 (.nc (.tmp 54)), .o 56 (.fa (.tmp 55) 1), .o 57 (.ld (.tmp 56) none), .o 58 (.ln false (.tmp 57)), .o 59 (.ar .sub .i64 (.tmp 53) (.tmp 58) true), .t 4 59]) (.sq (.sq (.rg [.t 60 7, .o 61 (.nt (.tmp 60))]) (.cd (.tmp 61) (.sq (.dr [.t 62 0, .t 63 0, .o 64 (.nc (.tmp 63)), .o 65 (.fa (.tmp 64) 1), .o 66 (.ld (.tmp 65) none), .o 67 (.ld (.tmp 3) (some 52)), .o 68 (.bl 40 52 [.tmp 67]), .o 69 (.ap 40 52 136 [(2, .int .i64 0), (16, .int .u32 0), (1, .string ⟨#[]⟩), (1, .bool false), (32, .int .u8 0)] (.tmp 66) (.tmp 68)), .o 70 (.nc (.tmp 62)), .o 71 (.fa (.tmp 70) 1), .e (.st (.tmp 71) (.tmp 69) 1)] [0, 0, 2, 6, 14, 0, 32, 126, 255, 511, 1023] (.q 0 (.q 1 (.q 2 (.q 3 (.q 4 (.q 5 (.e 6 [4] (.e 7 [] (.q 8 (.q 9 (.e 10 [] (.fin))))))))))))) (.rg [.t 72 0, .o 73 (.nc (.tmp 72)), .o 74 (.fa (.tmp 73) 1), .o 75 (.ld (.tmp 74) none), .o 76 (.cl 78 [.tmp 75, .func 79])])) (.sk))) (.sq (.rg [.t 77 4, .t 4 77, .c 5 (.int .i64 0)]) (.rt)))))))))
theorem k42 : Tryz.f42.body.any (fun c => chkC Tryz.prog c m42 && allD (dlt 78) m42) = true := by kernel_rfl
def m73 : MC := .sq (.rg [.o 2 (.bx 40 (.tmp 0)), .c 3 (.bool false)]) (.sq (.rg [.o 4 (.fa (.tmp 2) 0), .o 5 (.ld (.tmp 4) (some 2)), .o 6 (.fa (.tmp 1) 0), .o 7 (.ld (.tmp 6) (some 2)), .o 8 (.eqd .eql (List.replicate 2 (.i .i64)) (.tmp 5) (.tmp 7)), .t 3 8]) (.rt))
theorem k73 : Tryz.f73.body.any (fun c => chkC Tryz.prog c m73 && allD (dlt 9) m73) = true := by kernel_rfl
def m79 : MC := .sq (.rg [.o 2 (.bx 40 (.tmp 0)), .o 3 (.bx 40 (.tmp 1)), .c 4 (.int .i64 0)]) (.sq (.rg [.o 5 (.fa (.tmp 2) 0), .o 6 (.ld (.tmp 5) (some 2)), .o 7 (.fa (.tmp 3) 0), .o 8 (.ld (.tmp 7) (some 2)), .o 9 (.cl 56 [.tmp 6, .tmp 8]), .t 4 9]) (.rt))
theorem k79 : Tryz.f79.body.any (fun c => chkC Tryz.prog c m79 && allD (dlt 10) m79) = true := by kernel_rfl
def m49 : MC := .sq (.rg [.c 2 (.pointer none)]) (.sq (.sq (.rg [.t 3 0, .o 4 (.cl 74 [.tmp 3])]) (.cd (.tmp 4) (.sq (.rg [.c 2 (.pointer none)]) (.rt)) (.sk))) (.sq (.dr [.t 5 0, .o 6 (.nc (.tmp 5)), .o 7 (.fa (.tmp 6) 0), .o 8 (.ld (.tmp 7) none), .t 9 0, .o 10 (.nc (.tmp 9)), .o 11 (.fa (.tmp 10) 1), .o 12 (.ld (.tmp 11) none), .o 13 (.cl 58 [.tmp 12]), .o 14 (.bd [(1, .string ⟨#[]⟩), (1, .slice none 0 0)] [(0, 1, .tmp 8), (1, 1, .tmp 13)]), .o 15 (.bx 109 (.tmp 14)), .t 2 15] [0, 1, 3, 7, 0, 16, 48, 112, 240, 511, 1023, 2047] (.q 0 (.q 1 (.q 2 (.q 3 (.q 4 (.q 5 (.q 6 (.q 7 (.e 8 [3] (.q 9 (.e 10 [] (.q 11 (.fin)))))))))))))) (.rt)))
theorem k49 : Tryz.f49.body.any (fun c => chkC Tryz.prog c m49 && allD (dlt 16) m49) = true := by kernel_rfl
def m77 : MC := .sq (.rg [.o 2 (.bx 67 (.tmp 0)), .o 3 (.bx 106 (.tmp 1)), .c 4 (.nilFunc)]) (.sq (.rg [.o 6 (.ld (.tmp 3) (some 52)), .o 7 (.mf 57 [.tmp 6] []), .o 5 (.al [(1, .nilFunc)] 72), .e (.st (.tmp 5) (.tmp 7) 1)]) (.sq (.rg [.o 8 (.mf 111 [] [.tmp 2, .tmp 5]), .t 4 8]) (.rt)))
theorem k77 : Tryz.f77.body.any (fun c => chkC Tryz.prog c m77 && allD (dlt 9) m77) = true := by kernel_rfl
def m111 : MC := .sc (.sq (.lb 0) (.sq (.rg [.o 6 (.ld (.tmp 1) none), .o 7 (.nc (.tmp 6)), .o 8 (.fa (.tmp 7) 1), .o 9 (.ld (.tmp 8) none), .o 10 (.ln false (.tmp 9)), .c 11 (.int .i64 0)]) (.bk 0 (.lp (.sq (.rg [.o 12 (.cm .lss (.tmp 11) (.tmp 10))]) (.sq (.cd (.tmp 12) (.sk) (.xt 0)) (.sq (.bk 1 (.sq (.rg [.o 13 (.ias (.tmp 9) (.tmp 11) 52), .o 14 (.ld (.tmp 13) (some 52)), .o 5 (.al [(2, .int .i64 0), (16, .int .u32 0), (1, .string ⟨#[]⟩), (1, .bool false), (32, .int .u8 0)] 40), .e (.st (.tmp 5) (.tmp 14) 52)]) (.sq (.sq (.rg [.o 15 (.ld (.tmp 2) none), .o 16 (.ld (.tmp 5) (some 52)), .o 17 (.cv (.tmp 15) [.tmp 16])]) (.cd (.tmp 17) (.xt 1) (.sk))) (.sq (.rg [.t 18 0, .o 19 (.ld (.tmp 5) (some 52)), .o 20 (.cv (.tmp 18) [.tmp 19]), .o 21 (.nt (.tmp 20))]) (.cd (.tmp 21) (.rt) (.sk)))))) (.rg [.o 22 (.ar .add .i64 (.tmp 11) (.const (.int .i64 1)) true), .t 11 22]))))))))
theorem k111 : Tryz.f111.body.any (fun c => chkC Tryz.prog c m111 && allD (dlt 23) m111) = true := by kernel_rfl
def m75 : MC := .sq (.rg [.o 2 (.bx 106 (.tmp 0)), .o 3 (.bx 40 (.tmp 1)), .c 4 (.bool false)]) (.sq (.rg [.o 5 (.ld (.tmp 3) (some 52)), .o 6 (.ld (.tmp 2) (some 52)), .o 7 (.cl 96 [.tmp 5, .tmp 6]), .t 4 7]) (.rt))
theorem k75 : Tryz.f75.body.any (fun c => chkC Tryz.prog c m75 && allD (dlt 8) m75) = true := by kernel_rfl
def m76 : MC := .sq (.rg [.c 2 (.slice none 0 0)]) (.sq (.rg [.t 3 0, .o 4 (.cl 110 [.const (.slice none 0 0), .tmp 3]), .t 2 4]) (.rt))
theorem k76 : Tryz.f76.body.any (fun c => chkC Tryz.prog c m76 && allD (dlt 5) m76) = true := by kernel_rfl
def m110u0 : MC := .rg [.o 5 (.al [(2, .int .i64 0), (16, .int .u32 0), (1, .string ⟨#[]⟩), (1, .bool false), (32, .int .u8 0)] 40), .e (.st (.tmp 5) (.tmp 7) 52)]
def m110v0 : MC := .bk 1 (.rg [.o 8 (.ld (.tmp 2) none), .o 9 (.ld (.tmp 5) (some 52)), .o 10 (.bl 40 52 [.tmp 9]), .o 11 (.ap 40 52 136 [(2, .int .i64 0), (16, .int .u32 0), (1, .string ⟨#[]⟩), (1, .bool false), (32, .int .u8 0)] (.tmp 8) (.tmp 10)), .e (.st (.tmp 2) (.tmp 11) 1)])
def m110 : MC := .sq (.rg [.o 2 (.bx 25 (.tmp 0)), .c 4 (.slice none 0 0)]) (.sq (.sq (.rg [.t 6 1]) (.bk 0 (.rf (.tmp 6) [7] m110u0 m110v0))) (.sq (.rg [.o 12 (.ld (.tmp 2) none), .t 4 12]) (.rt)))
theorem k110 : Tryz.f110.body.any (fun c => chkC Tryz.prog c m110 && allD (dlt 13) m110) = true := by kernel_rfl
def ctxR (C : List Nat) : List Nat := C ++ List.replicate (16 - C.length) 0
theorem ctxR_len {C : List Nat} (h : C.length ≤ 16) : (ctxR C).length = 16 := by unfold ctxR; rw [List.length_append, List.length_replicate]; omega
theorem ctxR_lt {C : List Nat} (h : ∀ y ∈ C, y < 4294967296) : ∀ y ∈ ctxR C, y < 4294967296 := fun y hy => by
 unfold ctxR at hy
 rcases List.mem_append.1 hy with hy | hy
 ·exact h y hy
 ·rw [List.eq_of_mem_replicate hy]; decide
theorem getD_lt {x : List Nat} (h : ∀ y ∈ x, y < 4294967296) (n : Nat) : x.getD n 0 < 4294967296 := by
 rw [List.getD_eq_getElem?_getD]
 by_cases hn : n < x.length
 ·rw [List.getElem?_eq_getElem hn]; exact h _ (List.getElem_mem hn)
 ·rw [List.getElem?_eq_none (by omega)]; decide
def mkR (s : Bs) (n : Nat) (t : UInt8) (C : List Nat) (hC : C.length ≤ 16) (hb : ∀ y ∈ C, y < 4294967296) (hn : n < 16) : Rec :=
 ⟨n, ((ctxR C).getD n 0 : Nat) + 1, ctxR C, s, decide (0 < t), t :: List.replicate 31 0, ctxR_len hC, rfl, ctxR_lt hb, ⟨by omega, by omega⟩, by have := getD_lt (ctxR_lt hb) n; omega⟩
def vAdd (x : List Nat) (a b : Int) : Option (List Nat) := if dotB a b = true ∧ x.getD a.toNat 0 ≠ 4294967295 ∧ b = (x.getD a.toNat 0 : Nat) + 1 then some (x.set a.toNat (x.getD a.toNat 0 + 1)) else none
theorem u4_get {x : List Nat} {n : Nat} (h : n < x.length) : (u4 x)[0 + n * 1]? = some (.int .u32 ((x.getD n 0 : Nat) : Int)) := by
 rw [List.getD_eq_getElem?_getD, List.getElem?_eq_getElem h]
 exact u4_at h
section
variable {w w0 : World} {S0 : Nat → Prop} {L B : List Res} {K : Value → World → Prop} {s : Bs} {E0 E1 : Nat}
set_option maxHeartbeats 2000000 in
theorem c_of {n : Nat} {t : UInt8} {C : List Nat} {v : Value} (hC : C.length ≤ 16) (hb : ∀ y ∈ C, y < 4294967296) (hn : n < 16) (hr : Rd v E0 1 C.length (u4 C) w) (h : ∀ w', St w (fun _ => False) w' [] → K (.agg ⟨rc (mkR s n t C hC hb hn)⟩) w') : CK Tryz.prog 10 [sv s, .int .i64 n, .int .u8 (t.toNat : Int), v] w K := by
 have hS := St.nil w (fun _ => False)
 have hrr : ∀ {L : List Res} {w' : World}, St w (fun _ => False) w' L → Rd v E0 1 C.length (u4 C) w' := fun hS => hr.same fun b hb => hS.fr.kept b (hr.lt b hb) (fun h => h)
 obtain ⟨a, c, rfl⟩ := hr.form
 have lz : (zx zRc).length = 52 := by decide
 refine call_k Tryz.func10 k10 Tryz.ntmps10 (Nat.le_of_ble_eq_true rfl) ?_
 refine gW ?_
 refine g_ef rfl (ef_al hS fun b8 w1 hS => ?_)
 refine gW ?_
 have eq0 : cmv .gtr (t.toNat : Int) 0 = decide (0 < t) := by
  simp only [cmv]
  refine decide_eq_decide.2 ⟨fun h => ?_, fun h => ?_⟩
  ·exact UInt8.lt_iff_toNat_lt.2 (by show 0 < t.toNat; omega)
  ·have := UInt8.lt_iff_toNat_lt.1 h
   have : 0 < t.toNat := this
   omega
 rw [eq0]
 refine g_ef rfl (ef_al hS fun b9 w1 hS => ?_)
 refine g_ef0 rfl (ef_st hS 1 rfl rfl rfl rfl (by rw [lz]; decide) rfl fun w1 hS => ?_)
 replace hS : St w (fun _ => False) w1 [cel b8 (zx zRc) 40, cel b9 ([.int .i64 0, .int .i64 0] ++ (List.replicate 16 (.int .u32 0) ++ (sv s :: .bool (decide (0 < t)) :: List.replicate 32 (.int .u8 0)))) 40] := hS.ceq 1 rfl rfl
 refine gW ?_
 refine g_rq rfl rfl (by decide) ?_
 refine g_ef0 rfl (ef_st hS 1 rfl rfl rfl rfl (Nat.le_of_ble_eq_true rfl) rfl fun w1 hS => ?_)
 have e1 : bys (t :: List.replicate 31 0) = .int .u8 (t.toNat : Int) :: List.replicate 31 (.int .u8 0) := rfl
 replace hS : St w (fun _ => False) w1 [cel b8 (zx zRc) 40, cel b9 ([.int .i64 0, .int .i64 0] ++ (List.replicate 16 (.int .u32 0) ++ (sv s :: .bool (decide (0 < t)) :: bys (t :: List.replicate 31 0)))) 40] := hS.ceq 1 rfl rfl
 refine gW ?_
 refine g_qt rfl (qt_sp rfl rfl rfl ⟨by decide, by decide, by decide⟩) ?_
 refine gW ?_
 refine g_ef rfl (ef_cp (sz := 1) (n := 16) (m := C.length) (off := 2) (ys := u4 C) hS 1 rfl rfl rfl (.inl ⟨_, hrr hS⟩) (Nat.le_of_ble_eq_true rfl) (u4_one _) fun w1 hS => ?_)
 have e2 : (u4 C).take (min C.length 16 * 1) = u4 C := List.take_of_length_le (by rw [u4_len]; omega)
 rw [e2] at hS
 have e3 := spl_app [.int .i64 0, .int .i64 0] (List.replicate 16 (Value.int .u32 0)) (sv s :: .bool (decide (0 < t)) :: bys (t :: List.replicate 31 0)) (u4 C) (by rw [u4_len, List.length_replicate]; exact hC)
 have e4 : u4 C ++ (List.replicate 16 (Value.int .u32 0)).drop (u4 C).length = u4 (ctxR C) := by
  unfold ctxR u4
  rw [List.map_append, List.map_replicate, List.drop_replicate, List.length_map]
  rfl
 rw [e4] at e3
 replace hS : St w (fun _ => False) w1 [cel b8 (zx zRc) 40, cel b9 ([.int .i64 0, .int .i64 0] ++ (u4 (ctxR C) ++ (sv s :: .bool (decide (0 < t)) :: bys (t :: List.replicate 31 0)))) 40] := hS.ceq 1 rfl e3
 have lc := ctxR_len hC
 have hx := getD_lt (ctxR_lt hb) n
 have h52 : (([.int .i64 0, .int .i64 0] : List Value) ++ (u4 (ctxR C) ++ (sv s :: .bool (decide (0 < t)) :: bys (t :: List.replicate 31 0)))).length = 52 := by
  simp [u4_len, lc, bys_length]
 have hl : (([.int .i64 0, .int .i64 0] : List Value) ++ (u4 (ctxR C) ++ (sv s :: .bool (decide (0 < t)) :: bys (t :: List.replicate 31 0))))[0 + 2 + (n : Int).toNat * 1]? = some (.int .u32 (((ctxR C).getD n 0 : Nat) : Int)) := by
  rw [Int.toNat_natCast, List.getElem?_append_right (by simp), List.getElem?_append_left (by rw [u4_len, lc]; simp; omega), ← u4_get (by omega)]
  congr 1
  simp
 refine gW ?_
 refine g_rq rfl rfl ⟨by omega, by omega⟩ ?_
 refine g_l1 rfl rfl (hS.b 1 rfl) hl ?_
 refine gW ?_
 rw [show IntKind.i64.wrap (((ctxR C).getD n 0 : Nat) : Int) = (((ctxR C).getD n 0 : Nat) : Int) from wrap_in (in64 (by omega))]
 refine g_rq rfl rfl (in64 (by simp only [arv]; omega)) ?_
 refine gW ?_
 refine g_ef0 rfl (ef_st hS 1 rfl rfl rfl rfl (by rw [h52]; decide) rfl fun w1 hS => ?_)
 replace hS : St w (fun _ => False) w1 [cel b8 (zx zRc) 40, cel b9 (rc (mkR s n t C hC hb hn)) 40] := hS.ceq 1 rfl rfl
 refine gW ?_
 refine g_lm rfl rfl (hS.b 1 rfl) (Nat.le_of_eq (by rw [rc_len])) ?_
 rw [List.drop_zero, List.take_of_length_le (Nat.le_of_eq (rc_len _))]
 refine g_ef0 rfl (ef_st hS 0 rfl rfl rfl (rc_len _) (by rw [lz]; decide) (List.all_eq_true.2 (rc_one _)) fun w1 hS => ?_)
 replace hS := hS.ceq (l' := rc (mkR s n t C hC hb hn)) 0 rfl (spl_full' _ _ (by show (rc _).length = _; rw [rc_len, lz]))
 refine gW ?_
 refine g_ret (q_c1 (n := 52) rfl (by kernel_rfl) (hS.b 0 rfl) (Nat.le_of_eq (by rw [rc_len])) ?_)
 rw [List.drop_zero, List.take_of_length_le (Nat.le_of_eq (rc_len _))]
 exact h _ (hS.sel [] rfl rfl)
set_option maxHeartbeats 1000000 in
theorem b_Next {x : List Nat} {n : Nat} (hx : x.length = 16) (hxb : ∀ y ∈ x, y < 4294967296) (hn : n < 16) (h1 : x.getD n 0 = 4294967295 → ∀ w', St w (fun _ => False) w' [] → K (.tuple ⟨[.agg ⟨dc 0 0⟩, .int .i64 60]⟩) w')
  (h2 : x.getD n 0 ≠ 4294967295 → ∀ w', St w (fun _ => False) w' [] → K (.tuple ⟨[.agg ⟨dc n ((x.getD n 0 : Nat) + 1)⟩, .int .i64 0]⟩) w') : CK Tryz.prog 71 [.agg ⟨u4 x⟩, .int .i64 n] w K := by
 have hS := St.nil w (fun _ => False)
 have hb := getD_lt hxb n
 have hl : (u4 x)[0 + (n : Int).toNat * 1]? = some (.int .u32 ((x.getD n 0 : Nat) : Int)) := by rw [Int.toNat_natCast]; exact u4_get (by omega)
 refine call_k Tryz.func71 k71 Tryz.ntmps71 (Nat.le_of_ble_eq_true rfl) ?_
 refine gW ?_
 refine g_ef rfl (ef_bx hS rfl fun b2 w1 hS => ?_)
 refine gW ?_
 refine g_ef rfl (ef_al hS fun b4 w1 hS => ?_)
 replace hS : St w (fun _ => False) w1 [cel b2 (u4 x) 24, cel b4 (dc 0 0) 36] := hS
 refine gW ?_
 rw [show cmv .geq (n : Int) 16 = false from decide_eq_false (by omega)]
 refine gW ?_
 refine g_rq rfl rfl ⟨by omega, by omega⟩ ?_
 refine g_l1 rfl rfl (hS.b 0 rfl) hl ?_
 refine gW ?_
 by_cases e : x.getD n 0 = 4294967295
 ·rw [show cmv .eql ((x.getD n 0 : Nat) : Int) 4294967295 = true from decide_eq_true (by omega)]
  refine gW ?_
  refine g_ef0 rfl (ef_st hS 1 rfl rfl rfl rfl (Nat.le_of_ble_eq_true rfl) rfl fun w1 hS => ?_)
  replace hS := hS.ceq (l' := dc 0 0) 1 rfl rfl
  refine gW ?_
  exact g_ret (q_c2 (n := 2) rfl (by kernel_rfl) (hS.b 1 rfl) (Nat.le_of_ble_eq_true rfl) rfl (h1 e _ (hS.sel [] rfl rfl)))
 ·rw [show cmv .eql ((x.getD n 0 : Nat) : Int) 4294967295 = false from decide_eq_false (by omega)]
  refine gW ?_
  refine g_rq rfl rfl ⟨by omega, by omega⟩ ?_
  refine g_l1 rfl rfl (hS.b 0 rfl) hl ?_
  refine gW ?_
  rw [show IntKind.i64.wrap ((x.getD n 0 : Nat) : Int) = ((x.getD n 0 : Nat) : Int) from wrap_in (in64 (by omega))]
  refine g_rq rfl rfl (in64 (by simp only [arv]; omega)) ?_
  refine gW ?_
  refine g_ef0 rfl (ef_st hS 1 rfl rfl rfl rfl (Nat.le_of_ble_eq_true rfl) rfl fun w1 hS => ?_)
  replace hS := hS.ceq (l' := dc n ((x.getD n 0 : Nat) + 1)) 1 rfl rfl
  refine gW ?_
  exact g_ret (q_c2 (n := 2) rfl (by kernel_rfl) (hS.b 1 rfl) (Nat.le_of_ble_eq_true rfl) rfl (h2 e _ (hS.sel [] rfl rfl)))
set_option maxHeartbeats 2000000 in
theorem b_Add {x : List Nat} {a b : Int} (hx : x.length = 16) (hxb : ∀ y ∈ x, y < 4294967296) (h1 : vAdd x a b = none → ∀ (e : Int) (z : List Nat) w', e ≠ 0 → z.length = 16 → St w (fun _ => False) w' [] → K (.tuple ⟨[.agg ⟨u4 z⟩, .int .i64 e]⟩) w')
  (h2 : ∀ y, vAdd x a b = some y → ∀ w', St w (fun _ => False) w' [] → K (.tuple ⟨[.agg ⟨u4 y⟩, .int .i64 0]⟩) w') : CK Tryz.prog 39 [.agg ⟨u4 x⟩, .agg ⟨dc a b⟩] w K := by
 have hS := St.nil w (fun _ => False)
 have lx : (u4 x).length = 16 := by rw [u4_len, hx]
 have ldx : ((u4 x).drop 0).take 16 = u4 x := by rw [List.drop_zero, List.take_of_length_le (Nat.le_of_eq lx)]
 have lr : (List.replicate 16 0).length = 16 := rfl
 refine call_k Tryz.func39 k39 Tryz.ntmps39 (Nat.le_of_ble_eq_true rfl) ?_
 refine gW ?_
 refine g_ef rfl (ef_bx hS rfl fun b2 w1 hS => ?_)
 refine g_ef rfl (ef_bx hS rfl fun b3 w1 hS => ?_)
 refine g_ef rfl (ef_al hS fun b4 w1 hS => ?_)
 replace hS : St w (fun _ => False) w1 [cel b2 (u4 x) 24, cel b3 (dc a b) 36, cel b4 (u4 (List.replicate 16 0)) 24] := hS
 refine gW ?_
 refine g_lm rfl rfl (hS.b 1 rfl) (Nat.le_of_ble_eq_true rfl) ?_
 refine g_cl rfl rfl (b_dotCheck (a := a) (b := b) fun w1 h' => ?_)
 replace hS := hS.call0.2 _ _ h'
 rw [List.append_nil] at hS
 clear h'
 cases hd : dotB a b
 ·have e0 : vAdd x a b = none := by unfold vAdd; rw [if_neg (by rw [hd]; simp)]
  rw [dotE_no hd]
  refine gW ?_
  refine g_ef0 rfl (ef_st hS 2 rfl rfl rfl rfl (by decide) rfl fun w1 hS => ?_)
  replace hS := hS.ceq (l' := u4 (List.replicate 16 0)) 2 rfl rfl
  refine gW ?_
  exact g_ret (q_c2 (n := 16) rfl (by kernel_rfl) (hS.b 2 rfl) (by decide) rfl (h1 e0 50 _ _ (by decide) lr (hS.sel [] rfl rfl)))
 rw [dotE_ok hd]
 obtain ⟨s0, s15, c1, c2⟩ := dotB_in hd
 obtain ⟨n, rfl⟩ := Int.eq_ofNat_of_zero_le s0
 have hn : n < 16 := by omega
 have hlt := getD_lt hxb n
 have hl : (u4 x)[0 + (n : Int).toNat * 1]? = some (.int .u32 ((x.getD n 0 : Nat) : Int)) := by rw [Int.toNat_natCast]; exact u4_get (by omega)
 refine gW ?_
 refine g_lm rfl rfl (hS.b 0 rfl) (Nat.le_of_eq lx.symm) ?_
 rw [ldx]
 refine gW ?_
 refine g_l1 rfl rfl (hS.b 1 rfl) (v := .int .i64 (n : Int)) rfl ?_
 refine g_cl rfl rfl (b_Next hx hxb hn (fun e w1 h' => ?_) (fun e w1 h' => ?_))
 ·replace hS := hS.call0.2 _ _ h'
  rw [List.append_nil] at hS
  clear h'
  have e0 : vAdd x (n : Int) b = none := by unfold vAdd; rw [if_neg (by rw [Int.toNat_natCast]; exact fun h => h.2.1 e)]
  refine gW ?_
  refine g_ef rfl (ef_al hS fun b7 w1 hS => ?_)
  refine g_ef0 rfl (ef_st hS 3 rfl rfl rfl rfl (by decide) rfl fun w1 hS => ?_)
  refine gW ?_
  refine g_ef0 rfl (ef_st hS 2 rfl rfl rfl rfl (by decide) rfl fun w1 hS => ?_)
  replace hS := hS.ceq (l' := u4 (List.replicate 16 0)) 2 rfl rfl
  refine gW ?_
  exact g_ret (q_c2 (n := 16) rfl (by kernel_rfl) (hS.b 2 rfl) (by decide) rfl (h1 e0 61 _ _ (by decide) lr (hS.sel [] rfl rfl)))
 ·replace hS := hS.call0.2 _ _ h'
  rw [List.append_nil] at hS
  clear h'
  refine gW ?_
  refine g_ef rfl (ef_al hS fun b7 w1 hS => ?_)
  refine g_ef0 rfl (ef_st hS 3 rfl rfl rfl rfl (by decide) rfl fun w1 hS => ?_)
  replace hS := hS.ceq (l' := dc n ((x.getD n 0 : Nat) + 1)) 3 rfl rfl
  refine gW ?_
  refine g_lm rfl rfl (hS.b 3 rfl) (Nat.le_of_ble_eq_true rfl) ?_
  refine g_lm rfl rfl (hS.b 1 rfl) (Nat.le_of_ble_eq_true rfl) ?_
  refine g_qt rfl (qt_eqd (a := dc n ((x.getD n 0 : Nat) + 1)) (b := dc n b) rfl rfl (dc_fits _ _) (dc_fits _ _)) ?_
  rw [show eqdv .neq (deqv (dc n ((x.getD n 0 : Nat) + 1)) (dc n b)) = !decide ((n : Int) = n ∧ (((x.getD n 0 : Nat) : Int) + 1) = b) by rw [dc_eq]; rfl]
  by_cases e2 : b = (x.getD n 0 : Nat) + 1
  ·have e0 : vAdd x (n : Int) b = some (x.set n (x.getD n 0 + 1)) := by unfold vAdd; rw [Int.toNat_natCast, if_pos ⟨hd, e, e2⟩]
   rw [decide_eq_true ⟨rfl, e2.symm⟩]
   refine gW ?_
   refine g_l1 rfl rfl (hS.b 1 rfl) (v := .int .i64 (n : Int)) rfl ?_
   refine gW ?_
   refine g_rq rfl rfl ⟨by omega, by omega⟩ ?_
   refine g_l1 rfl rfl (hS.b 0 rfl) hl ?_
   refine gW ?_
   have ew : IntKind.u32.wrap (arv .add ((x.getD n 0 : Nat) : Int) 1) = ((x.getD n 0 + 1 : Nat) : Int) := (wrap_in (k := .u32) ⟨by show (0 : Int) ≤ _; simp only [arv]; omega, by show _ ≤ (4294967295 : Int); simp only [arv]; omega⟩).trans (by simp only [arv]; omega)
   rw [ew]
   refine g_rq rfl rfl ⟨by omega, by omega⟩ ?_
   refine g_ef0 rfl (ef_st hS 0 rfl rfl rfl rfl (by rw [lx, Int.toNat_natCast]; show 0 + n * 1 + 1 ≤ 16; omega) rfl fun w1 hS => ?_)
   rw [Int.toNat_natCast] at hS
   replace hS := hS.ceq (l' := u4 (x.set n (x.getD n 0 + 1))) 0 rfl (u4_set x n _ (by omega))
   have ly : (x.set n (x.getD n 0 + 1)).length = 16 := by rw [List.length_set, hx]
   refine gW ?_
   refine g_lm rfl rfl (hS.b 0 rfl) (Nat.le_of_eq (u16 ly).symm) ?_
   rw [List.drop_zero, List.take_of_length_le (Nat.le_of_eq (u16 ly))]
   refine g_ef0 rfl (ef_st hS 2 rfl rfl rfl (u16 ly) (by decide) (u4_one _) fun w1 hS => ?_)
   replace hS := hS.ceq (l' := u4 (x.set n (x.getD n 0 + 1))) 2 rfl (spl_full' _ _ (by show (u4 _).length = (u4 _).length; rw [u16 ly]; rfl))
   refine gW ?_
   refine g_ret (q_c2 (n := 16) rfl (by kernel_rfl) (hS.b 2 rfl) (Nat.le_of_eq (u16 ly).symm) rfl ?_)
   rw [List.drop_zero, List.take_of_length_le (Nat.le_of_eq (u16 ly))]
   exact h2 _ e0 _ (hS.sel [] rfl rfl)
  ·have e0 : vAdd x (n : Int) b = none := by unfold vAdd; rw [Int.toNat_natCast, if_neg (fun h => e2 h.2.2)]
   rw [decide_eq_false (fun h => e2 h.2.symm)]
   refine gW ?_
   refine g_ef0 rfl (ef_st hS 2 rfl rfl rfl rfl (by decide) rfl fun w1 hS => ?_)
   replace hS := hS.ceq (l' := u4 (List.replicate 16 0)) 2 rfl rfl
   refine gW ?_
   exact g_ret (q_c2 (n := 16) rfl (by kernel_rfl) (hS.b 2 rfl) (by decide) rfl (h1 e0 61 _ _ (by decide) lr (hS.sel [] rfl rfl)))
end
end Go.Proofs.YtfffdhafbbbpcaaGreatDoor
namespace Go.Proofs
open Go.Shelf
def Tryz.sortRec_ren : Go.Shelf.Ren := ⟨fun | 6 => 78 | 15 => 93 | 14 => 112 | 28 => 137 | 29 => 138 | 20 => 145 | 21 => 146 | 22 => 147 | 23 => 148 | 24 => 149 | 25 => 150 | 26 => 151 | 27 => 152 | 46 => 205 | 47 => 185 | 48 => 186 | 49 => 206 | 50 => 207 | 57 => 233 | n => n, fun | 22 => 25 | 24 => 40 | 25 => 131 | 3 => 3 | 39 => 143 | 0 => 0 | 53 => 22 | 55 => 189 | 4 => 4 | 46 => 180 | 45 => 179 | 50 => 185 | 5 => 5 | 9 => 9 | 66 => 248 | 70 => 252 | 76 => 284 | 77 => 285 | n => n, fun | n => n⟩
theorem Tryz.sortRec : Go.Proofs.SlLaysF0.n6 Tryz.prog Tryz.sortRec_ren := {
 mixed := by kernel_rfl
 f6 := ⟨Tryz.f78.name, by decide, Tryz.func78.trans (congrArg some (by kernel_rfl))⟩
 f14 := ⟨Tryz.f112.name, by decide, Tryz.func112.trans (congrArg some (by kernel_rfl))⟩
 f15 := Tryz.func93.trans (congrArg some (by kernel_rfl))
 f20 := ⟨Tryz.f145.name, by decide, Tryz.func145.trans (congrArg some (by kernel_rfl))⟩
 f21 := ⟨Tryz.f146.name, by decide, Tryz.func146.trans (congrArg some (by kernel_rfl))⟩
 f22 := ⟨Tryz.f147.name, by decide, Tryz.func147.trans (congrArg some (by kernel_rfl))⟩
 f23 := ⟨Tryz.f148.name, by decide, Tryz.func148.trans (congrArg some (by kernel_rfl))⟩
 f24 := ⟨Tryz.f149.name, by decide, Tryz.func149.trans (congrArg some (by kernel_rfl))⟩
 f25 := ⟨Tryz.f150.name, by decide, Tryz.func150.trans (congrArg some (by kernel_rfl))⟩
 f26 := ⟨Tryz.f151.name, by decide, Tryz.func151.trans (congrArg some (by kernel_rfl))⟩
 f27 := ⟨Tryz.f152.name, by decide, Tryz.func152.trans (congrArg some (by kernel_rfl))⟩
 f28 := Tryz.func137.trans (congrArg some (by kernel_rfl))
 f29 := Tryz.func138.trans (congrArg some (by kernel_rfl))
 f46 := ⟨Tryz.f205.name, by decide, Tryz.func205.trans (congrArg some (by kernel_rfl))⟩
 f47 := Tryz.func185.trans (congrArg some (by kernel_rfl))
 f48 := Tryz.func186.trans (congrArg some (by kernel_rfl))
 f49 := ⟨Tryz.f206.name, by decide, Tryz.func206.trans (congrArg some (by kernel_rfl))⟩
 f50 := ⟨Tryz.f207.name, by decide, Tryz.func207.trans (congrArg some (by kernel_rfl))⟩
 f57 := ⟨Tryz.f233.name, by decide, Tryz.func233.trans (congrArg some (by kernel_rfl))⟩
 t0 := Tryz.underlying0
 a0 := Tryz.isAgg0
 z0 := Tryz.sizeOf0
 v0 := Tryz.zeroValue0
 t3 := Tryz.underlying3
 a3 := Tryz.isAgg3
 z3 := Tryz.sizeOf3
 v3 := Tryz.zeroValue3
 t4 := Tryz.underlying4
 a4 := Tryz.isAgg4
 z4 := Tryz.sizeOf4
 v4 := Tryz.zeroValue4
 t5 := Tryz.underlying5
 a5 := Tryz.isAgg5
 z5 := Tryz.sizeOf5
 v5 := Tryz.zeroValue5
 t9 := Tryz.underlying9
 a9 := Tryz.isAgg9
 z9 := Tryz.sizeOf9
 v9 := Tryz.zeroValue9
 t22 := Tryz.underlying25
 a22 := Tryz.isAgg25
 z22 := Tryz.sizeOf25
 v22 := Tryz.zeroValue25
 t25 := Tryz.underlying131
 a25 := Tryz.isAgg131
 z25 := Tryz.sizeOf131
 v25 := Tryz.zeroValue131
 t39 := Tryz.underlying143
 a39 := Tryz.isAgg143
 z39 := Tryz.sizeOf143
 v39 := Tryz.zeroValue143
 t45 := Tryz.underlying179
 a45 := Tryz.isAgg179
 z45 := Tryz.sizeOf179
 v45 := Tryz.zeroValue179
 t46 := Tryz.underlying180
 a46 := Tryz.isAgg180
 z46 := Tryz.sizeOf180
 v46 := Tryz.zeroValue180
 t50 := Tryz.underlying185
 a50 := Tryz.isAgg185
 z50 := Tryz.sizeOf185
 v50 := Tryz.zeroValue185
 t53 := Tryz.underlying22
 a53 := Tryz.isAgg22
 z53 := Tryz.sizeOf22
 v53 := Tryz.zeroValue22
 t55 := Tryz.underlying189
 a55 := Tryz.isAgg189
 z55 := Tryz.sizeOf189
 v55 := Tryz.zeroValue189
 t66 := Tryz.underlying248
 a66 := Tryz.isAgg248
 z66 := Tryz.sizeOf248
 v66 := Tryz.zeroValue248
 t70 := Tryz.underlying252
 a70 := Tryz.isAgg252
 z70 := Tryz.sizeOf252
 v70 := Tryz.zeroValue252
 t76 := Tryz.underlying284
 a76 := Tryz.isAgg284
 z76 := Tryz.sizeOf284
 v76 := Tryz.zeroValue284
 t77 := Tryz.underlying285
 a77 := Tryz.isAgg285
 z77 := Tryz.sizeOf285
 v77 := Tryz.zeroValue285 }
end Go.Proofs
namespace Go.Proofs.YtfffdhafbbbpcaaGreatDoor
open Go.En
theorem getA {L M : List Res} {r : Res} {i : Nat} (h : L[i]? = some r) : (L ++ M)[i]? = some r := by rw [List.getElem?_append_left (List.getElem?_eq_some_iff.1 h).1]; exact h
theorem swo_dot : Sort.SWO (ltOf fun x y : Rec => dotC x.site x.cnt y.site y.cnt) := by
 have hc : ∀ x y : Rec, ltOf (fun x y : Rec => dotC x.site x.cnt y.site y.cnt) x y = decide (dlt' x y) := fun x y => decide_eq_decide.2 (dlt_C' x y).symm
 refine ⟨fun x => ?_, fun x y z h k => ?_, fun x y z h k => ?_⟩
 ·rw [hc, decide_eq_false_iff_not, dlt_iff]; omega
 ·rw [hc, decide_eq_true_eq, dlt_iff] at *; omega
 ·rw [hc, decide_eq_false_iff_not, dlt_iff] at *; omega
theorem all_eq {d o : List Rec} (ho : o.Pairwise dlt') (hp : d.Perm o) (hs : d.Pairwise (fun x y => ¬ dlt' y x)) : d = o :=
 List.Perm.eq_of_pairwise (le := fun x y => ¬ dlt' y x) (fun a b ha hb h k => by
  rw [dlt_iff] at h k
  have ha := hp.mem_iff.1 ha
  obtain ⟨i, hi, rfl⟩ := List.mem_iff_getElem.1 ha
  obtain ⟨j, hj, rfl⟩ := List.mem_iff_getElem.1 hb
  rcases Nat.lt_trichotomy i j with hij | hij | hij
  ·have := (dlt_iff _ _).1 (List.pairwise_iff_getElem.1 ho i j hi hj hij); omega
  ·subst hij; rfl
  ·have := (dlt_iff _ _).1 (List.pairwise_iff_getElem.1 ho j i hj hi hij); omega) hs (ho.imp fun {x y} h => by rw [dlt_iff] at *; omega) hp
def stay (r : Rec) (d : List Rec) : List Rec := d.filter fun y => !outd r y
def outF (r : Rec) : Value := .func (.func 57) ⟨[.agg ⟨rc r⟩]⟩ ⟨[]⟩
section
variable {w w0 : World} {S0 : Nat → Prop} {L B : List Res} {K : Value → World → Prop} {s : Bs} {E0 E1 : Nat} {r : Rec}
theorem b_outdoes (a b : Rec) (h : ∀ w', St w (fun _ => False) w' [] → K (.bool (outd b a)) w') : CK Tryz.prog 75 [.agg ⟨rc a⟩, .agg ⟨rc b⟩] w K := by
 have hS := St.nil w (fun _ => False)
 refine call_k Tryz.func75 k75 Tryz.ntmps75 (Nat.le_of_ble_eq_true rfl) ?_
 refine gW ?_
 refine g_ef rfl (ef_bx hS rfl fun b2 w1 hS => ?_)
 refine gW ?_
 refine g_ef rfl (ef_bx hS rfl fun b3 w1 hS => ?_)
 replace hS : St w (fun _ => False) w1 [cel b2 (rc a) 106, cel b3 (rc b) 40] := hS
 refine gW ?_
 refine g_lm rfl rfl (hS.b 1 rfl) (Nat.le_of_eq (by rw [rc_len])) ?_
 rw [List.drop_zero, List.take_of_length_le (Nat.le_of_eq (rc_len _))]
 refine g_lm rfl rfl (hS.b 0 rfl) (Nat.le_of_eq (by rw [rc_len])) ?_
 rw [List.drop_zero, List.take_of_length_le (Nat.le_of_eq (rc_len _))]
 refine g_cl rfl rfl (b_Outdoes b a fun w1 h' => ?_)
 replace hS := hS.call0.2 _ _ h'
 refine gW ?_
 exact g_ret (q_1 rfl (h _ (hS.sel [] rfl rfl)))
theorem p_outdoes (x : Rec) (M : List Res) : PrdS w0 S0 75 [.agg ⟨rc x⟩] [] M (fun y => outd y x) := fun y {w K} hS h => b_outdoes x y fun w' h' => h w' (by have := hS.call0.2 _ _ h'; rwa [List.append_nil] at this)
def sameD (r x : Rec) : Bool := decide (x.site = r.site ∧ x.cnt = r.cnt)
theorem b_sameD {M : List Res} {i b3 : Nat} (hi : M[i]? = some (cel b3 (rc r) 40)) (x : Rec) (hS : St w0 S0 w M) (h : ∀ w', St w0 S0 w' M → K (.bool (sameD r x)) w') : CK Tryz.prog 73 [.agg ⟨rc x⟩, dp b3] w K := by
 refine call_k Tryz.func73 k73 Tryz.ntmps73 (Nat.le_of_ble_eq_true rfl) ?_
 refine gW ?_
 refine g_ef rfl (ef_bx hS rfl fun b2 w1 hS => ?_)
 replace hS : St w0 S0 w1 (M ++ [cel b2 (rc x) 40]) := hS
 refine gW ?_
 refine g_lm rfl rfl (hS.b M.length getL) (by rw [rc_len]; decide) ?_
 rw [show ((rc x).drop (0 + 0)).take 2 = dc x.site x.cnt from rc_dot _]
 refine gW ?_
 refine g_lm rfl rfl (hS.b i (getA hi)) (by rw [rc_len]; decide) ?_
 rw [show ((rc r).drop (0 + 0)).take 2 = dc r.site r.cnt from rc_dot _]
 refine g_qt rfl (qt_eqd (a := dc x.site x.cnt) (b := dc r.site r.cnt) rfl rfl (dc_fits _ _) (dc_fits _ _)) ?_
 rw [show eqdv .eql (deqv (dc x.site x.cnt) (dc r.site r.cnt)) = sameD r x by show deqv _ _ = _; rw [dc_eq]; rfl]
 refine gW ?_
 exact g_ret (q_1 rfl (h _ hS.init))
theorem b_byDot2 {x y : Rec} {W : World} (h : ∀ w', St W (fun _ => False) w' [] → K (.int .i64 (dotC x.site x.cnt y.site y.cnt)) w') : CK Tryz.prog 79 [.agg ⟨rc x⟩, .agg ⟨rc y⟩] W K := by
 have hS := St.nil W (fun _ => False)
 refine call_k Tryz.func79 k79 Tryz.ntmps79 (Nat.le_of_ble_eq_true rfl) ?_
 refine gW ?_
 refine g_ef rfl (ef_bx hS rfl fun b2 w1 hS => ?_)
 refine gW ?_
 refine g_ef rfl (ef_bx hS rfl fun b3 w1 hS => ?_)
 replace hS : St W (fun _ => False) w1 [cel b2 (rc x) 40, cel b3 (rc y) 40] := hS
 refine gW ?_
 refine g_lm rfl rfl (hS.b 0 rfl) (by rw [rc_len]; decide) ?_
 rw [show ((rc x).drop (0 + 0)).take 2 = dc x.site x.cnt from rc_dot _]
 refine gW ?_
 refine g_lm rfl rfl (hS.b 1 rfl) (by rw [rc_len]; decide) ?_
 rw [show ((rc y).drop (0 + 0)).take 2 = dc y.site y.cnt from rc_dot _]
 refine g_cl rfl rfl (b_dotCmp fun w1 h' => ?_)
 replace hS := hS.call0.2 _ _ h'
 refine gW ?_
 exact g_ret (q_1 rfl (h _ (hS.sel [] rfl rfl)))
theorem b_SortR {v : Value} {n : Nat} {d : List Rec} (hd : d.length = n) (hn : n < 2000000) (hs : d.Pairwise dlt') (hS : St w0 S0 w [row v 40 52 n (fl rc d)])
  (h : ∀ w', St w0 S0 w' [row v 40 52 n (fl rc d)] → K (.tuple ⟨[]⟩) w') : CK Tryz.prog 78 [v, .func (.func 79) ⟨[]⟩ ⟨[]⟩] w K := by
 rcases hS.ok 0 _ rfl with ⟨rfl, rfl, h3⟩ | ⟨b, cap, rest, rfl, _⟩
 ·refine (AnyF.slices_SortFunc_none Tryz.sortRec none 0 (.func (.func 79) ⟨[]⟩ ⟨[]⟩) w).mono ?_
  rintro e w' ⟨rfl, rfl⟩
  exact ⟨_, rfl, h _ hS⟩
 ·refine ck_sortF (i := 0) Tryz.sortRec Tryz.isAgg40 Tryz.sizeOf40 rc_len rc_one (fun x y : Rec => dotC x.site x.cnt y.site y.cnt) swo_dot (enters_of Tryz.func79 (by kernel_rfl) rfl) (fun W x y K h => b_byDot2 h) hS rfl hd (by omega) fun d' w' hp hs' hS => ?_
  have e := all_eq hs hp (hs'.imp fun {x y} h => by
   have h : decide (dotC y.site y.cnt x.site x.cnt < 0) = false := h
   rw [dlt_C']
   exact of_decide_eq_false h)
  subst e
  exact h _ hS
theorem b_staying {bz : Nat} (h : ∀ bs bf w', St w (fun _ => False) w' [cel bs [dp bz] 67, cel bf [outF r] 72] → K (.func (.func 111) ⟨[]⟩ ⟨[dp bs, dp bf]⟩) w') : CK Tryz.prog 77 [dp bz, .agg ⟨rc r⟩] w K := by
 have hS := St.nil w (fun _ => False)
 refine call_k Tryz.func77 k77 Tryz.ntmps77 (Nat.le_of_ble_eq_true rfl) ?_
 refine gW ?_
 refine g_ef rfl (ef_bx hS rfl fun b2 w1 hS => ?_)
 refine gW ?_
 refine g_ef rfl (ef_bx hS rfl fun b3 w1 hS => ?_)
 replace hS : St w (fun _ => False) w1 [cel b2 [dp bz] 67, cel b3 (rc r) 106] := hS
 refine gW ?_
 refine g_lm rfl rfl (hS.b 1 rfl) (Nat.le_of_eq (by rw [rc_len])) ?_
 rw [List.drop_zero, List.take_of_length_le (Nat.le_of_eq (rc_len _))]
 refine gW ?_
 refine g_ef rfl (ef_al hS fun b5 w1 hS => ?_)
 refine g_ef0 rfl (ef_st (u := outF r) hS 2 rfl rfl rfl rfl (Nat.le_of_ble_eq_true rfl) rfl fun w1 hS => ?_)
 refine gW ?_
 exact g_ret (q_1 rfl (h _ _ _ (hS.sel [0, 2] rfl rfl)))
set_option maxHeartbeats 2000000 in
theorem d_staying {ι : Type} {Ls : ι → List Res} {Inv : List Rec → ι → Prop} {d : List Rec} {v u : Value} {bs bf bz l i j m q T : Nat} (hn : d.length < 2000000)
  (hi : ∀ σ, (Ls σ)[i]? = some (cel bs [dp bz] 67)) (hj : ∀ σ, (Ls σ)[j]? = some (cel bf [outF r] 72)) (hm : ∀ σ, (Ls σ)[m]? = some (cel bz [u, v] T)) (hq : ∀ σ, (Ls σ)[q]? = some (rowR v d))
  {σ0 : ι} (h0 : Inv [] σ0) (hS : St w0 S0 w (Ls σ0))
  (hy : ∀ (X : Res) (ys : List Rec) (x : Rec) (σ : ι) (w : World), ys.length < d.length → Inv ys σ → St w0 S0 w (Ls σ ++ [X]) → Yd Tryz.prog l [.agg ⟨rc x⟩] w fun v w' => (v = .bool true ∧ ∃ σ', Inv (ys ++ [x]) σ' ∧ St w0 S0 w' (Ls σ' ++ [X])) ∨ (v = .bool false ∧ K (.tuple ⟨[]⟩) w'))
  (he : ∀ σ w, Inv (stay r d) σ → St w0 S0 w (Ls σ) → K (.tuple ⟨[]⟩) w) : CK Tryz.prog 111 [.func (.yield l) ⟨[]⟩ ⟨[]⟩, dp bs, dp bf] w K := by
 have lz : (zx zRc).length = 52 := by decide
 obtain ⟨a, c, rfl⟩ := (Ow.rd (hS.ok q (rowR v d) (hq σ0))).form
 refine call_k Tryz.func111 k111 Tryz.ntmps111 (Nat.le_of_ble_eq_true rfl) ?_
 refine gW ?_
 refine g_sc rfl ?_
 refine gW ?_
 refine g_l1 rfl rfl (hS.b i (hi σ0)) rfl ?_
 refine gW ?_
 refine g_l1 rfl rfl (hS.b m (hm σ0)) rfl ?_
 refine gW ?_
 refine g_lp (ι := Nat × ι) (fun y => [(0, .func (.yield l) ⟨[]⟩ ⟨[]⟩), (2, dp bf), (9, .slice a d.length c), (10, .int .i64 d.length), (11, .int .i64 y.1)]) (fun y w => y.1 ≤ d.length ∧ Inv (stay r (d.take y.1)) y.2 ∧ St w0 S0 w (Ls y.2)) (fun y => d.length - y.1) (0, σ0)
  ⟨rfl, rfl, rfl, rfl, rfl, trivial⟩ ⟨Nat.zero_le _, h0, hS⟩ ?_
 clear hS h0
 rintro ⟨k, σ⟩ w1 ⟨hk, hI, hS⟩
 dsimp only at hk hI hS ⊢
 refine gW ?_
 (generalize hlt : cmv _ _ _ = q; cases q <;> simp only [cmv, arv, Bool.not_eq_true', Bool.not_eq_false', decide_eq_true_eq, decide_eq_false_iff_not] at hlt <;> first | (exfalso; omega) | skip)
 ·have ek : k = d.length := by omega
  subst ek
  rw [List.take_length] at hI
  refine gW ?_
  exact q_n (he _ _ hI hS)
 have hlt : k < d.length := by omega
 obtain ⟨b, off, c2, l2, e, hcap, hbd, hb, hx, _⟩ := rdk (Ow.rd (hS.ok q (rowR _ d) (hq σ))) hlt
 cases e
 have hstl : (stay r (d.take k)).length ≤ k := Nat.le_trans (List.length_filter_le _ _) (by rw [List.length_take]; omega)
 have hst : stay r (d.take (k + 1)) = if outd r d[k] = true then stay r (d.take k) else stay r (d.take k) ++ [d[k]] := by
  unfold stay
  rw [List.take_succ_eq_append_getElem hlt, List.filter_append]
  cases ho : outd r d[k] <;> simp [ho]
 refine gW ?_
 refine g_rq rfl rfl ⟨by omega, by omega⟩ ?_
 refine g_lmr rfl rfl hb (by rw [Int.toNat_natCast]; exact hbd) ?_
 rw [Int.toNat_natCast, hx]
 refine g_ef rfl (ef_al hS fun b5 w1 hS => ?_)
 refine g_ef0 rfl (ef_st hS (Ls σ).length getL rfl rfl (rc_len _) (by rw [lz]; decide) (List.all_eq_true.2 (rc_one _)) fun w1 hS => ?_)
 rw [setL] at hS
 replace hS := hS.ceq (l' := rc d[k]) (Ls σ).length getL (spl_full' _ _ (by show (rc d[k]).length = _; rw [rc_len, lz]))
 rw [setL] at hS
 refine gW ?_
 refine g_l1 rfl rfl (hS.b j (getA (hj σ))) rfl ?_
 refine g_lm rfl rfl (hS.b _ getL) (Nat.le_of_eq (by rw [rc_len])) ?_
 rw [List.drop_zero, List.take_of_length_le (Nat.le_of_eq (rc_len _))]
 refine g_ef rfl (ef_cv (first := [.agg ⟨rc r⟩]) (cap := []) rfl rfl (callFunc_of Tryz.func57 rfl rfl) (b_outdone r d[k] fun w2 h' => ?_))
 replace hS := hS.call0.2 _ _ h'
 rw [List.append_nil] at hS
 clear h'
 cases ho : outd r d[k]
 ·rw [ho, if_neg (by decide)] at hst
  refine gW ?_
  refine g_lm rfl rfl (hS.b _ getL) (Nat.le_of_eq (by rw [rc_len])) ?_
  rw [List.drop_zero, List.take_of_length_le (Nat.le_of_eq (rc_len _))]
  refine g_ef rfl (ef_yd (vs := [.agg ⟨rc d[k]⟩]) rfl rfl ((hy _ _ d[k] σ _ (by omega) hI hS).mono ?_))
  rintro v w (⟨rfl, σ', hI', hS⟩ | ⟨rfl, hK⟩)
  ·rw [← hst] at hI'
   refine gW ?_
   refine g_rq rfl rfl (in64 (by simp only [arv]; omega)) ?_
   refine gW ?_
   exact g_l (k + 1, σ') ⟨rfl, rfl, rfl, rfl, rfl, trivial⟩ ⟨hlt, hI', hS.init⟩ (by simp only; omega)
  ·refine gW ?_
   exact g_ret (q_0 hK)
 ·rw [ho, if_pos rfl] at hst
  rw [← hst] at hI
  refine gW ?_
  refine g_rq rfl rfl (in64 (by simp only [arv]; omega)) ?_
  refine gW ?_
  exact g_l (k + 1, σ) ⟨rfl, rfl, rfl, rfl, rfl, trivial⟩ ⟨hlt, hI, hS.init⟩ (by simp only; omega)
set_option maxHeartbeats 4000000 in
theorem b_AppStay {d : List Rec} {v u : Value} {bs bf bz T : Nat} (hn : d.length < 2000000) (hS : St w0 S0 w [cel bs [dp bz] 67, cel bf [outF r] 72, cel bz [u, v] T, rowR v d])
  (h : ∀ v' w', St w0 S0 w' [cel bz [u, v] T, rowR v d, rowR v' (stay r d)] → K v' w') : CK Tryz.prog 110 [.slice none 0 0, .func (.func 111) ⟨[]⟩ ⟨[dp bs, dp bf]⟩] w K := by
 have lz : (zx zRc).length = 52 := by decide
 refine call_k Tryz.func110 k110 Tryz.ntmps110 (Nat.le_of_ble_eq_true rfl) ?_
 refine gW ?_
 refine g_ef rfl (ef_bx hS rfl fun b2 w1 hS => ?_)
 replace hS := hS.nilrow 40 52
 replace hS : St w0 S0 w1 [cel bs [dp bz] 67, cel bf [outF r] 72, cel bz [u, v] T, rowR v d, cel b2 [.slice none 0 0] 25, row (.slice none 0 0) 40 52 0 []] := hS
 refine gW ?_
 refine g_atd 2 [(2, dp b2)] (fun D1 w' => ∃ dB, D1 = [⟨.collected dB, #[]⟩] ∧ ∃ a1 c1,
   St w0 S0 w' [cel bz [u, v] T, rowR v d, cel b2 [.slice a1 (stay r d).length c1] 25, rowR (.slice a1 (stay r d).length c1) (stay r d), obj dB (.deferred (some []))]) rfl ?_ ?_
 ·refine g_wkc (T' := [(6, .func (.func 111) ⟨[]⟩ ⟨[dp bs, dp bf]⟩), (2, dp b2)]) ⟨rfl, rfl, trivial⟩ ?_
  refine g_rf (cap := [dp bs, dp bf]) (first := []) hS rfl (callFunc_of Tryz.func111 rfl rfl) fun l dB w2 hS => ?_
  refine d_staying (ι := Option Addr × Nat × List Rec) (Ls := fun σ => [cel bs [dp bz] 67, cel bf [outF r] 72, cel bz [u, v] T, rowR v d, cel b2 [.slice σ.1 σ.2.2.length σ.2.1] 25, row (.slice σ.1 σ.2.2.length σ.2.1) 40 52 σ.2.2.length (fl rc σ.2.2), obj dB (.deferred (some [])), _])
   (Inv := fun ys σ => σ.2.2 = ys) (i := 0) (j := 1) (m := 2) (q := 3) hn (fun σ => rfl) (fun σ => rfl) (fun σ => rfl) (fun σ => rfl) (σ0 := (none, 0, [])) rfl hS ?_ ?_
  ·clear hS
   rintro X ys x ⟨a1, c1, ts⟩ w2 hlt hI hS
   dsimp only at hI hS
   subst hI
   refine yd_of hS 7 rfl rfl ?_
   refine gW ?_
   refine g_ef rfl (ef_al hS fun b6 w2 hS => ?_)
   refine g_ef0 rfl (ef_st hS 9 rfl rfl rfl (rc_len _) (by rw [lz]; decide) (List.all_eq_true.2 (rc_one _)) fun w2 hS => ?_)
   replace hS := hS.ceq (l' := rc x) 9 rfl (spl_full' _ _ (by show (rc x).length = _; rw [rc_len, lz]))
   refine gW ?_
   refine ⟨rfl, _, _, hS, rfl, fun w2 hS => ?_⟩
   refine gW ?_
   refine g_l1 rfl rfl (hS.b  4 rfl) rfl ?_
   refine g_lm rfl rfl (hS.b 9 rfl) (Nat.le_of_eq (by rw [rc_len])) ?_
   rw [List.drop_zero, List.take_of_length_le (Nat.le_of_eq (rc_len _))]
   refine g_ef rfl (ef_bl (rs := rc x) hS (evcs_1 rfl (rc_len _)) fun g w2 hS => ?_)
   refine g_ef rfl (ef_ap (n := ts.length) (m := 1) hS 5 rfl rfl rfl (.inl ⟨40, .inr ⟨g, 0, 1, _, rfl, Nat.le_refl _, Nat.le_of_eq (by rw [rc_len]), by rw [List.drop_zero, List.take_of_length_le (Nat.le_of_eq (by rw [rc_len]))], (hS.b 10 rfl).r⟩⟩) (List.all_eq_true.2 (rc_one x)) (by omega) (by omega) fun v1 w2 hS => ?_)
   obtain ⟨a2, c2, rfl⟩ := hS.rlen 5 rfl
   refine g_ef0 rfl (ef_st hS 4 rfl rfl rfl rfl (Nat.le_of_ble_eq_true rfl) rfl fun w2 hS => ?_)
   refine gW ?_
   have ets : fl rc ts ++ rc x = fl rc (ts ++ [x]) := by rw [fl_app]; simp [fl]
   have etl : ts.length + 1 = (ts ++ [x]).length := by simp
   rw [ets, etl] at hS
   exact ⟨_, _, hS.sel [0, 1, 2, 3, 4, 5, 6, 7, 8] rfl rfl, rfl, fun w2 hS => .inl ⟨rfl, (a2, c2, ts ++ [x]), rfl, hS⟩⟩
  ·clear hS
   rintro ⟨a1, c1, ts⟩ w2 hI hS
   dsimp only at hI hS
   subst hI
   refine ⟨_, 7, _, _, hS, rfl, (fun h => nomatch h), fun w2 hS => ?_⟩
   exact g_b (g_jd ⟨rfl, trivial⟩ ⟨dB, rfl, a1, c1, hS.sel [2, 3, 4, 5, 6] rfl rfl⟩)
 ·clear hS
  rintro T D1 w1 hT ⟨dB, rfl, a1, c1, hS⟩
  refine g_wkc hT ?_
  refine gW ?_
  refine g_l1 rfl rfl (hS.b  2 rfl) rfl ?_
  refine gW ?_
  exact g_ret (q_dr hS 4 rfl fun w hS => q_1 rfl (h _ _ (hS.sel [0, 1, 3] rfl rfl)))
theorem b_ColStay {d : List Rec} {v u : Value} {bs bf bz T : Nat} (hn : d.length < 2000000) (hS : St w0 S0 w [cel bs [dp bz] 67, cel bf [outF r] 72, cel bz [u, v] T, rowR v d])
  (h : ∀ v' w', St w0 S0 w' [cel bz [u, v] T, rowR v d, rowR v' (stay r d)] → K v' w') : CK Tryz.prog 76 [.func (.func 111) ⟨[]⟩ ⟨[dp bs, dp bf]⟩] w K := by
 refine call_k Tryz.func76 k76 Tryz.ntmps76 (Nat.le_of_ble_eq_true rfl) ?_
 refine gW ?_
 refine g_cl rfl rfl (b_AppStay hn hS fun v' w' hS => ?_)
 refine gW ?_
 exact g_ret (q_1 rfl (h _ _ hS))
theorem b_newSb (hb : brk s = 0) (hg : Gl w) (h : ∀ b w', St w (fun _ => False) w' [cel b [sv s, .slice none 0 0] 109, rowR (.slice none 0 0) []] → K (.tuple ⟨[dp b, .int .i64 0]⟩) w') : CK Tryz.prog 41 [sv s] w K := by
 have hS := St.nil w (fun _ => False)
 have e1 : nmE s = 0 := by unfold nmE; rw [if_pos hb]
 refine call_k Tryz.func41 k41 Tryz.ntmps41 (Nat.le_of_ble_eq_true rfl) ?_
 refine gW ?_
 refine g_cl rfl rfl (c_Check hg hS fun w1 hS => ?_)
 rw [e1]
 refine gW ?_
 refine g_ef rfl (ef_bx hS rfl fun b w1 hS => ?_)
 replace hS := hS.nilrow 40 52
 refine gW ?_
 exact g_ret (q_2 rfl rfl (h _ _ hS))
end
theorem gl_lt {w : World} (h : Gl w) : 0 < w.heap.size := by
 obtain ⟨m, hm⟩ := h
 unfold World.cell? at hm
 by_cases hl : 0 < w.heap.size
 ·exact hl
 ·rw [Array.getElem?_eq_none (show _ ≤ 0 by omega)] at hm; cases hm
theorem gl_foot {w w1 w2 : World} {A B L2 : List Res} (h : Gl w) (hS : St w (fun _ => False) w1 (A ++ B)) (h2 : St w1 (foot A) w2 L2) : Gl w2 := by
 refine (h.in hS).to ?_ h2
 rintro ⟨i, r, hi, hb⟩
 have hi' : (A ++ B)[i]? = some r := getA hi
 rcases hS.src i r hi' _ hb with h0 | h0
 ·exact h0
 ·have := gl_lt h; omega
theorem tE_map (Y : List Sb) : tE Y = (Y.map fun z => (z.s, z.b)).mapIdx fun i p => (⟨sv p.1, dp p.2, i⟩ : MapEntry) := List.ext_getElem (by simp [tE]) fun i h1 h2 => by simp [tE]
theorem tE_upd (Y1 Y2 : List Sb) {z z' : Sb} (hb : z'.b = z.b) (hs : z'.s = z.s) : tE (Y1 ++ z' :: Y2) = tE (Y1 ++ z :: Y2) := by
 rw [tE_map, tE_map]
 congr 1
 simp [hb, hs]
theorem tE_idx {Y : List Sb} {j : Nat} {e : MapEntry} (h : (tE Y)[j]? = some e) : e.born = j := by
 obtain ⟨hj, rfl⟩ := List.getElem?_eq_some_iff.1 h
 simp [tE]
def mapR : Option Nat → List Sb → Res
 | none, Y => emp.when (Y = [])
 | some bm, Y => obj bm (.map ⟨tE Y⟩ Y.length)
def TabS (bT : Nat) (mo : Option Nat) (x : List Nat) (Y : List Sb) : List Res := [cel bT (u4 x ++ [.map mo]) 45, mapR mo Y, ows (sbR 109) Y]
def okA (x : List Nat) (r : Rec) : Bool := (vAdd x r.site r.cnt).isSome && recB r && decide (atm r.ctx x)
def nxt (x : List Nat) (r : Rec) : List Nat := (vAdd x r.site r.cnt).getD x
abbrev Spot := Option (List Sb × Sb × List Sb)
def spotB (Y : List Sb) (r : Rec) : Spot → Prop
 | none => ∀ z ∈ Y, z.s ≠ r.ref
 | some (Y1, z, Y2) => Y = Y1 ++ z :: Y2 ∧ z.s = r.ref ∧ (∀ y ∈ Y1, y.s ≠ r.ref) ∧ (∀ y ∈ Y2, y.s ≠ r.ref) ∧ z.l.any (sameD r) = false ∧ z.l.any (fun y => outd y r) = false ∧ (stay r z.l ++ [r]).Pairwise dlt' ∧ z.l.length < 400000
def updY (Y : List Sb) (r : Rec) (bz : Nat) (v : Value) : Spot → List Sb
 | none => Y ++ [⟨bz, v, r.ref, [r]⟩]
 | some (Y1, z, Y2) => Y1 ++ ⟨z.b, v, z.s, stay r z.l ++ [r]⟩ :: Y2
section
variable {w w0 : World} {S0 : Nat → Prop} {L B : List Res} {K : Value → World → Prop} {s : Bs} {E0 E1 : Nat} {r : Rec}
set_option maxHeartbeats 4000000 in
theorem b_ApplySb {d : List Rec} {v : Value} {bz T : Nat} (hg : ∀ {L : List Res} {w' : World}, St w0 S0 w' L → Gl w') (hS : St w0 S0 w [cel bz [sv s, v] T, rowR v d]) (hne : s ≠ []) (hr : r.ref = s) (hb : recB r = true) (hdot : d.any (sameD r) = false) (hlate : d.any (fun y => outd y r) = false)
  (hsort : (stay r d ++ [r]).Pairwise dlt') (hn : d.length < 400000) (h : ∀ (g : Int) v' w', St w0 S0 w' [cel bz [sv s, v'] T, rowR v' (stay r d ++ [r])] → K (.tuple ⟨[.int .i64 g, .int .i64 0]⟩) w') : CK Tryz.prog 42 [dp bz, .agg ⟨rc r⟩] w K := by
 obtain ⟨a, c, rfl⟩ := hS.rlen 1 rfl
 have hstl : (stay r d).length ≤ d.length := List.length_filter_le _ _
 refine call_k Tryz.func42 k42 Tryz.ntmps42 (Nat.le_of_ble_eq_true rfl) ?_
 refine gW ?_
 refine g_ef rfl (ef_bx hS rfl fun b3 w1 hS => ?_)
 replace hS : St w0 S0 w1 [cel bz [sv s, .slice a d.length c] T, rowR (.slice a d.length c) d, cel b3 (rc r) 40] := hS
 refine gW ?_
 refine g_cl rfl rfl (b_noneSb (z := ⟨bz, .slice a d.length c, s, d⟩) ⟨⟨_, (hS.b 0 rfl).r⟩, _, Ow.rd (hS.ok 1 _ rfl)⟩ hne ?_)
 refine gW ?_
 refine g_dr mixed ?_
 replace hS := hS.drew
 refine d_lm rfl rfl rfl (hS.b 2 rfl) (Nat.le_of_eq (by rw [rc_len])) ?_
 rw [List.drop_zero, List.take_of_length_le (Nat.le_of_eq (rc_len _))]
 refine d_cl rfl rfl rfl (b_recCheck (hg hS) fun w1 h' => ⟨rc_0, ?_⟩)
 replace hS := hS.call0.2 _ _ h'
 rw [List.append_nil] at hS
 clear h'
 rw [recE_ok hb]
 refine gD ?_
 refine d_l1 rfl rfl rfl (hS.b 2 rfl) (v := sv s) (by rw [← hr]; exact rc_18 _) ?_
 refine gD ?_
 refine d_l1 rfl rfl rfl (hS.b 0 rfl) (v := sv s) rfl ?_
 refine gD ?_
 rw [sv_dec]
 refine gD ?_
 refine d_l1 rfl rfl rfl (hS.b 0 rfl) (v := .slice a d.length c) rfl ?_
 refine gD ?_
 refine d_cl rfl rfl rfl (b_ConR (d := d) (M := [_, _, _]) (p := sameD r) (callFunc_of Tryz.func73 rfl rfl) (by omega) (fun y {_ _} hS h => b_sameD (i := 2) rfl y hS h) (fun hS => Ow.rd (hS.ok 1 (rowR (.slice a d.length c) d) rfl)) hS fun w1 hS => ⟨rc_0, ?_⟩)
 rw [hdot]
 refine gD ?_
 refine d_fin ?_
 refine gW ?_
 refine g_dr mixed ?_
 replace hS := hS.drew
 refine gD ?_
 refine d_l1 rfl rfl rfl (hS.b 0 rfl) (v := .slice a d.length c) rfl ?_
 refine d_lm rfl rfl rfl (hS.b 2 rfl) (Nat.le_of_eq (by rw [rc_len])) ?_
 rw [List.drop_zero, List.take_of_length_le (Nat.le_of_eq (rc_len _))]
 refine gD ?_
 refine d_cl rfl rfl rfl (b_ConR (d := d) (M := [_, _, _]) (p := fun y => outd y r) (callFunc_of Tryz.func75 rfl rfl) (by omega) (p_outdoes r _) (fun hS => Ow.rd (hS.ok 1 (rowR (.slice a d.length c) d) rfl)) hS fun w1 hS => ⟨rc_0, ?_⟩)
 rw [hlate]
 refine gD ?_
 refine d_fin ?_
 refine gW ?_
 refine g_l1 rfl rfl (hS.b  0 rfl) rfl ?_
 refine gW ?_
 refine g_lm rfl rfl (hS.b 2 rfl) (Nat.le_of_eq (by rw [rc_len])) ?_
 rw [List.drop_zero, List.take_of_length_le (Nat.le_of_eq (rc_len _))]
 refine g_cl rfl rfl (b_staying (r := r) fun bs bf w1 h' => ?_)
 replace hS := hS.call0.2 _ _ h'
 clear h'
 replace hS : St w0 S0 w1 ([cel bs [dp bz] 67, cel bf [outF r] 72, cel bz [sv s, .slice a d.length c] T, rowR (.slice a d.length c) d] ++ [cel b3 (rc r) 40]) := hS.sel [3, 4, 0, 1, 2] rfl rfl
 have hF := hS.frame
 refine g_cl rfl rfl (b_ColStay (by omega) hF.1 fun v2 w2 h' => ?_)
 replace hS := hF.2 _ _ h'
 clear h' hF
 replace hS := hS.sel [0, 2, 3] rfl rfl
 obtain ⟨a2, c2, rfl⟩ := hS.rlen 1 rfl
 refine gW ?_
 refine g_ef0 rfl (ef_st hS 0 rfl rfl rfl rfl (Nat.le_of_ble_eq_true rfl) rfl fun w2 hS => ?_)
 refine gW ?_
 refine g_l1 rfl rfl (hS.b  0 rfl) rfl ?_
 refine gW ?_
 refine g_rq rfl rfl (in64 (by simp only [arv]; omega)) ?_
 refine gW ?_
 refine g_dr mixed ?_
 replace hS := hS.drew
 refine gD ?_
 refine d_l1 rfl rfl rfl (hS.b 0 rfl) (v := .slice a2 (stay r d).length c2) rfl ?_
 refine d_lm rfl rfl rfl (hS.b 2 rfl) (Nat.le_of_eq (by rw [rc_len])) ?_
 rw [List.drop_zero, List.take_of_length_le (Nat.le_of_eq (rc_len _))]
 refine d_e rfl rfl (ef_bl (rs := rc r) hS (evcs_1 rfl (rc_len _)) fun gb w1 hS => ⟨rc_1 rfl rfl rfl rfl (hS.b 0 rfl) rfl rc_0, ?_⟩)
 refine d_e rfl rfl (ef_ap (n := (stay r d).length) (m := 1) (ys := rc r) hS 1 rfl rfl rfl (.inl ⟨40, .inr ⟨gb, 0, 1, _, rfl, Nat.le_refl _, Nat.le_of_eq (by rw [rc_len]), by rw [List.drop_zero, List.take_of_length_le (Nat.le_of_eq (by rw [rc_len]))], (hS.b 3 rfl).r⟩⟩) (List.all_eq_true.2 (rc_one r)) (by omega) (by omega) fun v1 w1 hS => ⟨rc_0, ?_⟩)
 obtain ⟨a3, c3, rfl⟩ := hS.rlen 1 rfl
 refine gD ?_
 refine d_e0 rfl rfl (ef_st hS 0 rfl rfl rfl rfl (Nat.le_of_ble_eq_true rfl) rfl fun w2 hS => ⟨rc_0, ?_⟩)
 refine d_fin ?_
 have ets : fl rc (stay r d) ++ rc r = fl rc (stay r d ++ [r]) := by rw [fl_app]; simp [fl]
 have etl : (stay r d).length + 1 = (stay r d ++ [r]).length := by simp
 rw [ets, etl] at hS
 refine gW ?_
 refine g_l1 rfl rfl (hS.b  0 rfl) rfl ?_
 replace hS : St w0 S0 w2 ([rowR (.slice a3 (stay r d ++ [r]).length c3) (stay r d ++ [r])] ++ [cel bz [sv s, .slice a3 (stay r d ++ [r]).length c3] T]) := hS.sel [1, 0] rfl rfl
 have hF := hS.frame
 refine g_cl rfl rfl (b_SortR rfl (by rw [← etl]; omega) hsort hF.1 fun w2 h' => ?_)
 replace hS := hF.2 _ _ h'
 refine gW ?_
 exact g_ret (q_2 rfl rfl (h _ _ _ (hS.sel [1, 0] rfl rfl)))
end
end Go.Proofs.YtfffdhafbbbpcaaGreatDoor
