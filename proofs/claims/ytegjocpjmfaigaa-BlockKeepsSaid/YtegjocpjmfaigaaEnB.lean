/- Operations in a resolved form (their types looked up beforehand), what they yield over a list of known slots, and that this is what the model's operation yields. -/
import Derived.Test.YtegjocpjmfaigaaEnA
set_option linter.unusedSimpArgs false
set_option linter.unusedVariables false
namespace Go.En

abbrev TT := List (Nat × Value)
def lk : TT → Nat → Option Value
  | [], _ => none
  | (a, v) :: T, t => match Nat.beq a t with | true => some v | false => lk T t
def ev (T : TT) : Operand → Option Value
  | .tmp t => lk T t
  | .const v => some v
  | .global g => some (.pointer (some ⟨g, 0, none⟩))
  | .func f => some (.func (.func f) #[] #[])

/-- equality of the constants that occur -/
def veq : Value → Value → Bool
  | .bool a, .bool b => a == b
  | .int k a, .int j b => decide (k = j) && decide (a = b)
  | .string a, .string b => decide (a = b)
  | .pointer a, .pointer b => decide (a = b)
  | .slice a m n, .slice b k l => decide (a = b) && decide (m = k) && decide (n = l)
  | .map a, .map b => decide (a = b)
  | .nilFunc, .nilFunc => true
  | .nilIface, .nilIface => true
  | _, _ => false
theorem veq_eq {a b : Value} (h : veq a b = true) : a = b := by
  unfold veq at h
  split at h <;> simp_all
def veqs : List Value → List Value → Bool
  | [], [] => true
  | a :: l, b :: m => veq a b && veqs l m
  | _, _ => false
theorem veqs_eq : ∀ {l m : List Value}, veqs l m = true → l = m
  | [], [], _ => rfl
  | a :: l, b :: m, h => by simp [veqs] at h; rw [veq_eq h.1, veqs_eq h.2]
  | [], _ :: _, h => by simp [veqs] at h
  | _ :: _, [], h => by simp [veqs] at h
def oeq : Operand → Operand → Bool
  | .tmp a, .tmp b => decide (a = b)
  | .const a, .const b => veq a b
  | .global a, .global b => decide (a = b)
  | .func a, .func b => decide (a = b)
  | _, _ => false
theorem oeq_eq {a b : Operand} (h : oeq a b = true) : a = b := by
  cases a <;> cases b <;> simp [oeq] at h <;> first | rw [h] | rw [veq_eq h]
def oeqs : List Operand → List Operand → Bool
  | [], [] => true
  | a :: l, b :: m => oeq a b && oeqs l m
  | _, _ => false
theorem oeqs_eq : ∀ {l m : List Operand}, oeqs l m = true → l = m
  | [], [], _ => rfl
  | a :: l, b :: m, h => by simp [oeqs] at h; rw [oeq_eq h.1, oeqs_eq h.2]
  | [], _ :: _, h => by simp [oeqs] at h
  | _ :: _, [], h => by simp [oeqs] at h
def oopt : Option Operand → Option Operand → Bool
  | none, none => true
  | some a, some b => oeq a b
  | _, _ => false
theorem oopt_eq {a b : Option Operand} (h : oopt a b = true) : a = b := by
  cases a <;> cases b <;> simp [oopt] at h
  · rfl
  · rw [oeq_eq h]

/-- runs of cells -/
abbrev ZZ := List (Nat × Value)
def zx : ZZ → List Value
  | [] => []
  | (n, v) :: r => List.replicate n v ++ zx r

inductive MK where
  | mv (x : Operand)
  | pk (c a b : Operand)
  | nc (x : Operand)
  | fa (x : Operand) (off : Nat)
  | fl (x : Operand) (off : Nat) (n : Option Nat)
  | ias (x i : Operand) (sz : Nat)
  | iaa (x i : Operand) (len sz : Nat)
  | ixa (x i : Operand) (len sz : Nat) (n : Option Nat)
  | ixs (x i : Operand)
  | ex (x : Operand) (i : Nat)
  | nt (x : Operand)
  | ar (op : BinOp) (k : IntKind) (x y : Operand) (exact : Bool)
  | dv (op : BinOp) (k : IntKind) (x y : Operand)
  | bt (op : BinOp) (k : IntKind) (x y : Operand)
  | sh (op : BinOp) (k : IntKind) (x y : Operand)
  | cm (op : BinOp) (x y : Operand)
  | se (op : BinOp) (x y : Operand)
  | sa (x y : Operand)
  | be (op : BinOp) (x y : Operand)
  | pn (op : BinOp) (x : Operand)
  | sn (op : BinOp) (x : Operand)
  | mf (f : Nat) (first captured : List Operand)
  | mi (t : TypeId) (x : Operand)
  | ss (x : Operand) (lo hi : Option Operand)
  | sl (x : Operand) (lo hi mx : Option Operand) (sz : Nat)
  | sp (x : Operand) (lo hi : Option Operand) (n sz : Nat)
  | ln (str : Bool) (x : Operand)
  | la (n : Nat) (x : Operand)
  | mm (isMax : Bool) (x y : Operand)
  | ci (k : IntKind) (x : Operand)
  | cs (x : Operand)
  | bd (z : ZZ) (parts : List (Nat × Nat × Operand))
  | ld (x : Operand) (n : Option Nat)
  | bs (x : Operand)
  | al (z : ZZ) (E : TypeId)
  | bx (E : TypeId) (x : Operand)
  | st (x v : Operand) (n : Nat)
  | bl (E : TypeId) (sz : Nat) (xs : List Operand)
  | ms (E : TypeId) (sz bytes : Nat) (z : ZZ) (len cap : Operand)
  | ap (E : TypeId) (sz bytes : Nat) (z : ZZ) (x y : Operand)
  | cp (sz : Nat) (x y : Operand)
  | sb (E : TypeId) (x : Operand)
  | cl (f : FuncId) (args : List Operand)
  | cv (x : Operand) (args : List Operand)
  | un (k : IntKind) (x : Operand)
  | aq (op : BinOp) (n : Nat) (x y : Operand)
  | mb (x : Operand)

def MK.ops : MK → List Operand
  | .mv x | .nc x | .fa x _ | .fl x _ _ | .ex x _ | .nt x | .pn _ x | .sn _ x | .mi _ x | .ln _ x | .la _ x | .ci _ x | .cs x | .ld x _ | .bs x | .bx _ x | .sb _ x | .un _ x | .mb x => [x]
  | .pk c a b => [c, a, b]
  | .ias x i _ | .iaa x i _ _ | .ixa x i _ _ _ | .ixs x i | .ar _ _ x i _ | .dv _ _ x i | .bt _ _ x i | .sh _ _ x i | .cm _ x i | .se _ x i | .sa x i | .be _ x i | .mm _ x i
  | .st x i _ | .ms _ _ _ _ x i | .ap _ _ _ _ x i | .cp _ x i | .aq _ _ x i => [x, i]
  | .mf _ a b => a ++ b
  | .ss x lo hi => [x] ++ lo.toList ++ hi.toList
  | .sl x lo hi mx _ => [x] ++ lo.toList ++ hi.toList ++ mx.toList
  | .sp x lo hi _ _ => [x] ++ lo.toList ++ hi.toList
  | .bd _ ps => ps.map (·.2.2)
  | .al _ _ => []
  | .bl _ _ xs => xs
  | .cl _ args => args
  | .cv x args => x :: args

section
variable (P : Program)
def isI (t : TypeId) (k : IntKind) : Bool := match P.underlying t with | some (.int k') => decide (k' = k) | _ => false
def isAg (t : TypeId) : Option Bool := match P.underlying t with | some (.struct _) | some (.array ..) => some true | some _ => some false | none => none
/-- how a part of type t is read: one cell, or so many -/
def rdAs (t : TypeId) (n : Option Nat) : Bool := match isAg P t, n, P.info? t with
  | some true, some n, some i => decide (i.size = n)
  | some false, none, _ => true
  | _, _, _ => false
def hasSize (t : TypeId) (n : Nat) : Bool := match P.info? t with | some i => decide (i.size = n) | none => false
def zeroIs (t : TypeId) (z : ZZ) : Bool := match P.info? t with | some i => (match i.zero with | some v => veqs v.cells.toList (zx z) | none => false) | none => false
def bytesAre (t : TypeId) (n : Nat) : Bool := match P.info? t with | some i => decide (i.bytes = n) | none => false

def isB (c : Call) (b : Builtin) : Bool := match c.callee with | .builtin b' => decide (b' = b) | _ => false
/-- where a part lies in a struct or an array -/
def plc (t : TypeId) (i : Nat) : Option (Nat × Nat) := match P.underlying t with
  | some (.struct fs) => (fs[i]?).map fun f => (f.offset, P.cellsOf f.type)
  | some (.array _ e) => some (i * P.cellsOf e, P.cellsOf e)
  | _ => none
def chkParts (t : TypeId) : List (Nat × Operand) → List (Nat × Nat × Operand) → Bool
  | [], [] => true
  | (i, x) :: ps, (off, sz, y) :: qs => decide (plc P t i = some (off, sz)) && oeq x y && chkParts t ps qs
  | _, _ => false

def chkO (o : Op) (_ty : TypeId) (m : MK) : Bool :=
  match m, o with
  | .mv x, .move y => oeq x y
  | .mv x, .assign y => oeq x y
  | .pk c a b, .pick c' a' b' => oeq c c' && oeq a a' && oeq b b'
  | .nc x, .nilCheck y => oeq x y
  | .fa x off, .fieldAddr s y f => oeq x y && (match P.underlying s with | some (.struct fs) => (match fs[f]? with | some fd => decide (fd.offset = off) && (match P.info? fd.type with | some i => decide (i.size ≠ 0) | none => false) | none => false) | _ => false)
  | .fl x off n, .field s y f => oeq x y && (match P.underlying s with | some (.struct fs) => (match fs[f]? with | some fd => decide (fd.offset = off) && rdAs P fd.type n | none => false) | _ => false)
  | .ias x i sz, .indexAddr t y j => oeq x y && oeq i j && (match P.underlying t with | some (.slice e) => hasSize P e sz | _ => false)
  | .iaa x i len sz, .indexAddr t y j => oeq x y && oeq i j && (match P.underlying t with | some (.array l e) => decide (l = len) && hasSize P e sz | _ => false)
  | .ixa x i len sz n, .index t y j => oeq x y && oeq i j && (match P.underlying t with | some (.array l e) => decide (l = len) && hasSize P e sz && rdAs P e n | _ => false)
  | .ixs x i, .index t y j => oeq x y && oeq i j && (match P.underlying t with | some .string => true | _ => false)
  | .ex x i, .extract y j => oeq x y && decide (i = j)
  | .nt x, .unOp .not _ y => oeq x y
  | .ar op k x y _, .binOp op' t x' y' _ => decide (op = op') && oeq x x' && oeq y y' && (op matches .add | .sub | .mul) && isI P t k
  | .dv op k x y, .binOp op' t x' y' _ => decide (op = op') && oeq x x' && oeq y y' && (op matches .quo | .rem) && isI P t k
  | .bt op k x y, .binOp op' t x' y' _ => decide (op = op') && oeq x x' && oeq y y' && (op matches .and | .or | .xor | .andNot) && isI P t k
  | .sh op k x y, .binOp op' t x' y' _ => decide (op = op') && oeq x x' && oeq y y' && (op matches .shl | .shr) && isI P t k
  | .cm op x y, .binOp op' _ x' y' _ => decide (op = op') && oeq x x' && oeq y y' && (op matches .eql | .neq | .lss | .leq | .gtr | .geq)
  | .se op x y, .binOp op' _ x' y' _ => decide (op = op') && oeq x x' && oeq y y' && (op matches .eql | .neq)
  | .sa x y, .binOp .add _ x' y' _ => oeq x x' && oeq y y'
  | .be op x y, .binOp op' t x' y' _ => decide (op = op') && oeq x x' && oeq y y' && (op matches .eql | .neq) && (match P.underlying t with | some .bool => true | _ => false)
  | .pn op x, .binOp op' t x' y' _ => decide (op = op') && (op matches .eql | .neq) && oeq x x' && oeq y' (.const (.pointer none)) && (match P.underlying t with | some (.pointer _) => true | _ => false)
  | .sn op x, .binOp op' t x' y' _ => decide (op = op') && (op matches .eql | .neq) && oeq x x' && oeq y' (.const (.slice none 0 0)) && (match P.underlying t with | some (.slice _) => true | _ => false)
  | .mf f a b, .makeFunc (.func g) a' b' => decide (f = g) && oeqs a a'.toList && oeqs b b'.toList
  | .mi t x, .makeInterface t' y => decide (t = t') && oeq x y && (match P.underlying t with | some (.interface _) => false | some _ => true | none => false)
  | .ss x lo hi, .slice t y l h none => oeq x y && oopt lo l && oopt hi h && (match P.underlying t with | some .string => true | _ => false)
  | .sl x lo hi mx sz, .slice t y l h m => oeq x y && oopt lo l && oopt hi h && oopt mx m && (mx.isNone || hi.isSome) && (match P.underlying t with | some (.slice e) => hasSize P e sz | _ => false)
  | .sp x lo hi n sz, .slice t y l h none => oeq x y && oopt lo l && oopt hi h && (match P.underlying t with | some (.array k e) => decide (k = n) && hasSize P e sz | _ => false)
  | .ln b x, .call c => isB c .len && oeqs [x] c.args.toList && (match c.argTypes[0]? with | some t => (match P.underlying t with | some .string => b | some (.slice _) => !b | _ => false) | none => false)
  | .la n x, .call c => isB c .len && oeqs [x] c.args.toList && (match c.argTypes[0]? with | some t => (match P.underlying t with | some (.array k _) => decide (k = n) | _ => false) | none => false)
  | .mm b x y, .call c => (if b then isB c .max else isB c .min) && oeqs [x, y] c.args.toList
  | .ci k x, .convert s d y => oeq x y && isI P d k && (P.underlying s).isSome
  | .cs x, .convert s d y => oeq x y && (P.underlying s).isSome && (match P.underlying d with | some .string => true | _ => false)
  | .bd z ps, .build t qs => zeroIs P t z && chkParts P t qs.toList ps && (match P.underlying t with | some (.struct fs) => fs.toList.all fun f => (P.info? f.type).isSome | some (.array _ e) => (P.info? e).isSome | _ => false)
  | .ld x n, .load t y => oeq x y && rdAs P t n
  | .bs x, .convert s d y => oeq x y && (match P.underlying s, P.underlying d with | some (.slice e), some .string => (match P.underlying e with | some (.int .u8) => true | _ => false) | _, _ => false)
  | .al z E, .alloc E' => decide (E = E') && zeroIs P E z
  | .bx E x, .box E' y => decide (E = E') && oeq x y
  | .st x v n, .store t y u => oeq x y && oeq v u && hasSize P t n
  | .bl E sz xs, .buildSlice t l qs => decide (l = xs.length) && oeqs xs (qs.toList.map (·.2)) && decide (qs.toList.map (·.1) = List.range xs.length) && decide (xs.length * sz ≤ 2 ^ 24) && (match P.underlying t with | some (.slice e) => decide (e = E) && hasSize P e sz && (match P.info? e with | some i => i.zero.isSome | none => false) | _ => false)
  | .ms E sz bytes z l c, .makeSlice t l' c' => oeq l l' && oeq c c' && (match P.underlying t with | some (.slice e) => decide (e = E) && hasSize P e sz && bytesAre P e bytes && zeroIs P e z && decide ((zx z).length = sz) | _ => false)
  | .ap E sz bytes z x y, .call c => isB c .append && oeqs [x, y] c.args.toList && (match c.argTypes[0]? with | some t => (match P.underlying t with | some (.slice e) => decide (e = E) && hasSize P e sz && bytesAre P e bytes && zeroIs P e z && decide ((zx z).length = sz) | _ => false) | none => false) && (match c.argTypes[1]? with | some u => (match P.underlying u with | some (.slice _) | some .string => true | _ => false) | none => false)
  | .cp sz x y, .call c => isB c .copy && oeqs [x, y] c.args.toList && (match c.argTypes[0]? with | some t => (match P.underlying t with | some (.slice e) => hasSize P e sz | _ => false) | none => false)
  | .sb E x, .convert s d y => oeq x y && (match P.underlying s with | some .string => true | _ => false) && (match P.underlying d with | some (.slice e) => decide (e = E) && (match P.underlying e with | some (.int .u8) => true | _ => false) | _ => false)
  | .cl f args, .call c => (match c.callee with | .value (.func g) => decide (f = g) && oeqs args c.args.toList && (match P.funcs[f]? with | some fn => fn.body.isSome && !(fn.name == "runtime.NumGoroutine") | none => false) | _ => false)
  | .un k x, .unOp .xor t y => oeq x y && isI P t k
  | .aq op n x y, .binOp op' t x' y' _ => decide (op = op') && oeq x x' && oeq y y' && (op matches .eql | .neq) && !(P.eqGuardType P.depth t) && (match P.underlying t with | some (.array k e) => decide (k = n) && hasSize P e 1 && (match P.underlying e with | some (.int .u8) => true | _ => false) | _ => false)
  | .mb x, .convert s d y => oeq x y && decide (s = d) && (match P.underlying s with | some (.slice e) => (match P.underlying e with | some (.int .u8) => true | _ => false) | _ => false)
  | .cv x args, .call c => (match c.callee with | .value (.tmp t) => oeq x (.tmp t) && oeqs args c.args.toList | _ => false)
  | _, _ => false
end

def kn : IntKind → Nat
  | .i8 => 0 | .i16 => 1 | .i32 => 2 | .i64 => 3 | .u8 => 4 | .u16 => 5 | .u32 => 6 | .u64 => 7
def keq (j k : IntKind) : Bool := Nat.beq (kn j) (kn k)
theorem keq_eq {j k : IntKind} (h : keq j k = true) : j = k := by
  have := Nat.eq_of_beq_eq_true h
  cases j <;> cases k <;> first | rfl | simp [kn] at this
/-- an int of that kind -/
def evi (T : TT) (k : IntKind) (x : Operand) : Option Int := match ev T x with
  | some (.int j n) => (match keq j k with | true => some n | false => none)
  | _ => none
theorem evi_ev {T : TT} {k : IntKind} {x : Operand} {n : Int} (h : evi T k x = some n) : ev T x = some (.int k n) := by
  unfold evi at h
  split at h
  · rename_i j m he
    split at h
    · rename_i hk; simp at h; subst h; rw [he, keq_eq hk]
    · cases h
  · cases h
/-- what an operation yields: nothing known; a value; a value under a condition. -/
inductive R3 where
  | bad
  | ok (v : Value)
  | rq (c : Prop) (v : Value)

def arv (op : BinOp) (x y : Int) : Int := match op with | .add => x + y | .sub => x - y | _ => x * y
def cmv (op : BinOp) (x y : Int) : Bool := match op with
  | .eql => decide (x = y) | .neq => !decide (x = y) | .lss => decide (x < y) | .leq => decide (x ≤ y) | .gtr => decide (y < x) | _ => decide (y ≤ x)
def inK (k : IntKind) (n : Int) : Prop := k.min ≤ n ∧ n ≤ k.max
def nilv (op : BinOp) (a : Option Addr) : Bool := match op with | .eql => a.isNone | _ => !a.isNone
def bnd (T : TT) (d : Nat) : Option Operand → Option Int
  | none => some d
  | some x => match ev T x with | some (.int _ n) => some n | _ => none
def btv (op : BinOp) (k : IntKind) (x y : Int) : Int :=
  k.wrap (match op with
    | .and => (BitVec.ofInt k.bits x &&& BitVec.ofInt k.bits y).toNat
    | .or => (BitVec.ofInt k.bits x ||| BitVec.ofInt k.bits y).toNat
    | .xor => (BitVec.ofInt k.bits x ^^^ BitVec.ofInt k.bits y).toNat
    | _ => (BitVec.ofInt k.bits x &&& ~~~ BitVec.ofInt k.bits y).toNat : Nat)
def shv (op : BinOp) (k : IntKind) (x y : Int) : Int := match op with
  | .shl => k.wrap (x * 2 ^ (min y.toNat k.bits))
  | _ => x.fdiv (2 ^ (min y.toNat k.bits))

def evs (T : TT) : List Operand → Option (List Value)
  | [] => some []
  | x :: l => match ev T x, evs T l with | some v, some r => some (v :: r) | _, _ => none

/-- cells put into a row -/
def spl (l : List Value) (off : Nat) (vs : List Value) : List Value := l.take off ++ vs ++ l.drop (off + vs.length)

def fillP (T : TT) : List (Nat × Nat × Operand) → List Value → Option (List Value)
  | [], l => some l
  | (off, sz, x) :: ps, l => match ev T x with
    | some v => match Nat.beq v.cells.toList.length sz, Nat.ble (off + v.cells.toList.length) l.length with
      | true, true => fillP T ps (spl l off v.cells.toList)
      | _, _ => none
    | none => none

/-- where a piece of a row begins (at no capacity the address stays) -/
def slo (lo : Option Operand) (o m l sz : Nat) : Nat := match lo with
  | none => o
  | some _ => if m = l then o else o + l * sz

def pev (T : TT) : MK → R3
  | .mv x => match ev T x with | some v => .ok v | none => .bad
  | .pk c a b => match ev T c with
    | some (.bool true) => (match ev T a with | some v => .ok v | none => .bad)
    | some (.bool false) => (match ev T b with | some v => .ok v | none => .bad)
    | _ => .bad
  | .nc x => match ev T x with | some (.pointer (some a)) => .ok (.pointer (some a)) | _ => .bad
  | .fa x off => match ev T x with | some (.pointer (some ⟨b, o, none⟩)) => .ok (.pointer (some ⟨b, o + off, none⟩)) | _ => .bad
  | .fl x off n => match ev T x, n with
    | some (.agg ⟨l⟩), none => (match l[off]? with | some v => .ok v | none => .bad)
    | some (.agg ⟨l⟩), some k => .ok (.agg ⟨(l.drop off).take k⟩)
    | _, _ => .bad
  | .ias x i sz => match ev T x, ev T i with
    | some (.slice (some ⟨b, o, none⟩) len _), some (.int _ j) => .rq (0 ≤ j ∧ j < (len : Int)) (.pointer (some ⟨b, o + j.toNat * sz, none⟩))
    | _, _ => .bad
  | .iaa x i len sz => match ev T x, ev T i with
    | some (.pointer (some ⟨b, o, none⟩)), some (.int _ j) => .rq (0 ≤ j ∧ j < (len : Int)) (.pointer (some ⟨b, o + j.toNat * sz, none⟩))
    | _, _ => .bad
  | .ixa x i len sz n => match ev T x, ev T i, n with
    | some (.agg ⟨l⟩), some (.int _ j), some k => .rq (0 ≤ j ∧ j < (len : Int)) (.agg ⟨(l.drop (j.toNat * sz)).take k⟩)
    | some (.agg ⟨l⟩), some (.int _ j), none => .rq (0 ≤ j ∧ j < (len : Int) ∧ j.toNat * sz < l.length) (l.getD (j.toNat * sz) undef)
    | _, _, _ => .bad
  | .ixs x i => match ev T x, ev T i with
    | some (.string s), some (.int _ j) => .rq (0 ≤ j ∧ j < (s.data.toList.length : Int)) (.int .u8 (s.data.toList.getD j.toNat 0).toNat)
    | _, _ => .bad
  | .ex x i => match ev T x with | some (.tuple ⟨l⟩) => (match l[i]? with | some v => .ok v | none => .bad) | _ => .bad
  | .nt x => match ev T x with | some (.bool b) => .ok (.bool !b) | _ => .bad
  | .ar op k x y exact => match evi T k x, evi T k y, exact with
    | some a, some b, true => .rq (inK k (arv op a b)) (.int k (arv op a b))
    | some a, some b, false => .ok (.int k (k.wrap (arv op a b)))
    | _, _, _ => .bad
  | .dv op k x y => match evi T k x, evi T k y, op with
    | some a, some b, .quo => .rq (b ≠ 0) (.int k (k.wrap (a.tdiv b)))
    | some a, some b, .rem => .rq (b ≠ 0) (.int k (a.tmod b))
    | _, _, _ => .bad
  | .bt op k x y => match evi T k x, evi T k y with
    | some a, some b => .ok (.int k (btv op k a b))
    | _, _ => .bad
  | .sh op k x y => match evi T k x, ev T y with
    | some a, some (.int _ b) => .rq (0 ≤ b) (.int k (shv op k a b))
    | _, _ => .bad
  | .cm op x y => match ev T x, ev T y with
    | some (.int k a), some (.int j b) => (match keq k j with | true => .ok (.bool (cmv op a b)) | false => .bad)
    | _, _ => .bad
  | .se op x y => match ev T x, ev T y, op with
    | some (.string a), some (.string b), .eql => .ok (.bool (decide (a.data.toList = b.data.toList)))
    | some (.string a), some (.string b), .neq => .ok (.bool (!decide (a.data.toList = b.data.toList)))
    | _, _, _ => .bad
  | .sa x y => match ev T x, ev T y with
    | some (.string a), some (.string b) => .rq (a.size + b.size ≤ 9223372036854775807) (.string (a ++ b))
    | _, _ => .bad
  | .be op x y => match ev T x, ev T y, op with
    | some (.bool a), some (.bool b), .eql => .ok (.bool (a == b))
    | some (.bool a), some (.bool b), .neq => .ok (.bool (!(a == b)))
    | _, _, _ => .bad
  | .pn op x => match ev T x with
    | some (.pointer a) => .ok (.bool (nilv op a))
    | _ => .bad
  | .sn op x => match ev T x with
    | some (.slice a _ _) => .ok (.bool (nilv op a))
    | _ => .bad
  | .mf f a b => match evs T a, evs T b with | some l, some m => .ok (.func (.func f) ⟨l⟩ ⟨m⟩) | _, _ => .bad
  | .mi t x => match ev T x with | some v => .ok (.iface t v) | none => .bad
  | .ss x lo hi => match ev T x with
    | some (.string s) => (match bnd T 0 lo, bnd T s.size hi with
      | some l, some h => .rq (0 ≤ l ∧ l ≤ h ∧ h ≤ (s.size : Int)) (.string (s.extract l.toNat h.toNat))
      | _, _ => .bad)
    | _ => .bad
  | .sl x lo hi mx sz => match ev T x with
    | some (.slice (some ⟨b, o, none⟩) len cap) => (match bnd T 0 lo, bnd T len hi, bnd T cap mx with
      | some l, some h, some m => .rq (0 ≤ l ∧ l ≤ h ∧ h ≤ m ∧ m ≤ (cap : Int)) (.slice (some ⟨b, slo lo o m.toNat l.toNat sz, none⟩) (h.toNat - l.toNat) (m.toNat - l.toNat))
      | _, _, _ => .bad)
    | some (.slice none len cap) => (match bnd T 0 lo, bnd T len hi, bnd T cap mx with
      | some l, some h, some m => .rq (0 ≤ l ∧ l ≤ h ∧ h ≤ m ∧ m ≤ (cap : Int)) (.slice none (h.toNat - l.toNat) (m.toNat - l.toNat))
      | _, _, _ => .bad)
    | _ => .bad
  | .sp x lo hi n sz => match ev T x with
    | some (.pointer (some ⟨b, o, none⟩)) => (match bnd T 0 lo, bnd T n hi with
      | some l, some h => .rq (0 ≤ l ∧ l ≤ h ∧ h ≤ (n : Int)) (.slice (some ⟨b, slo lo o n l.toNat sz, none⟩) (h.toNat - l.toNat) (n - l.toNat))
      | _, _ => .bad)
    | _ => .bad
  | .ln b x => match ev T x, b with
    | some (.slice _ n _), false => .ok (.int .i64 n)
    | some (.string s), true => .ok (.int .i64 s.size)
    | _, _ => .bad
  | .la n x => match ev T x with | some _ => .ok (.int .i64 n) | none => .bad
  | .mm b x y => match ev T x, ev T y, b with
    | some (.int k a), some (.int _ c), true => .ok (.int k (max a c))
    | some (.int k a), some (.int _ c), false => .ok (.int k (min a c))
    | _, _, _ => .bad
  | .ci k x => match ev T x with | some (.int _ n) => .ok (.int k (k.wrap n)) | _ => .bad
  | .cs x => match ev T x with | some (.string s) => .ok (.string s) | _ => .bad
  | .un k x => match evi T k x with | some a => .ok (.int k (btv .xor k (if k.signed then -1 else k.max) a)) | none => .bad
  | .bd z ps => match fillP T ps (zx z) with | some l => .ok (.agg ⟨l⟩) | none => .bad
  | _ => .bad

/-- what is known of an operation's operands -/
def Ag (T : TT) (xs : List Operand) (ρ : Operand → Value) : Prop := (∀ v, ρ (.const v) = v) ∧ ∀ x ∈ xs, ∀ v, ev T x = some v → ρ x = v

/-- An operation that leaves the world as it is, and yields v. -/
def Qt (P : Program) (m : MK) (T : TT) (w : World) (v : Value) : Prop :=
  ∀ (o : Oper) (ρ : Operand → Value), chkO P o.op o.type m = true → Ag T m.ops ρ → (execOp ρ o).run P w = .ok (.value v) w

end Go.En
