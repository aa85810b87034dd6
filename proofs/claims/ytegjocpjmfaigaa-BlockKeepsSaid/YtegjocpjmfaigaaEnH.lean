/- The walk: code in a resolved form, a list of what is still to be done, and one rule a step. -/
import Derived.Test.YtegjocpjmfaigaaEnG
set_option linter.unusedSimpArgs false
set_option linter.unusedVariables false
namespace Go.En

structure MOp where
  d : Option Nat
  g : Option (Nat × Bool)
  k : MK

/-- A region that draws its order, taken apart: yield a quiet one; carry out a turning one, and read some quiet ones again behind it; one of several turning ones; the end. -/
inductive DT where
  | fin
  | q (i : Nat) (t : DT)
  | e (i : Nat) (rc : List Nat) (t : DT)
  | alt (ts : List DT)

inductive MC where
  | sk
  | rt
  | xt (id : Nat)
  | sq (a b : MC)
  | rg (l : List MOp)
  | dr (l : List MOp) (pm : List Nat) (t : DT)
  | cd (x : Operand) (a b : MC)
  | bk (id : Nat) (c : MC)
  | lp (c : MC)
  | sc (c : MC)
  | lb (l : Nat)
  | rf (x : Operand) (ps : List Nat) (a b : MC)

def geq (ops : Array Oper) (g : Option (Nat × Bool)) (h : Option (Nat × Bool)) : Bool := match g, h with
  | none, none => true
  | some (j, b), some (t, c) => (match ops[j]? with | some o => (match o.dst with | some d => decide (d = t) | none => false) | none => false) && decide (b = c)
  | _, _ => false
def chkOp (P : Program) (ops : Array Oper) (o : Oper) (m : MOp) : Bool :=
  decide (o.dst = m.d) && geq ops o.guard m.g && chkO P o.op o.type m.k
def chkOps (P : Program) (ops : Array Oper) : List Oper → List MOp → Bool
  | [], [] => true
  | o :: os, m :: ms => chkOp P ops o m && chkOps P ops os ms
  | _, _ => false

/-- The slots that are known, the calls that are deferred, how many slots there are. -/
structure Tm (T : TT) (D : List Deferred) (N : Nat) (a : Act) : Prop where
  ds : a.defers = D
  sz : a.tmps.size = N
  get : ∀ t v, lk T t = some v → a.tmps[t]? = some v

theorem Tm.ag {T : TT} {D : List Deferred} {N : Nat} {a : Act} (h : Tm T D N a) (xs : List Operand) : Ag T xs a.eval := by
  refine ⟨fun _ => rfl, fun x _ v hx => ?_⟩
  cases x with
  | tmp t =>
    have := h.get t v hx
    simp only [Act.eval, Array.getD_eq_getD_getElem?, this, Option.getD_some]
  | const c => simp [ev] at hx; exact hx
  | global g => simp [ev] at hx; exact hx
  | func f => simp [ev] at hx; exact hx

def putT (d : Option Nat) (v : Value) (T : TT) : TT := match d with
  | some t => (t, v) :: T
  | none => T
/-- may a slot be written: it is one -/
def dOk (d : Option Nat) (N : Nat) : Prop := ∀ t, d = some t → t < N
theorem Tm.put {T : TT} {D : List Deferred} {N : Nat} {a : Act} (h : Tm T D N a) {d : Option Nat} (v : Value) (hd : dOk d N) : Tm (putT d v T) D N (a.put d v) := by
  cases d with
  | none => exact h
  | some t =>
    refine ⟨h.ds, by simp [Act.put, h.sz], fun s u hs => ?_⟩
    simp only [putT, lk] at hs
    simp only [Act.put]
    cases e : Nat.beq t s with
    | true =>
      have := Nat.eq_of_beq_eq_true e; subst this
      rw [e] at hs; simp at hs; subst hs
      simp [h.sz, hd t rfl]
    | false =>
      have hne : t ≠ s := fun h => by subst h; simp at e
      rw [e] at hs; simp only at hs
      rw [Array.getElem?_setIfInBounds_ne hne]
      exact h.get s u hs

/-- The surroundings: the program, the round of a range over a function, how many slots. -/
structure Env where
  P : Program
  r : Option Nat
  N : Nat

abbrev QX := Exit → TT → List Deferred → World → Prop
def LQ (N : Nat) (Q : QX) : Exit → Act → World → Prop := fun e a w => ∃ T D, Tm T D N a ∧ Q e T D w

/-- a list of operations, one behind the other -/
def RL (E : Env) (l : List MOp) (T : TT) (D : List Deferred) (w : World) (Q : QX) : Prop :=
  ∀ (ops : Array Oper) (k : Nat) (a : Act), (∀ j, j < l.length → ∃ o m, ops[k + j]? = some o ∧ l[j]? = some m ∧ chkOp E.P ops o m = true) → (∀ (j : Nat) (m : MOp), l[j]? = some m → dOk m.d E.N) → Tm T D E.N a →
    wpOpsIn (FW E.r) 0 E.P ops (LQ E.N Q) (List.range' k l.length) a w

def allD (p : MOp → Bool) : MC → Bool
  | .rg l => l.all p
  | .dr l _ _ => l.all p
  | .sq a b => allD p a && allD p b
  | .cd _ a b => allD p a && allD p b
  | .bk _ c => allD p c
  | .lp c => allD p c
  | .sc c => allD p c
  | .rf _ ps a b => ps.all (fun t => p ⟨some t, none, .mv (.const .nilFunc)⟩) && allD p a && allD p b
  | _ => true

/-! ### what is checked of a region that draws -/

/-- the slots that an operation looks at -/
def MOp.sees (m : MOp) : List Nat := (m.k.ops.filterMap fun | .tmp t => some t | _ => none) ++ (match m.g with | some (t, _) => [t] | none => [])
/-- does an operation yield the same in whatever world? -/
def MK.plain : MK → Bool
  | .un .. | .mv _ | .pk .. | .nc _ | .fa .. | .fl .. | .ias .. | .iaa .. | .ixa .. | .ixs .. | .ex .. | .nt _ | .ar .. | .dv .. | .bt .. | .sh .. | .cm .. | .se .. | .sa .. | .be .. | .pn .. | .sn .. | .mf .. | .mi .. | .ss .. | .sl .. | .sp .. | .ln .. | .la .. | .mm .. | .ci .. | .cs _ | .bd .. => true
  | _ => false
def pr (pm : List Nat) (j i : Nat) : Bool := (pm.getD j 0).testBit i
def edges (ops : Array Oper) (i : Nat) : List Nat := match ops[i]? with
  | some o => (o.after.toList.filter (Region.binds .any ·)).map (·.on)
  | none => []
def chkE (ops : Array Oper) (pm : List Nat) : Bool :=
  (List.range ops.size).all fun i => (edges ops i).all (decide <| · < i) && (List.range ops.size).all fun k => !pr pm i k || (edges ops i).any fun e => e == k || pr pm e k
def dstIs (l : List MOp) (i : Nat) (t : Nat) : Bool := match l[i]? with | some m => decide (m.d = some t) | none => false
def seesB (l : List MOp) (i : Nat) (t : Nat) : Bool := match l[i]? with | some m => m.sees.contains t | none => true
def plainB (l : List MOp) (i : Nat) : Bool := match l[i]? with | some m => m.k.plain | none => false
/-- j writes a slot that i looks at -/
def feeds (l : List MOp) (j i : Nat) : Bool := match l[j]? with | some m => (match m.d with | some t => seesB l i t | none => false) | none => true
def sameD (l : List MOp) (i j : Nat) : Bool := match l[i]?, l[j]? with | some m, some m' => m.d.isSome && decide (m.d = m'.d) | _, _ => true
/-- at a place where the next turning operations are A: nothing else can come up -/
def shutB (l : List MOp) (pm C Ed A : List Nat) : Bool :=
  (List.range l.length).all fun j => C.contains j || Ed.contains j || A.contains j || (List.range l.length).any fun i => pr pm j i && !C.contains i && !Ed.contains i
/-- a turning operation, and the quiet ones that may come behind it -/
def turnB (l : List MOp) (pm C Ed : List Nat) (e : Nat) (rc : List Nat) : Bool :=
  decide (e < l.length) && !C.contains e && !Ed.contains e &&
  C.all fun j => (!feeds l j e || pr pm e j) && (pr pm e j || Ed.any (pr pm · j) || (!feeds l e j && !sameD l e j && (plainB l j || rc.contains j)))
mutual
def chkT (l : List MOp) (pm : List Nat) : DT → List Nat → List Nat → Bool
  | .fin, C, Ed => shutB l pm C Ed []
  | .q i t, C, Ed => decide (i < l.length) && !C.contains i && !Ed.contains i && !feeds l i i && (C.all fun j => (!feeds l j i || pr pm i j) && !feeds l i j && !sameD l i j) && chkT l pm t (i :: C) Ed
  | .e i rc t, C, Ed => shutB l pm C Ed [i] && turnB l pm C Ed i rc && chkT l pm t C (i :: Ed)
  | .alt ts, C, Ed => !ts.isEmpty && shutB l pm C Ed (roots ts) && chkTs l pm ts C Ed
def chkTs (l : List MOp) (pm : List Nat) : List DT → List Nat → List Nat → Bool
  | [], _, _ => true
  | .e i rc t :: ts, C, Ed => turnB l pm C Ed i rc && chkT l pm t C (i :: Ed) && chkTs l pm ts C Ed
  | _ :: _, _, _ => false
def roots : List DT → List Nat
  | [] => []
  | .e i _ _ :: ts => i :: roots ts
  | _ :: ts => roots ts
end
def chkD (ops : Array Oper) (l : List MOp) (pm : List Nat) (t : DT) : Bool := chkE ops pm && chkT l pm t [] []

/-- does the resolved code stand for that code? -/
def chkC (P : Program) : Code → MC → Bool
  | .skip, .sk => true
  | .ret, .rt => true
  | .exit i, .xt j => decide (i = j)
  | .seq a b, .sq x y => chkC P a x && chkC P b y
  | .region _ ops false, .rg l => chkOps P ops ops.toList l
  | .region _ ops true, .dr l pm t => chkOps P ops ops.toList l && chkD ops l pm t
  | .cond c a b, .cd x u v => oeq c x && chkC P a u && chkC P b v
  | .block i c, .bk j u => decide (i = j) && chkC P c u
  | .loop c, .lp u => chkC P c u
  | .scope c, .sc u => chkC P c u
  | .label i, .lb j => decide (i = j)
  | .rangeFunc g ps a b, .rf x qs u v => oeq g x && decide (ps.toList = qs) && chkC P a u && chkC P b v
  | _, _ => false

end Go.En
