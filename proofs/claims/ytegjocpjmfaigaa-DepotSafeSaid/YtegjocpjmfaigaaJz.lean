/- The statement JournalNames: what is there, step by step. -/
import Derived.Test.YtegjocpjmfaigaaJm
set_option linter.unusedSimpArgs false
set_option linter.unusedVariables false
namespace Go.Proofs.Ytegjocpjmfaigaa
open Go.En

def jdataF : Nat → Dev → Nat → List UInt8 → Dev × Int × Nat
  | 0, D, i, _ => (D, 0, i)
  | f + 1, D, i, rest => if rest = [] then (D, 0, i) else
      let r := D.write i (1 :: rest.take 119)
      if r.2 ≠ 0 then (r.1, r.2, i) else jdataF f r.1 (i + 1) (rest.drop 119)
def jwriteF (D : Dev) (i : Nat) (g : Grp) : Dev × Int :=
  let r := jdataF (g.b.length + 1) D i g.b
  if r.2.1 ≠ 0 then (r.1, r.2.1) else
    if r.1.sync.2 ≠ 0 then r.1.sync else
      let c := r.1.sync.1.write r.2.2 (endedB g.n g.b)
      if c.2 ≠ 0 then c else c.1.sync
def Jou.appendF (J : Jou) (fr bk : Nat) (D : Dev) (b : List UInt8) : Jou × Dev × Int :=
  if J.shut then (J, D, 141) else if bk - J.used < blk b.length ∨ maxN < J.next then (J, D, 150) else
    let r := jwriteF D (fr + J.used) ⟨J.next, b⟩
    if r.2 ≠ 0 then ({ J with shut := true }, r.1, r.2) else ({ J with l := J.l ++ [⟨J.next, b⟩], next := J.next + 1 }, r.1, 0)
theorem jdataF_eq : ∀ (f : Nat) (D : Dev) (i : Nat) (rest : List UInt8), rest.length < f → jdata D i rest = jdataF f D i rest
  | 0, _, _, _, h => by cases h
  | f + 1, D, i, rest, h => by
    rw [jdata, jdataF]
    by_cases hr : rest = []
    · rw [dif_pos hr, if_pos hr]
    · have hp : 0 < rest.length := List.length_pos_iff.2 hr
      rw [dif_neg hr, if_neg hr]
      simp only
      by_cases he : (D.write (i : Int) (1 :: rest.take 119)).2 ≠ 0
      · rw [if_pos he, if_pos he]
      · rw [if_neg he, if_neg he]
        exact jdataF_eq f _ _ _ (by rw [List.length_drop]; omega)
theorem appendF_eq (J : Jou) (fr bk : Nat) (D : Dev) (b : List UInt8) : J.append fr bk D b = J.appendF fr bk D b := by
  unfold Jou.append Jou.appendF jwrite jwriteF
  rw [jdataF_eq (b.length + 1) D (fr + J.used) b (by omega)]
def arm' (D : Dev) (f : Fal) : Dev := if D.down then D else D.arm f
def one' : List UInt8 := [111, 110, 101]
def two' : List UInt8 := [116, 119, 111]
def six' : List UInt8 := [115, 105, 120]
def new' : List UInt8 := [110, 101, 119]
def xD0 : Dev := Dev.new 10
def xJ0 : Jou := openJ xD0 2 6
def xA1 := xJ0.appendF 2 6 xD0 one'
def xA2 := xA1.1.appendF 2 6 xA1.2.1 two'
def xK0 : Jou := openJ xA2.2.1 2 6
def xD3 : Dev := arm' xA2.2.1 ⟨4, 0, 100⟩
def xA3 := xK0.appendF 2 6 xD3 six'
def xA4 := xA3.1.appendF 2 6 xA3.2.1 six'
def xD5 : Dev := xA4.2.1.boot
def xM0 : Jou := openJ xD5 2 6
def xD6 : Dev := arm' xD5 ⟨4, 0, 128⟩
def xA5 := xM0.appendF 2 6 xD6 six'
def xD8 : Dev := xA5.2.1.boot
def xN0 : Jou := openJ xD8 2 6
def xN1 : Jou := xN0.begin 9
def xA6 := xN1.appendF 2 6 xD8 new'
def xQ0 : Jou := openJ xA6.2.1 2 6
theorem f1 : xA1.2.2 = 0 := by decide +kernel
theorem f2 : xA2.2.2 = 0 := by decide +kernel
theorem f2a : xA2.2.1.down = false ∧ xA2.2.1.cells.length = 10 ∧ xA2.2.1.waits.length = 0 := by decide +kernel
theorem f2b : xK0.l.map Grp.b = [one', two'] ∧ xK0.first = 1 ∧ xK0.last = 2 ∧ xK0.next = 3 ∧ xK0.used = 4 := by decide +kernel
theorem f3 : xA3.2.2 = 141 := by decide +kernel
theorem f4 : xA4.2.2 = 141 ∧ xA4.2.1.down = true ∧ xA4.2.1.cells.length = 10 := by decide +kernel
theorem f5 : xM0.l.map Grp.b = [one', two'] ∧ xM0.next = 3 := by decide +kernel
theorem f6 : xA5.2.2 = 141 ∧ xA5.2.1.cells.length = 10 := by decide +kernel
theorem f7 : xN0.l.map Grp.b = [one', two', six'] ∧ xN0.last = 3 ∧ xN0.used = 6 ∧ xN0.next = 4 := by decide +kernel
theorem f8 : xA6.2.2 = 0 ∧ xA6.2.1.down = false ∧ xA6.2.1.cells.length = 10 := by decide +kernel
theorem f9 : xQ0.l.map Grp.b = [new'] ∧ xQ0.first = 9 ∧ xQ0.next = 10 := by decide +kernel
end Go.Proofs.Ytegjocpjmfaigaa
