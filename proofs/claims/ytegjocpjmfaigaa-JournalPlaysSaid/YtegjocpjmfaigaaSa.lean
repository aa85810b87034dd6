/- strings.Repeat, by the shelf's contract (the laying was written by the kit's tool). -/
import Derived.Shelf.Strings.Repeat
import Derived.Test.YtegjocpjmfaigaaWj
set_option linter.unusedSimpArgs false
set_option linter.unusedVariables false
namespace Go.Proofs.Ytegjocpjmfaigaa
open Go.Shelf
def layRep_ren : Go.Shelf.Ren := ⟨fun | 105 => 83 | 212 => 105 | 99 => 106 | 165 => 107 | 166 => 108 | 170 => 109 | 169 => 110 | 263 => 121 | 264 => 122 | 206 => 123 | 240 => 124 | 241 => 125 | 276 => 134 | 277 => 135 | n => n, fun | 9 => 9 | 3 => 3 | 4 => 4 | 20 => 20 | 0 => 0 | 46 => 148 | 109 => 149 | 5 => 5 | 72 => 154 | 76 => 158 | 51 => 176 | 146 => 177 | 53 => 179 | 148 => 180 | 70 => 152 | 37 => 35 | 75 => 157 | 127 => 182 | 164 => 190 | 80 => 160 | n => n, fun | n => n⟩
theorem layRep : Go.Proofs.Lays.n105 Try.prog layRep_ren := {
  mixed := by kernel_rfl
  f99 := Try.func106.trans (congrArg some (by kernel_rfl))
  f105 := Try.func83.trans (congrArg some (by kernel_rfl))
  f165 := Try.func107.trans (congrArg some (by kernel_rfl))
  f166 := Try.func108.trans (congrArg some (by kernel_rfl))
  f169 := Try.func110.trans (congrArg some (by kernel_rfl))
  f170 := Try.func109.trans (congrArg some (by kernel_rfl))
  f206 := Try.func123.trans (congrArg some (by kernel_rfl))
  f212 := Try.func105.trans (congrArg some (by kernel_rfl))
  f240 := Try.func124.trans (congrArg some (by kernel_rfl))
  f241 := Try.func125.trans (congrArg some (by kernel_rfl))
  f263 := Try.func121.trans (congrArg some (by kernel_rfl))
  f264 := Try.func122.trans (congrArg some (by kernel_rfl))
  f276 := Try.func134.trans (congrArg some (by kernel_rfl))
  f277 := Try.func135.trans (congrArg some (by kernel_rfl))
  t0 := Try.underlying0
  a0 := Try.isAgg0
  z0 := Try.sizeOf0
  v0 := Try.zeroValue0
  t3 := Try.underlying3
  a3 := Try.isAgg3
  z3 := Try.sizeOf3
  v3 := Try.zeroValue3
  t4 := Try.underlying4
  a4 := Try.isAgg4
  z4 := Try.sizeOf4
  v4 := Try.zeroValue4
  t5 := Try.underlying5
  a5 := Try.isAgg5
  z5 := Try.sizeOf5
  v5 := Try.zeroValue5
  t9 := Try.underlying9
  a9 := Try.isAgg9
  z9 := Try.sizeOf9
  v9 := Try.zeroValue9
  t20 := Try.underlying20
  a20 := Try.isAgg20
  z20 := Try.sizeOf20
  v20 := Try.zeroValue20
  t37 := Try.underlying35
  a37 := Try.isAgg35
  z37 := Try.sizeOf35
  v37 := Try.zeroValue35
  t46 := Try.underlying148
  a46 := Try.isAgg148
  z46 := Try.sizeOf148
  v46 := Try.zeroValue148
  t51 := Try.underlying176
  a51 := Try.isAgg176
  z51 := Try.sizeOf176
  v51 := Try.zeroValue176
  t53 := Try.underlying179
  a53 := Try.isAgg179
  z53 := Try.sizeOf179
  v53 := Try.zeroValue179
  t70 := Try.underlying152
  a70 := Try.isAgg152
  z70 := Try.sizeOf152
  v70 := Try.zeroValue152
  t72 := Try.underlying154
  a72 := Try.isAgg154
  z72 := Try.sizeOf154
  v72 := Try.zeroValue154
  t75 := Try.underlying157
  a75 := Try.isAgg157
  z75 := Try.sizeOf157
  v75 := Try.zeroValue157
  t76 := Try.underlying158
  a76 := Try.isAgg158
  z76 := Try.sizeOf158
  v76 := Try.zeroValue158
  t109 := Try.underlying149
  a109 := Try.isAgg149
  z109 := Try.sizeOf149
  v109 := Try.zeroValue149
  t127 := Try.underlying182
  a127 := Try.isAgg182
  z127 := Try.sizeOf182
  v127 := Try.zeroValue182
  t146 := Try.underlying177
  a146 := Try.isAgg177
  z146 := Try.sizeOf177
  v146 := Try.zeroValue177
  t148 := Try.underlying180
  a148 := Try.isAgg180
  z148 := Try.sizeOf180
  v148 := Try.zeroValue180
  t164 := Try.underlying190
  a164 := Try.isAgg190
  z164 := Try.sizeOf190
  v164 := Try.zeroValue190 }
theorem layRepX : Builder.Extra Try.prog layRep_ren := {
  sizeBuilder := by kernel_rfl
  liesBuilder := by kernel_rfl
  t5 := Try.underlying5
  a5 := Try.isAgg5
  z5 := Try.sizeOf5
  v5 := Try.zeroValue5
  infoByte := by kernel_rfl
  cellsByte := by kernel_rfl
  sizeByte := by kernel_rfl
  neB5 := by decide }
open Go.RowKit Go.Lib in
theorem repeat_lay (s : ByteArray) (c : Nat) (w : World) (hc : c ≤ 9223372036854775807) (hlen : s.size * c ≤ 140737488355328) :
    Calls Try.prog 83 #[.string s, .int .i64 c] w fun e w' => e = .returned (.string ⟨(Lib.repeatL s.data.toList c).toArray⟩) ∧ Below w.heap.size w w' := Any.strings_Repeat layRep layRepX s c w hc hlen
end Go.Proofs.Ytegjocpjmfaigaa
namespace Go.Proofs.Ytegjocpjmfaigaa
open Go.En Go.RowKit
theorem _root_.Go.En.St.below {w0 w w' : World} {S0 : Nat → Prop} {L : List Res} (hS : St w0 S0 w L) (h : Below w.heap.size w w') : St w0 S0 w' L :=
  have hk : ∀ b, b < w.heap.size → w'.heap[b]? = w.heap[b]? := h.block
  ⟨fun i r hi => r.st w w' (fun b hb => hk b (hS.bd i r hi b hb)) (hS.ok i r hi), fun i r hi b hb => Nat.lt_of_lt_of_le (hS.bd i r hi b hb) h.size, hS.src, hS.dis,
   hS.fr.trans (S1 := fun _ => False) ⟨h.size, fun b hb _ => hk b hb, h.os, h.output, h.tape⟩ (fun _ hb => hb.elim)⟩
theorem rep_one (x : UInt8) (c : Nat) : Lib.repeatL [x] c = List.replicate c x := by
  induction c with
  | zero => rfl
  | succ c ih => simp_all [Lib.repeatL, List.replicate_succ]
/-- a number of noughts -/
theorem c83 {w0 w : World} {S0 : Nat → Prop} {L : List Res} {K : Value → World → Prop} {n : Int} (hS : St w0 S0 w L) (h0 : 0 ≤ n) (h1 : n ≤ 1000000) (h : ∀ w', St w0 S0 w' L → K (.string ⟨(List.replicate n.toNat (0 : UInt8)).toArray⟩) w') :
    CK Try.prog 83 [.string ⟨#[0]⟩, .int .i64 n] w K := by
  have e : ((n.toNat : Nat) : Int) = n := Int.toNat_of_nonneg h0
  have hz : (⟨#[0]⟩ : ByteArray).size = 1 := rfl
  have := repeat_lay ⟨#[0]⟩ n.toNat w (by omega) (by rw [hz]; omega)
  rw [e] at this
  refine Calls.mono this ?_
  rintro x w' ⟨rfl, hb⟩
  have e2 : Lib.repeatL (⟨#[0]⟩ : ByteArray).data.toList n.toNat = List.replicate n.toNat 0 := rep_one 0 _
  rw [e2]
  exact ⟨_, rfl, h w' (hS.below hb)⟩
end Go.Proofs.Ytegjocpjmfaigaa
