/- What is common: contracts of the library turned to the engine's form; names. -/
import Derived.Test.YtbdpcpafjphmpaaDoorNa1
import Derived.Test.YtbdpcpafjphmpaaDoorSh
import Derived.Lib.SplitLaws
set_option linter.unusedSimpArgs false
set_option linter.unusedVariables false
namespace Go.Proofs.YtbdpcpafjphmpaaDoor
open Go.En

theorem mixed : Tryd.prog.follows .mixedOrders = true := by kernel_rfl
abbrev Bs := List UInt8
/-- a string of bytes -/
def sv (s : Bs) : Value := .string ⟨s.toArray⟩
def dp (b : Nat) : Value := .pointer (some ⟨b, 0, none⟩)
/-- a package's variable that the library's searches look at -/
def Gl (w : World) : Prop := ∃ m, w.cell? ⟨0, 0, none⟩ = some (.int .i64 m)
section
variable {w w0 : World} {S0 : Nat → Prop} {L : List Res} {K : Value → World → Prop} {P : Program} {f : FuncId} {args : List Value} {v : Value}
theorem Gl.to (h : Gl w0) (h0 : ¬ S0 0) (hS : St w0 S0 w L) : Gl w := by
  obtain ⟨m, hm⟩ := h
  refine ⟨m, ?_⟩
  have hlt : 0 < w0.heap.size := by
    unfold World.cell? at hm
    by_cases hl : 0 < w0.heap.size
    · exact hl
    · rw [Array.getElem?_eq_none (by omega)] at hm; cases hm
  have := hS.fr.kept 0 hlt h0
  unfold World.cell? at hm ⊢
  rw [this]; exact hm
theorem Gl.in (h : Gl w0) (hS : St w0 (fun _ => False) w L) : Gl w := h.to (fun h => h) hS
theorem Gl.drew (h : Gl w) : Gl w.drew := h
theorem ck_of (h : Calls P f ⟨args⟩ w fun e w' => e = .returned v ∧ w' = w) (hk : K v w) : CK P f args w K :=
  h.mono fun e w' ⟨he, hw⟩ => ⟨v, he, hw ▸ hk⟩
theorem ck_drew (h : Calls P f ⟨args⟩ w fun e w' => e = .returned v ∧ ∃ n, w' = w.drewN n) (hS : St w0 S0 w L) (hk : ∀ w', St w0 S0 w' L → K v w') : CK P f args w K :=
  h.mono fun e w' ⟨he, n, hw⟩ => ⟨v, he, by
    subst hw
    exact hk _ (hS.heap rfl rfl rfl rfl (Nat.le_add_right _ _))⟩
theorem c_Contains {s p : Bs} (hg : Gl w) (hs : s.length < 4294967281) (h : K (.bool (Lib.contains s p)) w) : CK Tryd.prog 62 [sv s, sv p] w K := by
  obtain ⟨m, hm⟩ := hg
  exact ck_of (Tryd.strings_Contains ⟨s.toArray⟩ ⟨p.toArray⟩ m w (by rw [Lib.size_eq]; exact hs) hm) h
theorem c_HasPrefix {s p : Bs} (h : K (.bool (p.isPrefixOf s)) w) : CK Tryd.prog 55 [sv s, sv p] w K :=
  ck_of (Tryd.strings_HasPrefix ⟨s.toArray⟩ ⟨p.toArray⟩ w) h
theorem c_HasSuffix {s p : Bs} (hs : s.length ≤ 9223372036854775807) (h : K (.bool (p.isSuffixOf s)) w) : CK Tryd.prog 58 [sv s, sv p] w K :=
  ck_of (Tryd.strings_HasSuffix ⟨s.toArray⟩ ⟨p.toArray⟩ w (by rw [Lib.size_eq]; exact hs)) h
/-- the parts between slashes -/
def prt (s : Bs) : List Bs := (Lib.splitB ⟨#[47]⟩ 0 (Lib.countB ⟨s.toArray⟩ ⟨#[47]⟩) ⟨s.toArray⟩).map (·.data.toList)
theorem sv_of (s : ByteArray) : sv s.data.toList = .string s := by
  unfold sv
  obtain ⟨⟨l⟩⟩ := s
  rfl
theorem c_Split {s : Bs} (hg : Gl w) (hs : s.length < 4294967281) (hS : St w0 S0 w L) (h : ∀ w' b n, (prt s).length = n + 1 → n ≤ s.length → St w0 S0 w' (L ++ [cel b ((prt s).map sv) 9]) → K (.slice (some ⟨b, 0, none⟩) (n + 1) (n + 1)) w') : CK Tryd.prog 64 [sv s, sv [47]] w K := by
  obtain ⟨m, hm⟩ := hg
  have hc := Tryd.strings_Split ⟨s.toArray⟩ ⟨#[47]⟩ m w (by rw [Lib.size_eq]; exact hs) hm (by decide)
  refine hc.mono ?_
  rintro e w' ⟨rfl, rfl⟩
  refine ⟨_, rfl, ?_⟩
  have hl : (prt s).length = Lib.countB ⟨s.toArray⟩ ⟨#[47]⟩ + 1 := by
    rw [prt, List.length_map]
    exact Lib.splitB_all _ (by decide) _ _ _ rfl
  have e1 : ((Lib.splitB ⟨#[47]⟩ 0 (Lib.countB ⟨s.toArray⟩ ⟨#[47]⟩) ⟨s.toArray⟩).map Value.string) = (prt s).map sv := by
    rw [prt, List.map_map]
    refine List.map_congr_left fun x _ => ?_
    exact (sv_of x).symm
  have hS := hS.alloc ((prt s).map sv) 9
  rw [← e1] at hS
  refine h _ _ _ hl ?_ (by rw [← e1]; exact hS)
  have := Lib.countB_le ⟨#[47]⟩ (by decide) _ (⟨s.toArray⟩ : ByteArray) (Nat.le_refl _)
  rw [Lib.size_eq] at this
  exact this
end
end Go.Proofs.YtbdpcpafjphmpaaDoor
