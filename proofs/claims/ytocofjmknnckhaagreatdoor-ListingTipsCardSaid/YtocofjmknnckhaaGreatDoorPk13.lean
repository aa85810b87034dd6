/- Qh8 Qh9 Qi1 Qi2 Qi3 EnR Oa1 Oh4 -/
import Derived.Test.YtocofjmknnckhaaGreatDoorPk12
import Derived.Deep.Slices
import Derived.ChangeSlices
import Derived.ChangeArms
import Derived.OpenShut
import Derived.Below
import Derived.Carry
import Derived.ChangeMaps5
import Derived.Test.YtocofjmknnckhaaGreatDoorChecked
import Derived.KernelRfl
import Derived.Lib.IndexLaws
set_option linter.unusedSimpArgs false
set_option linter.unusedVariables false
namespace Go.Proofs.YtocofjmknnckhaaGreatDoor
open Go.En
theorem _root_.Go.En.St.swap {w0 w : World} {S0 : Nat → Prop} {A B : List Res} (hS : St w0 S0 w (A ++ B)) : St w0 S0 w (B ++ A) := by
 refine hS.pick (List.range' A.length B.length ++ List.range A.length) (B ++ A) ?_ ?_
 ·intro k r hk
  by_cases h : k < B.length
  ·rw [List.getElem?_append_left h] at hk
   refine ⟨A.length + k, ?_, ?_⟩
   ·rw [List.getElem?_append_left (by rw [List.length_range']; exact h), List.getElem?_range' h, Nat.one_mul]
   ·rw [List.getElem?_append_right (by omega), Nat.add_sub_cancel_left]; exact hk
  ·rw [List.getElem?_append_right (by omega)] at hk
   have hlt := (List.getElem?_eq_some_iff.1 hk).1
   refine ⟨k - B.length, ?_, ?_⟩
   ·rw [List.getElem?_append_right (by rw [List.length_range']; omega), List.length_range', List.getElem?_range hlt]
   ·rw [List.getElem?_append_left hlt]; exact hk
 ·rw [List.nodup_append]
  refine ⟨List.nodup_range', List.nodup_range, fun a ha b hb => ?_⟩
  rw [List.mem_range'_1] at ha
  rw [List.mem_range] at hb
  omega
section
variable {w w0 : World} {S0 : Nat → Prop} {L B : List Res} {K : Value → World → Prop} {s : Bs} {E0 E1 : Nat} {bS bm bg bd : Nat} {q : Int} {l : Sto} {x : Id}
def clP (b7 b2 b6 : Nat) : Value := .func (.func 82) ⟨[]⟩ ⟨[dp b7, dp b2, dp b6]⟩
set_option maxRecDepth 100000 in
set_option maxHeartbeats 8000000 in
theorem d_hist {ι : Type} {Ls : ι → List Res} {Inv : List Id → ι → Prop} {b2 b3 b6 b7 b8 bmm bq lp : Nat} {A : List Id} {v : Value} (hG : SG l) (hAn : A.length < 2000000) {σ0 : ι} (h0 : Inv [] σ0) (hv1 : ∃ a n c, v = .slice a n c)
  (hS : St w0 S0 w (HM bg bd bS bm q l b2 b6 b7 bmm bq [] [] [] nl ++ ([rowI v A, cel b8 [clP b7 b2 b6] 161, cel b3 [v] 23] ++ Ls σ0)))
  (hy : ∀ (M : List Res) (ys : List Id) (y : Id) (σ : ι) (w : World), ys.length < l.length → Inv ys σ → St w0 S0 w (Ls σ ++ M) → Yd Tryz.prog lp [.agg ⟨ic y⟩] w fun u w' => (u = .bool true ∧ ∃ σ', Inv (ys ++ [y]) σ' ∧ St w0 S0 w' (Ls σ' ++ M)) ∨ (u = .bool false ∧ K (.tuple ⟨[]⟩) w'))
  (he : ∀ ys σ w, (∀ z, z ∈ ys ↔ Rch (parsS l) (A.filter fun z => decide (kindS l z = 3)) z) → ys.length ≤ l.length → Inv ys σ → St w0 S0 w (Ls σ ++ SR bS bm q l) → K (.tuple ⟨[]⟩) w) : CK Tryz.prog 85 [.func (.yield lp) ⟨[]⟩ ⟨[]⟩, dp b8, dp b3, dp b6, dp b2] w K := by
 have ldx : ∀ y : Id, ((ic y).drop 0).take 32 = ic y := fun y => by rw [List.drop_zero, List.take_of_length_le (Nat.le_of_eq (ic_len y))]
 have hNl := hG.n
 obtain ⟨av, nv, cv, rfl⟩ := hv1
 refine call_k Tryz.func85 k85 Tryz.ntmps85 (Nat.le_of_ble_eq_true rfl) ?_
 refine gW ?_
 refine g_l1 rfl rfl (hS.b 11 rfl) (v := clP b7 b2 b6) rfl ?_
 refine g_l1 rfl rfl (hS.b 12 rfl) (v := .slice av nv cv) rfl ?_
 replace hS : St w0 S0 w ((HM bg bd bS bm q l b2 b6 b7 bmm bq [] [] [] nl ++ [rowI (.slice av nv cv) A]) ++ ([cel b8 [clP b7 b2 b6] 161, cel b3 [.slice av nv cv] 23] ++ Ls σ0)) := by rw [List.append_assoc]; exact hS
 have hF := hS.frame
 have hc0 := cnN_le l []
 refine g_ef rfl (ef_cv (first := []) (cap := [dp b7, dp b2, dp b6]) rfl rfl (callFunc_of Tryz.func82 rfl rfl) (b_put hG (DI.nil l) PI.nil hAn (by decide) (by simpa using hc0) hF.1 fun dm met d vq w2 hD hM hkey hdd hmes h' => ?_))
 replace hS := hF.2 _ _ h'
 clear h' hF
 replace hS : St w0 S0 w2 (HM bg bd bS bm q l b2 b6 b7 bmm bq dm met d vq ++ ([cel b8 [clP b7 b2 b6] 161] ++ Ls σ0)) := selB' (A := [_, _, _, _, _, _, _, _, _, _, _, _, _]) (B := Ls σ0) hS [0, 1, 2, 3, 4, 5, 6, 7, 8, 9, 11] rfl rfl
 have hd0 : d.length + cnN l met ≤ l.length := by simp at hmes; omega
 refine gW ?_
 refine g_lp (ι := ι × Cn × Cn × List Hn × Value × List Id × Nat) (fun _ => [(0, .func (.yield lp) ⟨[]⟩ ⟨[]⟩), (1, dp b8), (3, dp b6), (4, dp b2)])
  (fun y w' => DI l y.2.1 ∧ PI y.2.2.1 y.2.2.2.2.2.2 ∧ (∀ z, (z ∈ keyC y.2.2.1 ∧ kindS l z = 3) ↔ (z ∈ y.2.2.2.2.2.1 ∨ z ∈ y.2.2.2.1.map (·.1))) ∧ (∀ u ∈ y.2.2.2.2.2.1, ∀ p ∈ parsS l u, p ∈ keyC y.2.2.1) ∧ (∀ a ∈ A, a ∈ keyC y.2.2.1) ∧ (∀ z, (z ∈ y.2.2.2.2.2.1 ∨ z ∈ y.2.2.2.1.map (·.1)) → Rch (parsS l) (A.filter fun z => decide (kindS l z = 3)) z)
   ∧ y.2.2.2.1.length + cnN l y.2.2.1 + y.2.2.2.2.2.1.length ≤ l.length ∧ y.2.2.2.2.2.2 + 4 * (y.2.2.2.1.length + cnN l y.2.2.1) ≤ A.length + 4 * l.length ∧ Inv y.2.2.2.2.2.1 y.1 ∧ St w0 S0 w' (HM bg bd bS bm q l b2 b6 b7 bmm bq y.2.1 y.2.2.1 y.2.2.2.1 y.2.2.2.2.1 ++ ([cel b8 [clP b7 b2 b6] 161] ++ Ls y.1)))
  (fun y => y.2.2.2.1.length + cnN l y.2.2.1) (σ0, dm, met, d, vq, [], 0 + A.length) ⟨rfl, rfl, rfl, rfl, trivial⟩ ⟨hD, hM, fun z => ?_, fun u hu => absurd hu List.not_mem_nil, fun a ha => (hkey a).2 (.inr ha), fun z hz => ?_, by simp only [List.length_nil]; omega, by simp only; omega, h0, hS⟩ ?_
 ·show (z ∈ keyC met ∧ kindS l z = 3) ↔ (z ∈ [] ∨ z ∈ d.map (·.1))
  rw [hkey, hdd]
  simp [keyC]
 ·have hz : z ∈ [] ∨ z ∈ d.map (·.1) := hz
  rw [hdd] at hz
  rcases hz with hz | hz | hz
  ·cases hz
  ·cases hz
  ·exact .base (List.mem_filter.2 ⟨hz.1, decide_eq_true hz.2.2⟩)
 clear hS hD hM hkey hdd hmes hd0 h0
 rintro ⟨σ, dm, met, d, vq, ys, vb⟩ w1 ⟨hD, hM, hJ1, hJ2, hJ3, hJ4, hJ5, hJ6, hI, hS⟩
 dsimp only at hD hM hJ1 hJ2 hJ3 hJ4 hJ5 hJ6 hI hS ⊢
 refine gW ?_
 refine g_l1 rfl rfl (hS.b 5 rfl) (v := ifq bq) rfl ?_
 have hQ : St w0 S0 w1 (QR bq vq d ++ ([cel bS [.int .i64 q, .int .i64 (sizeS l : Int), .map (some bm)] 65, obj bm (.map ⟨stE l⟩ l.length), cel bg [dp bS, .map (some bd)] 143, obj bd (.map ⟨cE dm⟩ dm.length), cel b2 [dp bg] 96, cel b6 [ifq bq] 156, cel b7 [.map (some bmm)] 141, obj bmm (.map ⟨cE met⟩ met.length), cel b8 [clP b7 b2 b6] 161] ++ Ls σ)) := selB' (A := [_, _, _, _, _, _, _, _, _, _, _]) (B := Ls σ) hS [8, 9, 0, 1, 2, 3, 4, 5, 6, 7, 10] rfl rfl
 refine g_ef rfl (ef_iv rfl rfl iv_Len (b_Len hQ.frame.1 ?_))
 refine gW ?_
 (generalize hgt : cmv _ _ _ = q; cases q <;> simp only [cmv, arv, Bool.not_eq_true', Bool.not_eq_false', decide_eq_true_eq, decide_eq_false_iff_not] at hgt <;> first | (exfalso; omega) | skip)
 ·have hd : d = [] := List.eq_nil_of_length_eq_zero (by omega)
  subst hd
  refine gW ?_
  refine q_n (he ys σ _ (fun z => ⟨fun hz => hJ4 z (.inl hz), fun hz => ?_⟩) (by simp at hJ5; omega) hI ?_)
  ·refine Rch.in (fun a ha => ?_) (fun u hu p hp => ?_) hz
   ·obtain ⟨h1, h2⟩ := List.mem_filter.1 ha
    rcases (hJ1 a).1 ⟨hJ3 a h1, of_decide_eq_true h2⟩ with h | h
    ·exact h
    ·cases h
   ·rcases (hJ1 p).1 ⟨hJ2 u hu p hp, parsS_mem hp⟩ with h | h
    ·exact h
    ·cases h
  ·have hS2 : St w0 S0 w1 (SR bS bm q l ++ Ls σ) := selB' (A := [_, _, _, _, _, _, _, _, _, _, _]) (B := Ls σ) hS [0, 1] rfl rfl
   exact hS2.swap
 have hpos : 0 < d.length := by omega
 refine gW ?_
 refine g_l1 rfl rfl (hS.b 5 rfl) (v := ifq bq) rfl ?_
 have hF := hQ.frame
 refine g_cl rfl rfl (b_HPop hpos (by omega) hF.1 fun x vq' d' w2 hp h' => ?_)
 replace hS := hF.2 _ _ h'
 clear h' hF hQ
 have hpl := hp.length_eq
 rw [List.length_append, List.length_singleton] at hpl
 have hpm : ∀ z, z ∈ d.map (·.1) ↔ z ∈ d'.map (·.1) ∨ z = x.1 := fun z => by
  rw [← (hp.map (·.1)).mem_iff, List.map_append, List.mem_append]
  simp
 refine g_qt rfl (qt_ta rfl) ?_
 refine gW ?_
 refine g_ef rfl (ef_al hS fun b9 w2 hS => ?_)
 have lz : (zx [(32, Value.int .u8 0), (1, .int .i64 0)]).length = 33 := by decide
 replace hS := hS.front
 refine gW ?_
 refine g_ef0 rfl (ef_st hS 0 rfl rfl rfl (hc_len x) (by rw [lz]; decide) (List.all_eq_true.2 (hc_one x)) fun w2 hS => ?_)
 replace hS := hS.ceq (l' := hc x) 0 rfl (spl_full _ _ (by show (hc x).length = _; rw [hc_len, lz]))
 have hidx : ((hc x).drop (0 + 0)).take 32 = ic x.1 := by rw [Nat.add_zero, List.drop_zero]; exact hc_id x
 refine gW ?_
 refine g_lm rfl rfl (hS.b 0 rfl) (by rw [hc_len]; decide) ?_
 rw [hidx]
 replace hS : St w0 S0 w2 ((cel b9 (hc x) 160 :: (QR bq vq' d' ++ [cel bS [.int .i64 q, .int .i64 (sizeS l : Int), .map (some bm)] 65, obj bm (.map ⟨stE l⟩ l.length), cel bg [dp bS, .map (some bd)] 143, obj bd (.map ⟨cE dm⟩ dm.length), cel b2 [dp bg] 96, cel b6 [ifq bq] 156, cel b7 [.map (some bmm)] 141, obj bmm (.map ⟨cE met⟩ met.length), cel b8 [clP b7 b2 b6] 161])) ++ Ls σ) := hS
 refine g_ef rfl (ef_yd (vs := [.agg ⟨ic x.1⟩]) rfl rfl ((hy _ ys x.1 σ _ (by omega) hI hS.swap).mono ?_))
 rintro u w3 (⟨rfl, σ', hI', hS⟩ | ⟨rfl, hK⟩)
 rotate_left
 ·refine gW ?_
  exact g_ret (q_0 hK)
 replace hS := hS.swap
 clear hI
 have hxm : (x.1 ∈ keyC met ∧ kindS l x.1 = 3) := (hJ1 x.1).2 (.inr ((hpm x.1).2 (.inr rfl)))
 refine gW ?_
 refine g_dr mixed ?_
 replace hS := hS.drew
 refine d_l1 rfl rfl rfl (hS.b 11 rfl) (v := clP b7 b2 b6) rfl ?_
 refine d_l1 rfl rfl rfl (hS.b 7 rfl) (v := dp bg) rfl ?_
 refine gD ?_
 refine d_lm rfl rfl rfl (hS.b 0 rfl) (by rw [hc_len]; decide) ?_
 rw [hidx]
 replace hS : St w0 S0 w3.drew (GS bg bd bS bm q l ++ ([obj bd (.map ⟨cE dm⟩ dm.length), cel b2 [dp bg] 96, cel b6 [ifq bq] 156, cel b7 [.map (some bmm)] 141, obj bmm (.map ⟨cE met⟩ met.length), cel bq [vq'] 154, row vq' 160 33 d'.length (fl hc d'), cel b8 [clP b7 b2 b6] 161] ++ Ls σ')) := selB' (A := [_, _, _, _, _, _, _, _, _, _, _, _]) (B := Ls σ') hS [3, 4, 5, 6, 7, 8, 9, 10, 1, 2, 11] rfl rfl
 have hF := hS.frame
 refine d_cl rfl rfl rfl (b_parents hG hF.1 fun vp w4 h' => ?_)
 replace hS := hF.2 _ _ h'
 clear h' hF
 have hpl4 := parsS_len l x.1
 replace hS : St w0 S0 w4 ((HM bg bd bS bm q l b2 b6 b7 bmm bq dm met d' vq' ++ [rowI vp (parsS l x.1)]) ++ ([cel b8 [clP b7 b2 b6] 161] ++ Ls σ')) := by
  have hS2 := selB' (A := [_, _, _, _, _, _, _, _, _, _, _, _]) (B := Ls σ') hS [0, 1, 2, 4, 5, 6, 7, 8, 9, 10, 3, 11] rfl rfl
  exact hS2
 refine ⟨rc_1 rfl rfl rfl rfl (hS.b 11 rfl) rfl rc_0, ?_⟩
 have hF := hS.frame
 refine d_e rfl rfl ?_
 refine ef_cv (first := []) (cap := [dp b7, dp b2, dp b6]) rfl rfl (callFunc_of Tryz.func82 rfl rfl) (b_put hG hD hM (by omega) (by omega) (by omega) hF.1 fun dm' met' d2 vq2 w5 hD' hM' hkey hdd hmes h' => ⟨rc_0, ?_⟩)
 replace hS := hF.2 _ _ h'
 clear h' hF
 refine d_fin ?_
 replace hS : St w0 S0 w5 (HM bg bd bS bm q l b2 b6 b7 bmm bq dm' met' d2 vq2 ++ ([cel b8 [clP b7 b2 b6] 161] ++ Ls σ')) := selB' (A := [_, _, _, _, _, _, _, _, _, _, _, _]) (B := Ls σ') hS [0, 1, 2, 3, 4, 5, 6, 7, 8, 9, 11] rfl rfl
 refine gW ?_
 refine g_l (σ', dm', met', d2, vq2, ys ++ [x.1], vb + (parsS l x.1).length) ⟨rfl, rfl, rfl, rfl, trivial⟩ ⟨hD', hM', fun z => ?_, fun u hu p hp => ?_, fun a ha => (hkey a).2 (.inl (hJ3 a ha)), fun z hz => ?_, by simp only [List.length_append, List.length_singleton]; omega, by simp only; omega, hI', hS⟩ (by simp only; omega)
 ·show (z ∈ keyC met' ∧ kindS l z = 3) ↔ (z ∈ ys ++ [x.1] ∨ z ∈ d2.map (·.1))
  rw [hkey, hdd, List.mem_append, List.mem_singleton]
  constructor
  ·rintro ⟨h1 | h1, h3⟩
   ·rcases (hJ1 z).1 ⟨h1, h3⟩ with h | h
    ·exact .inl (.inl h)
    ·rcases (hpm z).1 h with h | h
     ·exact .inr (.inl h)
     ·exact .inl (.inr h)
   ·by_cases hzm : z ∈ keyC met
    ·rcases (hJ1 z).1 ⟨hzm, h3⟩ with h | h
     ·exact .inl (.inl h)
     ·rcases (hpm z).1 h with h | h
      ·exact .inr (.inl h)
      ·exact .inl (.inr h)
    ·exact .inr (.inr ⟨h1, hzm, h3⟩)
  ·rintro ((h | rfl) | h | ⟨h1, h2, h3⟩)
   ·have := (hJ1 z).2 (.inl h)
    exact ⟨.inl this.1, this.2⟩
   ·exact ⟨.inl hxm.1, hxm.2⟩
   ·have := (hJ1 z).2 (.inr ((hpm z).2 (.inl h)))
    exact ⟨.inl this.1, this.2⟩
   ·exact ⟨.inr h1, h3⟩
 ·rw [hkey]
  rcases List.mem_append.1 hu with hu | hu
  ·exact .inl (hJ2 u hu p hp)
  ·rw [List.mem_singleton.1 hu] at hp
   exact .inr hp
 ·have hz : z ∈ ys ++ [x.1] ∨ z ∈ d2.map (·.1) := hz
  have hxr := hJ4 x.1 (.inr ((hpm x.1).2 (.inr rfl)))
  rw [hdd, List.mem_append, List.mem_singleton] at hz
  rcases hz with (hz | rfl) | hz | ⟨h1, _, _⟩
  ·exact hJ4 z (.inl hz)
  ·exact hxr
  ·exact hJ4 z (.inr ((hpm z).2 (.inl hz)))
  ·exact .step hxr h1
end
section
variable {w w0 : World} {S0 : Nat → Prop} {L B : List Res} {K : Value → World → Prop} {s : Bs} {E0 E1 : Nat} {bS bm bg bd : Nat} {q : Int} {l : Sto} {x : Id}
def clH (b8 b3 b6 b2 : Nat) : Value := .func (.func 85) ⟨[]⟩ ⟨[dp b8, dp b3, dp b6, dp b2]⟩
theorem b_history {v : Value} (hv : ∃ a n c, v = .slice a n c) (h : ∀ b2 b3 b6 b7 b8 bmm bq w', St w (fun _ => False) w' [cel b2 [dp bg] 96, cel b6 [ifq bq] 156, cel b7 [.map (some bmm)] 141, obj bmm (.map ⟨cE []⟩ 0), cel bq [nl] 154, cel b8 [clP b7 b2 b6] 161, cel b3 [v] 23] → K (clH b8 b3 b6 b2) w') : CK Tryz.prog 50 [dp bg, v] w K := by
 have hS := St.nil w (fun _ => False)
 obtain ⟨a, n, c, rfl⟩ := hv
 refine call_k Tryz.func50 k50 Tryz.ntmps50 (Nat.le_of_ble_eq_true rfl) ?_
 refine gW ?_
 refine g_ef rfl (ef_bx hS rfl fun b2 w1 hS => ?_)
 refine gW ?_
 refine g_ef rfl (ef_bx hS rfl fun b3 w1 hS => ?_)
 refine gW ?_
 refine g_ef rfl (ef_bx hS rfl fun bq w1 hS => ?_)
 refine gW ?_
 refine g_ef rfl (ef_al hS fun b6 w1 hS => ?_)
 refine gW ?_
 refine g_ef0 rfl (ef_st hS 3 rfl rfl rfl rfl (Nat.le_of_ble_eq_true rfl) rfl fun w1 hS => ?_)
 refine gW ?_
 refine g_ef rfl (ef_mkm hS fun bmm w1 hS => ?_)
 refine g_ef rfl (ef_al hS fun b7 w1 hS => ?_)
 refine gW ?_
 refine g_ef0 rfl (ef_st hS 5 rfl rfl rfl rfl (Nat.le_of_ble_eq_true rfl) rfl fun w1 hS => ?_)
 refine gW ?_
 refine g_ef rfl (ef_al hS fun b8 w1 hS => ?_)
 refine gW ?_
 refine g_ef0 rfl (ef_st hS 6 rfl rfl rfl rfl (Nat.le_of_ble_eq_true rfl) rfl fun w1 hS => ?_)
 refine gW ?_
 exact g_ret (q_1 rfl (h b2 b3 b6 b7 b8 bmm bq _ (hS.sel [0, 3, 5, 4, 2, 6, 1] rfl rfl)))
set_option maxHeartbeats 4000000 in
theorem b_AppI {b2 b3 b6 b7 b8 bmm bq : Nat} {A : List Id} {v : Value} (hG : SG l) (hAn : A.length < 2000000) (hv1 : ∃ a n c, v = .slice a n c) (hS : St w0 S0 w (HM bg bd bS bm q l b2 b6 b7 bmm bq [] [] [] nl ++ [rowI v A, cel b8 [clP b7 b2 b6] 161, cel b3 [v] 23]))
  (h : ∀ ys v' w', (∀ z, z ∈ ys ↔ Rch (parsS l) (A.filter fun z => decide (kindS l z = 3)) z) → ys.length ≤ l.length → St w0 S0 w' (SR bS bm q l ++ [rowI v' ys]) → K v' w') : CK Tryz.prog 81 [nl, clH b8 b3 b6 b2] w K := by
 have hNl := hG.n
 refine call_k Tryz.func81 k81 Tryz.ntmps81 (Nat.le_of_ble_eq_true rfl) ?_
 refine gW ?_
 refine g_ef rfl (ef_bx hS rfl fun c2 w1 hS => ?_)
 replace hS := hS.nilrow 46 32
 refine gW ?_
 refine g_atd 2 [(2, dp c2)] (fun D1 w' => ∃ dB, D1 = [⟨.collected dB, #[]⟩] ∧ ∃ a1 c1, ∃ ys : List Id, (∀ z, z ∈ ys ↔ Rch (parsS l) (A.filter fun z => decide (kindS l z = 3)) z) ∧ ys.length ≤ l.length ∧
   St w0 S0 w' ([cel c2 [.slice a1 ys.length c1] 23, row (.slice a1 ys.length c1) 46 32 ys.length (fl ic ys), obj dB (.deferred (some []))] ++ SR bS bm q l)) rfl ?_ ?_
 ·refine g_wkc (T' := [(6, clH b8 b3 b6 b2), (2, dp c2)]) ⟨rfl, rfl, trivial⟩ ?_
  refine g_rf (cap := [dp b8, dp b3, dp b6, dp b2]) (first := []) hS rfl (callFunc_of Tryz.func85 rfl rfl) fun lp dB w2 hS => ?_
  refine d_hist (ι := Option Addr × Nat × List Id) (Ls := fun σ => [cel c2 [.slice σ.1 σ.2.2.length σ.2.1] 23, row (.slice σ.1 σ.2.2.length σ.2.1) 46 32 σ.2.2.length (fl ic σ.2.2), obj dB (.deferred (some [])), _])
   (Inv := fun ys σ => σ.2.2 = ys) hG hAn (σ0 := (none, 0, [])) rfl hv1 (hS.sel [0, 1, 2, 3, 4, 5, 6, 7, 8, 9, 10, 11, 12, 13, 14, 15, 16] rfl rfl) ?_ ?_
  ·clear hS
   rintro M ys y ⟨a1, c1, ts⟩ w2 hlt hI hS
   dsimp only at hI hS
   subst hI
   refine yd_of hS 3 rfl rfl ?_
   refine gW ?_
   refine g_ef rfl (ef_al hS fun b5 w2 hS => ?_)
   have lz : (zx [(32, Value.int .u8 0)]).length = 32 := by decide
   replace hS := hS.front
   refine g_ef0 rfl (ef_st hS 0 rfl rfl rfl (ic_len y) (by rw [lz]; decide) (List.all_eq_true.2 (ic_one y)) fun w2 hS => ?_)
   replace hS := hS.ceq (l' := ic y) 0 rfl (spl_full _ _ (by show (ic y).length = _; rw [ic_len, lz]))
   replace hS : St w0 S0 w2 ([cel b5 (ic y) 46, cel c2 [.slice a1 ts.length c1] 23, row (.slice a1 ts.length c1) 46 32 ts.length (fl ic ts), obj dB (.deferred (some [])), _] ++ M) := hS
   replace hS := St.selB hS [1, 2, 3, 4, 0] rfl rfl
   refine gW ?_
   refine ⟨rfl, _, _, hS, rfl, fun w2 hS => ?_⟩
   refine gW ?_
   refine g_l1 rfl rfl (hS.b 0 rfl) (v := .slice a1 ts.length c1) rfl ?_
   refine g_lm rfl rfl (hS.b 4 rfl) (Nat.le_of_eq (by rw [ic_len])) ?_
   rw [List.drop_zero, List.take_of_length_le (Nat.le_of_eq (ic_len _))]
   refine g_ef rfl (ef_bl (rs := ic y) hS (evcs_1 rfl (ic_len _)) fun g w2 hS => ?_)
   replace hS := hS.front
   refine g_ef rfl (ef_ap (bytes := 32) (n := ts.length) (m := 1) (ys := ic y) hS 2 rfl rfl rfl (.inl ⟨46, .inr ⟨g, 0, 1, _, rfl, Nat.le_refl _, Nat.le_of_eq (by rw [ic_len]), by rw [List.drop_zero, List.take_of_length_le (Nat.le_of_eq (ic_len _))], (hS.b 0 rfl).r⟩⟩) (List.all_eq_true.2 (ic_one y)) (by omega) (by omega) fun v1 w2 hS => ?_)
   obtain ⟨a2, cc2, rfl⟩ := hS.rlen 2 rfl
   refine g_ef0 rfl (ef_st hS 1 rfl rfl rfl rfl (Nat.le_of_ble_eq_true rfl) rfl fun w2 hS => ?_)
   refine gW ?_
   have ets : fl ic ts ++ ic y = fl ic (ts ++ [y]) := by rw [fl_app]; simp [fl]
   have etl : ts.length + 1 = (ts ++ [y]).length := by simp
   rw [ets, etl] at hS
   have hS2 := selB' (A := [_, _, _, _, _, _]) (B := M) hS [1, 2, 3, 4] rfl rfl
   refine ⟨_, _, hS2, rfl, fun w2 hS => .inl ⟨rfl, (a2, cc2, ts ++ [y]), rfl, hS⟩⟩
  ·clear hS
   rintro ys ⟨a1, c1, ts⟩ w2 hset hle hI hS
   dsimp only at hI hS
   subst hI
   refine ⟨_, 3, _, _, hS, rfl, (fun h => nomatch h), fun w2 hS => ?_⟩
   exact g_b (g_jd ⟨rfl, trivial⟩ ⟨dB, rfl, a1, c1, ts, hset, hle, hS.sel [0, 1, 2, 4, 5] rfl rfl⟩)
 ·clear hS
  rintro T D1 w1 hT ⟨dB, rfl, a1, c1, ys, hset, hle, hS⟩
  refine g_wkc hT ?_
  refine gW ?_
  refine g_l1 rfl rfl (hS.b 0 rfl) (v := .slice a1 ys.length c1) rfl ?_
  refine gW ?_
  exact g_ret (q_dr hS 2 rfl fun w hS => q_1 rfl (h _ _ _ hset hle (hS.sel [3, 4, 1] rfl rfl)))
theorem b_ColI {b2 b3 b6 b7 b8 bmm bq : Nat} {A : List Id} {v : Value} (hG : SG l) (hAn : A.length < 2000000) (hv1 : ∃ a n c, v = .slice a n c) (hS : St w0 S0 w (HM bg bd bS bm q l b2 b6 b7 bmm bq [] [] [] nl ++ [rowI v A, cel b8 [clP b7 b2 b6] 161, cel b3 [v] 23]))
  (h : ∀ ys v' w', (∀ z, z ∈ ys ↔ Rch (parsS l) (A.filter fun z => decide (kindS l z = 3)) z) → ys.length ≤ l.length → St w0 S0 w' (SR bS bm q l ++ [rowI v' ys]) → K v' w') : CK Tryz.prog 49 [clH b8 b3 b6 b2] w K := by
 refine call_k Tryz.func49 k49 Tryz.ntmps49 (Nat.le_of_ble_eq_true rfl) ?_
 refine gW ?_
 refine g_cl rfl rfl (b_AppI hG hAn hv1 hS fun ys v' w' hset hle hS => ?_)
 refine gW ?_
 exact g_ret (q_1 rfl (h _ _ _ hset hle hS))
end
theorem half (n : Nat) (h : n < 4000000) : IntKind.i64.wrap (shv .shr .u64 (IntKind.u64.wrap (n : Int)) 1) = ((n / 2 : Nat) : Int) := by
 rw [u64n (by omega)]
 show IntKind.i64.wrap ((n : Int).fdiv (2 ^ (min (1 : Int).toNat IntKind.u64.bits))) = _
 have e : min (1 : Int).toNat IntKind.u64.bits = 1 := by decide
 rw [e, show (2 : Int) ^ 1 = 2 from rfl, Int.fdiv_eq_ediv_of_nonneg _ (by decide)]
 exact (wrap_in (in64 (by omega))).trans (by omega)
abbrev Srt (d : List Id) : Prop := d.Pairwise (lts fun x : Id => x.1)
theorem lts_neg {x y : Id} (h : lts (fun x : Id => x.1) x y) : Lib.compareBytes x.1 y.1 < 0 := by
 obtain ⟨h1, h2⟩ := h
 have h1 : Lib.compareBytes x.1 y.1 ≤ 0 := of_decide_eq_true h1
 rcases cb_three x.1 y.1 with h | h | h
 ·omega
 ·exact absurd (id_inj _ _ (cb_zero h)) h2
 ·omega
section
variable {w w0 : World} {S0 : Nat → Prop} {L B : List Res} {K : Value → World → Prop} {s : Bs} {E0 E1 : Nat} {bS bm bg bd : Nat} {q : Int} {l : Sto} {x : Id}
set_option maxHeartbeats 2000000 in
theorem b_BSF {v : Value} {d : List Id} (hs : Srt d) (hn : d.length < 2000000) (hr : Rd v E0 32 d.length (fl ic d) w) (h : ∀ (i : Nat) w', St w (fun _ => False) w' [] → K (.tuple ⟨[.int .i64 i, .bool (decide (x ∈ d))]⟩) w') : CK Tryz.prog 144 [v, .agg ⟨ic x⟩, .func (.func 38) ⟨[]⟩ ⟨[]⟩] w K := by
 have hS := St.nil w (fun _ => False)
 have lx := ic_len x
 have ldx : ((ic x).drop 0).take 32 = ic x := by rw [List.drop_zero, List.take_of_length_le (Nat.le_of_eq lx)]
 have hrr : ∀ {L : List Res} (w' : World), St w (fun _ => False) w' L → Rd v E0 32 d.length (fl ic d) w' := fun w' hS => hr.same fun b hb => hS.fr.kept b (hr.lt b hb) (fun h => h)
 have mono : ∀ i j (hi : i < d.length) (hj : j < d.length), i ≤ j → Lib.compareBytes d[i].1 x.1 ≥ 0 → Lib.compareBytes d[j].1 x.1 ≥ 0 := fun i j hi hj hij h0 => by
  by_cases e : i = j
  ·subst e; exact h0
  ·have h1 := lts_neg (List.pairwise_iff_getElem.1 hs i j hi hj (by omega))
   rcases Int.lt_or_le (Lib.compareBytes d[j].1 x.1) 0 with h2 | h2
   ·have := cb_lt_trans h1 h2; omega
   ·exact h2
 obtain ⟨a, c, rfl⟩ := hr.form
 refine call_k Tryz.func144 k144 Tryz.ntmps144 (Nat.le_of_ble_eq_true rfl) ?_
 refine gW ?_
 refine g_ef rfl (ef_bx hS rfl fun b4 w1 hS => ?_)
 replace hS : St w (fun _ => False) w1 [cel b4 (ic x) 46] := hS
 refine gW ?_
 refine g_lp (ι := Nat × Nat) (fun y => [(0, .slice a d.length c), (2, .func (.func 38) ⟨[]⟩ ⟨[]⟩), (4, dp b4), (8, .int .i64 d.length), (9, .int .i64 y.1), (10, .int .i64 y.2)])
  (fun y w' => y.1 ≤ y.2 ∧ y.2 ≤ d.length ∧ (∀ k (hk : k < d.length), k < y.1 → Lib.compareBytes d[k].1 x.1 < 0) ∧ (∀ k (hk : k < d.length), y.2 ≤ k → Lib.compareBytes d[k].1 x.1 ≥ 0) ∧ St w (fun _ => False) w' [cel b4 (ic x) 46]) (fun y => y.2 - y.1) (0, d.length)
  ⟨rfl, rfl, rfl, rfl, rfl, rfl, trivial⟩ ⟨Nat.zero_le _, Nat.le_refl _, fun k _ h => absurd h (Nat.not_lt_zero k), fun k hk h => absurd h (by simp only; omega), hS⟩ ?_
 clear hS
 rintro ⟨i, j⟩ w1 ⟨hij, hjn, hlo, hhi, hS⟩
 dsimp only at hij hjn hlo hhi hS ⊢
 refine gW ?_
 (generalize hlt : cmv _ _ _ = q; cases q <;> simp only [cmv, arv, Bool.not_eq_true', Bool.not_eq_false', decide_eq_true_eq, decide_eq_false_iff_not] at hlt <;> first | (exfalso; omega) | skip)
 ·have e : i = j := by omega
  subst e
  refine gW ?_
  refine g_dr mixed ?_
  replace hS := hS.drew
  refine gD ?_
  (generalize hin : cmv _ _ _ = q; cases q <;> simp only [cmv, arv, Bool.not_eq_true', Bool.not_eq_false', decide_eq_true_eq, decide_eq_false_iff_not] at hin <;> first | (exfalso; omega) | skip)
  ·have hx : x ∉ d := fun hx => by
    obtain ⟨k, hk, rfl⟩ := List.mem_iff_getElem.1 hx
    have := hlo k hk (by omega)
    rw [cb_self] at this
    omega
   refine gD ?_
   refine d_en rfl rfl rc_0 ?_
   refine gD ?_
   refine d_fin ?_
   have := h i _ (hS.sel [] rfl rfl)
   rw [decide_eq_false hx] at this
   refine gW ?_
   exact g_ret (q_2 rfl rfl this)
  ·have hin : i < d.length := by omega
   obtain ⟨b, off, cap, lr, e1, hcap, hlr, hx, hb⟩ := Rd.block (hrr _ hS) (by omega)
   cases e1
   have hbd : off + i * 32 + 32 ≤ lr.length := by have : (i + 1) * 32 ≤ c * 32 := Nat.mul_le_mul_right 32 (by omega); omega
   refine gD ?_
   refine d_rq rfl rfl rfl ⟨by omega, by omega⟩ ?_
   refine d_qt rfl rfl rfl (qt_ldmr rfl hb hbd) ?_
   rw [Int.toNat_natCast, rd_at ic_len hx rfl hin]
   refine d_lm rfl rfl rfl (hS.b 0 rfl) (Nat.le_of_eq lx.symm) ?_
   rw [ldx]
   refine d_e rfl rfl ?_
   refine ef_cv (first := []) (cap := []) rfl rfl (callFunc_of Tryz.func38 rfl rfl) (b_Compare d[i].2 x.2 fun w2 h' => ⟨rc_0, ?_⟩)
   replace hS := hS.call0.2 _ _ h'
   refine gD ?_
   refine d_fin ?_
   have hiff : cmv .eql (Lib.compareBytes d[i].1 x.1) 0 = decide (x ∈ d) := by
    simp only [cmv]
    refine decide_eq_decide.2 ⟨fun h => ?_, fun hx => ?_⟩
    ·have := id_inj _ _ (cb_zero h)
     rw [← this]; exact List.getElem_mem hin
    ·obtain ⟨k, hk, rfl⟩ := List.mem_iff_getElem.1 hx
     have h1 : i ≤ k := Nat.le_of_not_lt fun hc => by have := hlo k hk hc; rw [cb_self] at this; omega
     by_cases e : i = k
     ·subst e; exact cb_self _
     ·have h2 := lts_neg (List.pairwise_iff_getElem.1 hs i k hin hk (by omega))
      have h3 := hhi i hin (Nat.le_refl _)
      omega
   rw [hiff]
   refine gW ?_
   exact g_ret (q_2 rfl rfl (h i _ (hS.sel [] rfl rfl)))
 ·have hlt : i < j := by omega
  have hm1 : (i + j) / 2 < d.length := by omega
  refine gW ?_
  refine g_rq rfl rfl (in64 (by simp only [arv]; omega)) ?_
  refine gW ?_
  rw [show arv .add (i : Int) (j : Int) = ((i + j : Nat) : Int) by simp only [arv]; omega]
  refine g_rq rfl rfl (by decide) ?_
  refine gW ?_
  rw [half (i + j) (by omega)]
  obtain ⟨b, off, cap, lr, e1, hcap, hlr, hx, hb⟩ := Rd.block (hrr _ hS.drew) (by omega)
  cases e1
  have hbd : off + (i + j) / 2 * 32 + 32 ≤ lr.length := by have : ((i + j) / 2 + 1) * 32 ≤ c * 32 := Nat.mul_le_mul_right 32 (by omega); omega
  refine gW ?_
  refine g_dr mixed ?_
  replace hS := hS.drew
  refine gD ?_
  refine d_rq rfl rfl rfl ⟨by omega, by omega⟩ ?_
  refine d_qt rfl rfl rfl (qt_ldmr rfl hb hbd) ?_
  rw [Int.toNat_natCast, rd_at ic_len hx rfl hm1]
  refine d_lm rfl rfl rfl (hS.b 0 rfl) (Nat.le_of_eq lx.symm) ?_
  rw [ldx]
  refine d_e rfl rfl ?_
  refine ef_cv (first := []) (cap := []) rfl rfl (callFunc_of Tryz.func38 rfl rfl) (b_Compare d[(i + j) / 2].2 x.2 fun w2 h' => ⟨rc_0, ?_⟩)
  replace hS := hS.call0.2 _ _ h'
  rw [List.append_nil] at hS
  refine gD ?_
  refine d_fin ?_
  by_cases hc : Lib.compareBytes d[(i + j) / 2].1 x.1 < 0
  ·rw [show cmv BinOp.lss (Lib.compareBytes d[(i + j) / 2].1 x.1) 0 = true from decide_eq_true hc]
   refine gW ?_
   refine g_rq rfl rfl (in64 (by simp only [arv]; omega)) ?_
   refine gW ?_
   refine g_l ((i + j) / 2 + 1, j) ⟨rfl, rfl, rfl, rfl, rfl, rfl, trivial⟩ ⟨by simp only; omega, hjn, fun k hk hki => ?_, hhi, hS⟩ (by simp only; omega)
   rcases Int.lt_or_le (Lib.compareBytes d[k].1 x.1) 0 with h2 | h2
   ·exact h2
   ·have := mono k ((i + j) / 2) hk hm1 (by simp only at hki; omega) h2
    omega
  ·rw [show cmv BinOp.lss (Lib.compareBytes d[(i + j) / 2].1 x.1) 0 = false from decide_eq_false hc]
   refine gW ?_
   refine g_l (i, (i + j) / 2) ⟨rfl, rfl, rfl, rfl, rfl, rfl, trivial⟩ ⟨by simp only; omega, by simp only; omega, hlo, fun k hk hki => ?_, hS⟩ (by simp only; omega)
   exact mono _ k hm1 hk hki (by omega)
theorem b_Has {v : Value} {d : List Id} (hs : Srt d) (hn : d.length < 2000000) (hr : Rd v E0 32 d.length (fl ic d) w) (h : ∀ w', St w (fun _ => False) w' [] → K (.bool (decide (x ∈ d))) w') : CK Tryz.prog 87 [v, .agg ⟨ic x⟩] w K := by
 have hS := St.nil w (fun _ => False)
 have lx := ic_len x
 refine call_k Tryz.func87 k87 Tryz.ntmps87 (Nat.le_of_ble_eq_true rfl) ?_
 refine gW ?_
 refine g_ef rfl (ef_bx hS rfl fun b3 w1 hS => ?_)
 replace hS : St w (fun _ => False) w1 [cel b3 (ic x) 46] := hS
 have hr1 : Rd v E0 32 d.length (fl ic d) w1 := hr.same fun b hb => hS.fr.kept b (hr.lt b hb) (fun h => h)
 refine gW ?_
 refine g_lm rfl rfl (hS.b 0 rfl) (Nat.le_of_eq lx.symm) ?_
 rw [List.drop_zero, List.take_of_length_le (Nat.le_of_eq lx)]
 refine g_cl rfl rfl (b_BSF hs hn hr1 fun i w2 h' => ?_)
 replace hS := hS.call0.2 _ _ h'
 refine gW ?_
 exact g_ret (q_1 rfl (h _ (hS.sel [] rfl rfl)))
theorem b_Less' {v u : Value} {d e : List Id} (hs : Srt e) (hn : d.length < 2000000) (hm : e.length < 2000000) (hr : Rd v E0 32 d.length (fl ic d) w) (hu : Rd u E1 32 e.length (fl ic e) w) (h : ∀ v' w', St w (fun _ => False) w' [rowI v' (d.filter fun z => decide (z ∉ e))] → K v' w') : CK Tryz.prog 51 [v, u] w K := by
 have hS := St.nil w (fun _ => False)
 have hrr : ∀ {L : List Res} (w' : World), St w (fun _ => False) w' L → Rd v E0 32 d.length (fl ic d) w' := fun w' hS => hr.same fun b hb => hS.fr.kept b (hr.lt b hb) (fun h => h)
 have huu : ∀ {L : List Res} (w' : World), St w (fun _ => False) w' L → Rd u E1 32 e.length (fl ic e) w' := fun w' hS => hu.same fun b hb => hS.fr.kept b (hu.lt b hb) (fun h => h)
 obtain ⟨a, c, rfl⟩ := hr.form
 obtain ⟨a2, c2, rfl⟩ := hu.form
 replace hS := hS.nilrow 46 32
 refine call_k Tryz.func51 k51 Tryz.ntmps51 (Nat.le_of_ble_eq_true rfl) ?_
 refine gW ?_
 refine g_lp (ι := Nat × Value) (fun y => [(1, .slice a2 e.length c2), (5, y.2), (8, .slice a d.length c), (9, .int .i64 d.length), (10, .int .i64 y.1)]) (fun y w' => y.1 ≤ d.length ∧ St w (fun _ => False) w' [rowI y.2 ((d.take y.1).filter fun z => decide (z ∉ e))]) (fun y => d.length - y.1) (0, nl) ⟨rfl, rfl, rfl, rfl, rfl, trivial⟩ ⟨Nat.zero_le _, hS⟩ ?_
 clear hS
 rintro ⟨k, vo⟩ w1 ⟨hk, hS⟩
 dsimp only at hk hS ⊢
 refine gW ?_
 (refine g_cd rfl (fun hlt => ?_) (fun hlt => ?_) <;> simp only [cmv, arv, Bool.not_eq_true', Bool.not_eq_false', decide_eq_true_eq, decide_eq_false_iff_not] at hlt)
 ·have hlt : k < d.length := by omega
  obtain ⟨b, off, cap, lr, e1, hcap, hlr, hx, hb⟩ := Rd.block (hrr _ hS) (by omega)
  cases e1
  have hbd : off + k * 32 + 32 ≤ lr.length := by have : (k + 1) * 32 ≤ c * 32 := Nat.mul_le_mul_right 32 (by omega); omega
  have htk : (d.take (k + 1)).filter (fun z => decide (z ∉ e)) = (d.take k).filter (fun z => decide (z ∉ e)) ++ if d[k] ∈ e then [] else [d[k]] := by
   rw [List.take_succ_eq_append_getElem hlt, List.filter_append]
   by_cases h : d[k] ∈ e <;> simp [h]
  have hfl : ((d.take k).filter (fun z => decide (z ∉ e))).length ≤ k := Nat.le_trans (List.length_filter_le _ _) (by rw [List.length_take]; omega)
  refine gW ?_
  refine g_rq rfl rfl ⟨by omega, by omega⟩ ?_
  refine g_lmr rfl rfl hb hbd ?_
  rw [Int.toNat_natCast, rd_at ic_len hx rfl hlt]
  generalize d[k] = X at htk
  generalize (d.take k).filter (fun z => decide (z ∉ e)) = F at htk hS hfl
  refine g_ef rfl (ef_al hS fun b7 w1 hS => ?_)
  have lz : (zx [(32, Value.int .u8 0)]).length = 32 := by decide
  refine gW ?_
  refine g_ef0 rfl (ef_st hS 1 rfl rfl rfl (ic_len X) (by rw [lz]; decide) (List.all_eq_true.2 (ic_one X)) fun w1 hS => ?_)
  replace hS := hS.ceq (l' := ic X) 1 rfl (spl_full _ _ (by show (ic X).length = _; rw [ic_len, lz]))
  refine gW ?_
  refine g_lm rfl rfl (hS.b 1 rfl) (Nat.le_of_eq (by rw [ic_len])) ?_
  rw [List.drop_zero, List.take_of_length_le (Nat.le_of_eq (ic_len _))]
  refine g_cl rfl rfl (b_Has hs hm (huu _ hS) fun w2 h' => ?_)
  replace hS := hS.call0.2 _ _ h'
  rw [List.append_nil] at hS
  clear h'
  by_cases hxe : X ∈ e
  ·rw [decide_eq_true hxe]
   rw [if_pos hxe, List.append_nil] at htk
   refine gW ?_
   refine g_rq rfl rfl (in64 (by simp only [arv]; omega)) ?_
   refine gW ?_
   refine g_l (k + 1, vo) ⟨rfl, rfl, rfl, rfl, rfl, trivial⟩ ⟨hlt, ?_⟩ (by simp only; omega)
   rw [htk]
   exact hS.sel [0] rfl rfl
  ·rw [decide_eq_false hxe]
   rw [if_neg hxe] at htk
   refine gW ?_
   refine g_lm rfl rfl (hS.b 1 rfl) (Nat.le_of_eq (by rw [ic_len])) ?_
   rw [List.drop_zero, List.take_of_length_le (Nat.le_of_eq (ic_len _))]
   refine g_ef rfl (ef_bl (rs := ic X) hS (evcs_1 rfl (ic_len _)) fun g w2 hS => ?_)
   refine g_ef rfl (ef_ap (bytes := 32) (n := F.length) (m := 1) (ys := ic X) hS 0 rfl rfl rfl (.inl ⟨46, .inr ⟨g, 0, 1, _, rfl, Nat.le_refl _, Nat.le_of_eq (by rw [ic_len]), by rw [List.drop_zero, List.take_of_length_le (Nat.le_of_eq (ic_len _))], (hS.b 2 rfl).r⟩⟩) (List.all_eq_true.2 (ic_one X)) (by omega) (by omega) fun v1 w2 hS => ?_)
   have ets : fl ic F ++ ic X = fl ic (F ++ [X]) := by rw [fl_app]; simp [fl]
   have etl : F.length + 1 = (F ++ [X]).length := by simp
   rw [ets, etl] at hS
   refine gW ?_
   refine g_rq rfl rfl (in64 (by simp only [arv]; omega)) ?_
   refine gW ?_
   refine g_l (k + 1, v1) ⟨rfl, rfl, rfl, rfl, rfl, trivial⟩ ⟨hlt, ?_⟩ (by simp only; omega)
   rw [htk]
   exact hS.sel [0] rfl rfl
 ·have ek : k = d.length := by omega
  subst ek
  rw [List.take_length] at hS
  refine gW ?_
  exact g_ret (q_1 rfl (h _ _ hS))
set_option maxHeartbeats 4000000 in
theorem b_Heads {v : Value} {tips : List Id} (hG : SG l) (hn : tips.length < 400000) (hr : ∀ {L : List Res} {w' : World}, St w0 S0 w' L → Rd v E0 32 tips.length (fl ic tips) w') (hS : St w0 S0 w (SR bS bm q l)) (h : ∀ v' w', St w0 S0 w' (SR bS bm q l ++ [rowI v' (hdsS l tips)]) → K v' w') : CK Tryz.prog 25 [dp bS, v] w K := by
 have hal : (iset tips).length ≤ tips.length := kset_len (fun x : Id => x.1) tips
 have hsrt : ∀ t : List Id, Srt (iset t) := fun t => kset_sorted (fun x : Id => x.1) id_inj t
 have hNl := hG.n
 refine call_k Tryz.func25 k25 Tryz.ntmps25 (Nat.le_of_ble_eq_true rfl) ?_
 refine gW ?_
 refine g_cl rfl rfl (b_gof fun bg bd w1 h' => ?_)
 replace hS := hS.call0.2 _ _ h'
 clear h'
 refine gW ?_
 refine g_cl rfl rfl (b_Set rfl (by omega) (hr hS) fun va w1 h' => ?_)
 replace hS := hS.call0.2 _ _ h'
 clear h'
 obtain ⟨aa, ca, rfl⟩ := hS.rlen 4 rfl
 replace hS := hS.nilrow 46 32
 replace hS : St w0 S0 w1 (GS bg bd bS bm q l ++ [obj bd (.map ⟨cE []⟩ 0), rowI (.slice aa (iset tips).length ca) (iset tips), rowI nl []]) := hS
 refine gW ?_
 refine g_atx (ι := Value) 2 (fun y => [(5, dp bg), (6, .slice aa (iset tips).length ca), (7, y)]) (fun y w' => St w0 S0 w' (GS bg bd bS bm q l ++ [obj bd (.map ⟨cE []⟩ 0), rowI (.slice aa (iset tips).length ca) (iset tips), rowI y ((iset tips).map (parsS l)).flatten])) rfl ?_ ?_
 ·refine g_lp (ι := Nat × Value) (fun y => [(5, dp bg), (6, .slice aa (iset tips).length ca), (7, y.2), (15, .slice aa (iset tips).length ca), (16, .int .i64 (iset tips).length), (17, .int .i64 y.1)])
   (fun y w' => y.1 ≤ (iset tips).length ∧ St w0 S0 w' (GS bg bd bS bm q l ++ [obj bd (.map ⟨cE []⟩ 0), rowI (.slice aa (iset tips).length ca) (iset tips), rowI y.2 (((iset tips).take y.1).map (parsS l)).flatten])) (fun y => (iset tips).length - y.1) (0, nl) ⟨rfl, rfl, rfl, rfl, rfl, rfl, trivial⟩ ⟨Nat.zero_le _, hS⟩ ?_
  clear hS
  rintro ⟨k, vo⟩ w1 ⟨hk, hS⟩
  dsimp only at hk hS ⊢
  refine gW ?_
  (refine g_cd rfl (fun hlt => ?_) (fun hlt => ?_) <;> simp only [cmv, arv, Bool.not_eq_true', Bool.not_eq_false', decide_eq_true_eq, decide_eq_false_iff_not] at hlt)
  ·have hlt : k < (iset tips).length := by omega
   obtain ⟨b, off, cap, lr, e1, hcap, hlr, hx, hb⟩ := Rd.block (Ow.rd (hS.ok 4 _ rfl)) (by omega)
   cases e1
   have hbd : off + k * 32 + 32 ≤ lr.length := by have : (k + 1) * 32 ≤ ca * 32 := Nat.mul_le_mul_right 32 (by omega); omega
   have htk : (((iset tips).take (k + 1)).map (parsS l)).flatten = (((iset tips).take k).map (parsS l)).flatten ++ parsS l (iset tips)[k] := by
    rw [List.take_succ_eq_append_getElem hlt]
    simp only [List.map_append, List.map_cons, List.map_nil, List.flatten_append, List.flatten_cons, List.flatten_nil, List.append_nil]
   have hfl : ((((iset tips).take k).map (parsS l)).flatten).length ≤ 4 * k := by
    have key : ∀ d : List Id, ((d.map (parsS l)).flatten).length ≤ 4 * d.length := fun d => by
     induction d with
     | nil => simp
     | cons a d ih =>
      have := (parsS_len l a).1
      rw [List.map_cons, List.flatten_cons, List.length_append, List.length_cons]
      omega
    have := key ((iset tips).take k)
    rw [List.length_take] at this
    omega
   have hX : (lr.drop (off + k * 32)).take 32 = ic (iset tips)[k] := rd_at ic_len hx rfl hlt
   generalize (iset tips)[k] = X at htk hX
   generalize (((iset tips).take k).map (parsS l)).flatten = F at htk hS hfl
   refine gW ?_
   refine g_rq rfl rfl ⟨by omega, by omega⟩ ?_
   refine g_lmr rfl rfl hb hbd ?_
   rw [Int.toNat_natCast, hX]
   refine g_ef rfl (ef_al hS fun b9 w1 hS => ?_)
   have lz : (zx [(32, Value.int .u8 0)]).length = 32 := by decide
   refine gW ?_
   refine g_ef0 rfl (ef_st hS 6 rfl rfl rfl (ic_len X) (by rw [lz]; decide) (List.all_eq_true.2 (ic_one X)) fun w1 hS => ?_)
   replace hS : St w0 S0 w1 (GS bg bd bS bm q l ++ [obj bd (.map ⟨cE []⟩ 0), rowI (.slice (some ⟨b, off, none⟩) (iset tips).length ca) (iset tips), rowI vo F, cel b9 (ic X) 46]) := hS.ceq (l' := ic X) 6 rfl (spl_full _ _ (by show (ic X).length = _; rw [ic_len, lz]))
   refine gW ?_
   refine g_lm rfl rfl (hS.b 6 rfl) (Nat.le_of_eq (by rw [ic_len])) ?_
   rw [List.drop_zero, List.take_of_length_le (Nat.le_of_eq (ic_len _))]
   have hF := hS.frame
   refine g_cl rfl rfl (b_parents hG hF.1 fun vp w2 h' => ?_)
   replace hS := hF.2 _ _ h'
   clear h' hF
   have hpl := parsS_len l X
   refine g_ef rfl (ef_ap (bytes := 32) (n := F.length) (m := (parsS l X).length) (ys := fl ic (parsS l X)) hS 6 rfl rfl rfl (.inl ⟨_, Ow.rd (hS.ok 3 _ rfl)⟩) (fl_one ic_one _) (by omega) (by omega) fun v1 w2 hS => ?_)
   have ets : fl ic F ++ fl ic (parsS l X) = fl ic (F ++ parsS l X) := (fl_app _ _).symm
   have etl : F.length + (parsS l X).length = (F ++ parsS l X).length := by simp
   rw [ets, etl] at hS
   refine gW ?_
   refine g_rq rfl rfl (in64 (by simp only [arv]; omega)) ?_
   refine gW ?_
   refine g_l (k + 1, v1) ⟨rfl, rfl, rfl, rfl, rfl, rfl, trivial⟩ ⟨hlt, ?_⟩ (by simp only; omega)
   dsimp only
   rw [htk]
   exact hS.sel [0, 1, 2, 4, 5, 6] rfl rfl
  ·have ek : k = (iset tips).length := by omega
   subst ek
   rw [List.take_length] at hS
   refine gW ?_
   exact g_jx vo ⟨rfl, rfl, rfl, trivial⟩ hS
 ·clear hS
  rintro vA T w1 hT hS
  refine g_wkc hT ?_
  clear hT
  have hAl : (((iset tips).map (parsS l)).flatten).length ≤ 4 * (iset tips).length := by
   have key : ∀ d : List Id, ((d.map (parsS l)).flatten).length ≤ 4 * d.length := fun d => by
    induction d with
    | nil => simp
    | cons a d ih =>
     have := (parsS_len l a).1
     rw [List.map_cons, List.flatten_cons, List.length_append, List.length_cons]
     omega
   exact key _
  have hAc : ((iset tips).map (parsS l)).flatten.filter (fun z => decide (kindS l z = 3)) = ((iset tips).map (parsS l)).flatten := List.filter_eq_self.2 fun z hz => by
   obtain ⟨p, hp, hz⟩ := List.mem_flatten.1 hz
   obtain ⟨y, _, rfl⟩ := List.mem_map.1 hp
   exact decide_eq_true (parsS_mem hz)
  have hfl : ∀ z, Rch (parsS l) ((iset tips).map (parsS l)).flatten z ↔ ∃ y ∈ iset tips, Rch (parsS l) (parsS l y) z := fun z => Rch.flat
  have hhd : hdsS l tips = (iset tips).filter fun x => @decide (¬ ∃ y ∈ iset tips, Rch (parsS l) (parsS l y) x) (Classical.propDecidable _) := rfl
  rw [hhd] at h
  generalize ((iset tips).map (parsS l)).flatten = A at hAl hAc hfl hS
  have hvA : ∃ a n c, vA = .slice a n c := by obtain ⟨a, c, e⟩ := hS.rlen 5 rfl; exact ⟨a, _, c, e⟩
  refine gW ?_
  refine g_cl rfl rfl (b_history hvA fun b2 b3 b6 b7 b8 bmm bq w2 h' => ?_)
  replace hS := hS.call0.2 _ _ h'
  clear h'
  replace hS : St w0 S0 w2 ((HM bg bd bS bm q l b2 b6 b7 bmm bq [] [] [] nl ++ [rowI vA A, cel b8 [clP b7 b2 b6] 161, cel b3 [vA] 23]) ++ [rowI (.slice aa (iset tips).length ca) (iset tips)]) := (hS.nilrow 160 33).sel [0, 1, 2, 3, 6, 7, 8, 9, 10, 13, 5, 11, 12, 4] rfl rfl
  have hF := hS.frame
  refine g_cl rfl rfl (b_ColI hG (by omega) hvA hF.1 fun ys vy w3 hset hle h' => ?_)
  replace hS := hF.2 _ _ h'
  clear h' hF
  rw [hAc] at hset
  refine g_cl rfl rfl (b_Set rfl (by omega) (Ow.rd (hS.ok 2 _ rfl)) fun vs w4 h' => ?_)
  replace hS := hS.call0.2 _ _ h'
  clear h'
  have hyl : (iset ys).length ≤ ys.length := kset_len (fun x : Id => x.1) ys
  refine gW ?_
  refine g_cl rfl rfl (b_Less' (hsrt ys) (by omega) (by omega) (Ow.rd (hS.ok 3 _ rfl)) (Ow.rd (hS.ok 4 _ rfl)) fun vl w5 h' => ?_)
  replace hS := hS.call0.2 _ _ h'
  clear h'
  refine gW ?_
  refine g_ret (q_1 rfl (h _ _ ?_))
  have e : (iset tips).filter (fun z => decide (z ∉ iset ys)) = (iset tips).filter fun x => @decide (¬ ∃ y ∈ iset tips, Rch (parsS l) (parsS l y) x) (Classical.propDecidable _) := by
   refine List.filter_congr fun z _ => ?_
   have hi : z ∈ iset ys ↔ ∃ y ∈ iset tips, Rch (parsS l) (parsS l y) z := by
    rw [show (z ∈ iset ys ↔ z ∈ ys) from mem_kset (fun x : Id => x.1) ys z, hset, hfl]
   by_cases hz : z ∈ iset ys
   ·rw [decide_eq_false (not_not_intro hz)]
    exact (@decide_eq_false _ (Classical.propDecidable _) (not_not_intro (hi.1 hz))).symm
   ·rw [decide_eq_true hz]
    exact (@decide_eq_true _ (Classical.propDecidable _) (fun hc => hz (hi.2 hc))).symm
  rw [← e]
  exact hS.sel [0, 1, 5] rfl rfl
end
theorem append1 {α : Type} {k : Nat} {F : List α} {X : α} {enc : α → List Value} : fl enc F ++ enc X = fl enc (F ++ [X]) ∧ F.length + 1 = (F ++ [X]).length := ⟨by rw [fl_app]; simp [fl], by simp⟩
section
variable {w w0 : World} {S0 : Nat → Prop} {L B : List Res} {K : Value → World → Prop} {s : Bs} {E0 E1 : Nat} {bS : Nat} {q : Int} {vl : Value} {Z : List On} {x : Id}
theorem r_inI {v : Value} {d : List Id} (hn : d.length < 2000000) (hr : Rd v E0 32 d.length (fl ic d) w) (h : ∀ w', St w (fun _ => False) w' [] → K (.bool (decide (x ∈ d))) w') : CK Tryz.prog 88 [v, .agg ⟨ic x⟩] w K := by
 have hS := St.nil w (fun _ => False)
 have lx := ic_len x
 have ldx : ((ic x).drop 0).take 32 = ic x := by rw [List.drop_zero, List.take_of_length_le (Nat.le_of_eq lx)]
 have hrr : ∀ {L : List Res} (w' : World), St w (fun _ => False) w' L → Rd v E0 32 d.length (fl ic d) w' := fun w' hS => hr.same fun b hb => hS.fr.kept b (hr.lt b hb) (fun h => h)
 obtain ⟨a, c, rfl⟩ := hr.form
 refine call_k Tryz.func88 k88 Tryz.ntmps88 (Nat.le_of_ble_eq_true rfl) ?_
 refine gW ?_
 refine g_ef rfl (ef_bx hS rfl fun b3 w1 hS => ?_)
 replace hS : St w (fun _ => False) w1 [cel b3 (ic x) 46] := hS
 refine gW ?_
 refine g_lp (ι := Nat) (fun k => [(0, .slice a d.length c), (3, dp b3), (5, .int .i64 k)]) (fun k w' => k ≤ d.length ∧ x ∉ d.take k ∧ St w (fun _ => False) w' [cel b3 (ic x) 46]) (fun k => d.length - k) 0 ⟨rfl, rfl, rfl, trivial⟩ ⟨Nat.zero_le _, List.not_mem_nil, hS⟩ ?_
 clear hS
 rintro k w1 ⟨hk, hI, hS⟩
 refine gW ?_
 (generalize hlt : cmv _ _ _ = q; cases q <;> simp only [cmv, arv, Bool.not_eq_true', Bool.not_eq_false', decide_eq_true_eq, decide_eq_false_iff_not] at hlt <;> first | (exfalso; omega) | skip)
 ·have ek : k = d.length := by omega
  rw [ek, List.take_length] at hI
  have := h _ (hS.sel [] rfl rfl)
  rw [decide_eq_false hI] at this
  refine gW ?_
  exact g_ret (q_1 rfl this)
 ·have hlt : k < d.length := by omega
  obtain ⟨b, off, cap, lr, e1, hcap, hlr, hx, hb⟩ := Rd.block (hrr _ hS.drew) (by omega)
  cases e1
  have hbd : off + k * 32 + 32 ≤ lr.length := by have : (k + 1) * 32 ≤ c * 32 := Nat.mul_le_mul_right 32 (by omega); omega
  refine gW ?_
  refine g_dr mixed ?_
  replace hS := hS.drew
  refine gD ?_
  refine d_rq rfl rfl rfl ⟨by omega, by omega⟩ ?_
  refine d_qt rfl rfl rfl (qt_ldmr rfl hb hbd) ?_
  rw [Int.toNat_natCast, rd_at ic_len hx rfl hlt]
  refine d_lm rfl rfl rfl (hS.b 0 rfl) (Nat.le_of_eq lx.symm) ?_
  rw [ldx]
  refine d_qt rfl rfl rfl (qt_aq (a := d[k].1) (b := x.1) rfl rfl d[k].2 x.2) ?_
  refine d_fin ?_
  rw [show aqv .eql d[k].1 x.1 = decide (d[k] = x) from decide_eq_decide.2 ⟨fun h => Subtype.ext h, fun h => by rw [h]⟩]
  by_cases he : d[k] = x
  ·rw [decide_eq_true he]
   have := h _ (hS.sel [] rfl rfl)
   rw [decide_eq_true (by rw [← he]; exact List.getElem_mem hlt)] at this
   refine gW ?_
   exact g_ret (q_1 rfl this)
  ·rw [decide_eq_false he]
   refine gW ?_
   refine g_rq rfl rfl (in64 (by simp only [arv]; omega)) ?_
   refine gW ?_
   refine g_l (k + 1) ⟨rfl, rfl, rfl, trivial⟩ ⟨hlt, ?_, hS⟩ (by omega)
   rw [List.take_succ_eq_append_getElem hlt, List.mem_append]
   rintro (h1 | h1)
   ·exact hI h1
   ·exact he (List.mem_singleton.1 h1).symm
theorem r_commit (hG : SG (ZS Z)) (hS : St w0 S0 w (XR bS vl q Z)) (h : ∀ w', St w0 S0 w' (XR bS vl q Z) → K (.bool (decide (kindS (ZS Z) x = 3))) w') : CK Tryz.prog 171 [dp bS, .agg ⟨ic x⟩] w K := by
 have lx := ic_len x
 refine call_k Tryz.func171 k171 Tryz.ntmps171 (Nat.le_of_ble_eq_true rfl) ?_
 refine gW ?_
 refine g_ef rfl (ef_bx hS rfl fun b3 w1 hS => ?_)
 replace hS : St w0 S0 w1 (XR bS vl q Z ++ [cel b3 (ic x) 46]) := hS
 refine gW ?_
 refine g_lm rfl rfl (hS.b 3 rfl) (Nat.le_of_eq lx.symm) ?_
 rw [List.drop_zero, List.take_of_length_le (Nat.le_of_eq lx)]
 have hF := hS.frame
 refine g_cl rfl rfl (r_KindS hG hF.1 fun w2 h' => ?_)
 replace hS := hF.2 _ _ h'
 refine gW ?_
 have e : cmv .eql (kindS (ZS Z) x : Int) 3 = decide (kindS (ZS Z) x = 3) := by
  simp only [cmv]
  exact decide_eq_decide.2 ⟨fun h => by omega, fun h => by omega⟩
 rw [e]
 exact g_ret (q_1 rfl (h _ (hS.sel [0, 1, 2] rfl rfl)))
theorem cr_ObjectS (hG : SG (ZS Z)) (hS : St w0 S0 w (XR bS vl q Z)) (h : ∀ u vd ve vp w', St w0 S0 w' (XR bS vl q Z ++ rowO (gO (ZS Z) x) vd ve vp) → K (.tuple ⟨[.agg ⟨oc (gO (ZS Z) x) vd ve vp⟩, .bool u]⟩) w') : CK Tryz.prog 172 [dp bS, .agg ⟨ic x⟩] w K := by
 refine r_ObjectS hG hS (fun hg w' hS => ?_) (fun b hg vd ve vp w' hS => ?_)
 ·have := h false nl nl nl w' (by unfold gO; rw [hg]; exact ((hS.nilrow 5 1).nilrow 175 34).nilrow 46 32)
  unfold gO at this
  rw [hg] at this
  exact this
 ·have := h true vd ve vp w' (by unfold gO; rw [hg]; exact hS)
  unfold gO at this
  rw [hg] at this
  exact this
set_option maxRecDepth 100000 in
set_option maxHeartbeats 4000000 in
theorem r_Parents (hG : SG (ZS Z)) (hS : St w0 S0 w (XR bS vl q Z)) (h : ∀ v' w', St w0 S0 w' (XR bS vl q Z ++ [rowI v' (parsS (ZS Z) x)]) → K v' w') : CK Tryz.prog 145 [dp bS, .agg ⟨ic x⟩] w K := by
 have lx := ic_len x
 have ldx : ((ic x).drop 0).take 32 = ic x := by rw [List.drop_zero, List.take_of_length_le (Nat.le_of_eq lx)]
 have ep := parsS_gO (ZS Z) x
 have hpl : (gO (ZS Z) x).pars.length ≤ 4 := by
  unfold gO
  cases getS (ZS Z) x with
  | some b => exact (obP_pars b).1
  | none => exact Nat.zero_le _
 refine call_k Tryz.func145 k145 Tryz.ntmps145 (Nat.le_of_ble_eq_true rfl) ?_
 refine gW ?_
 refine g_ef rfl (ef_bx hS rfl fun b3 w1 hS => ?_)
 replace hS : St w0 S0 w1 (XR bS vl q Z ++ [cel b3 (ic x) 46]) := hS
 refine gW ?_
 refine g_lm rfl rfl (hS.b 3 rfl) (Nat.le_of_eq lx.symm) ?_
 rw [ldx]
 have hF := hS.frame
 refine g_cl rfl rfl (r_commit hG hF.1 fun w2 h' => ?_)
 replace hS := hF.2 _ _ h'
 clear h' hF
 rw [gO_kind]
 by_cases hk : (gO (ZS Z) x).kind = 3
 rotate_left
 ·rw [decide_eq_false hk]
  rw [if_neg hk] at ep
  rw [ep] at h
  refine gW ?_
  exact g_ret (q_1 rfl (h nl _ ((hS.nilrow 46 32).sel [0, 1, 2, 4] rfl rfl)))
 rw [decide_eq_true hk]
 rw [if_pos hk] at ep
 rw [ep] at h
 refine gW ?_
 refine g_lm rfl rfl (hS.b 3 rfl) (Nat.le_of_eq lx.symm) ?_
 rw [ldx]
 have hF := hS.frame
 refine g_cl rfl rfl (cr_ObjectS hG hF.1 fun u vd ve vp w2 h' => ?_)
 replace hS := hF.2 _ _ h'
 clear h' hF
 have lq := oc_len (gO (ZS Z) x) vd ve vp
 have hone1 : (oc (gO (ZS Z) x) vd ve vp).all (·.oneCell') = true := by
  obtain ⟨x1, y1, e1⟩ := hS.rlen 3 rfl; obtain ⟨x2, y2, e2⟩ := hS.rlen 4 rfl; obtain ⟨x3, y3, e3⟩ := hS.rlen 5 rfl; subst e1 e2 e3; exact oc_one rfl rfl rfl
 obtain ⟨av, cv, rfl⟩ := hS.rlen 5 rfl
 have hq1 := (oc_at (gO (ZS Z) x) vd ve (.slice av (gO (ZS Z) x).pars.length cv)).1
 refine gW ?_
 refine g_ef rfl (ef_al hS fun b6 w1 hS => ?_)
 refine gW ?_
 refine g_ef0 rfl (ef_st hS 7 rfl rfl rfl lq (Nat.le_of_ble_eq_true rfl) hone1 fun w1 hS => ?_)
 replace hS := hS.ceq (l' := oc (gO (ZS Z) x) vd ve (.slice av (gO (ZS Z) x).pars.length cv)) 7 rfl (spl_full _ _ lq)
 replace hS : St w0 S0 w1 (XR bS vl q Z ++ [cel b6 (oc (gO (ZS Z) x) vd ve (.slice av (gO (ZS Z) x).pars.length cv)) 79, rowI (.slice av (gO (ZS Z) x).pars.length cv) (gO (ZS Z) x).pars, rowI nl []]) := (hS.nilrow 46 32).sel [0, 1, 2, 7, 5, 8] rfl rfl
 generalize gO (ZS Z) x = o at *
 refine gW ?_
 refine g_lp (ι := Nat × Value) (fun y => [(0, dp bS), (6, dp b6), (8, y.2), (9, .int .i64 y.1)]) (fun y w' => y.1 ≤ o.pars.length ∧ St w0 S0 w' (XR bS vl q Z ++ [cel b6 (oc o vd ve (.slice av o.pars.length cv)) 79, rowI (.slice av o.pars.length cv) o.pars, rowI y.2 ((o.pars.take y.1).filter fun p => decide (kindS (ZS Z) p = 3))])) (fun y => o.pars.length - y.1) (0, nl) ⟨rfl, rfl, rfl, rfl, trivial⟩ ⟨Nat.zero_le _, hS⟩ ?_
 clear hS
 rintro ⟨k, vo⟩ w1 ⟨hk', hS⟩
 dsimp only at hk' hS ⊢
 refine gW ?_
 refine g_l1 rfl rfl (hS.b 3 rfl) (v := .slice av o.pars.length cv) hq1 ?_
 refine gW ?_
 (generalize hlt : cmv _ _ _ = q; cases q <;> simp only [cmv, arv, Bool.not_eq_true', Bool.not_eq_false', decide_eq_true_eq, decide_eq_false_iff_not] at hlt <;> first | (exfalso; omega) | skip)
 ·have ek : k = o.pars.length := by omega
  subst ek
  rw [List.take_length] at hS
  refine gW ?_
  exact g_ret (q_1 rfl (h vo _ (hS.sel [0, 1, 2, 5] rfl rfl)))
 ·have hlt : k < o.pars.length := by omega
  have blk : ∀ {w' : World} {L : List Res}, St w0 S0 w' (XR bS vl q Z ++ (cel b6 (oc o vd ve (.slice av o.pars.length cv)) 79 :: rowI (.slice av o.pars.length cv) o.pars :: L)) → ∃ b off lr, av = some ⟨b, off, none⟩ ∧ o.pars.length ≤ cv ∧ off + k * 32 + 32 ≤ lr.length ∧ (lr.drop (off + k * 32)).take 32 = ic o.pars[k] ∧ Blr w' b lr 46 := fun hS => by
   obtain ⟨b, off, cap, lr, e1, hcap, hlr, hx, hb⟩ := Rd.block (Ow.rd (hS.ok 4 _ rfl)) (by omega)
   cases e1
   exact ⟨b, off, lr, rfl, hcap, by have : (k + 1) * 32 ≤ cv * 32 := Nat.mul_le_mul_right 32 (by omega); omega, rd_at ic_len hx rfl hlt, hb⟩
  have htk : (o.pars.take (k + 1)).filter (fun p => decide (kindS (ZS Z) p = 3)) = (o.pars.take k).filter (fun p => decide (kindS (ZS Z) p = 3)) ++ if kindS (ZS Z) o.pars[k] = 3 then [o.pars[k]] else [] := by
   rw [List.take_succ_eq_append_getElem hlt, List.filter_append]
   by_cases h : kindS (ZS Z) o.pars[k] = 3 <;> simp [h]
  have hfl : ((o.pars.take k).filter (fun p => decide (kindS (ZS Z) p = 3))).length ≤ k := Nat.le_trans (List.length_filter_le _ _) (by rw [List.length_take]; omega)
  generalize (o.pars.take k).filter (fun p => decide (kindS (ZS Z) p = 3)) = F at htk hS hfl
  obtain ⟨b, off, lr, rfl, hcap, hbd, hX, hb⟩ := blk hS
  refine gW ?_
  refine g_l1 rfl rfl (hS.b 3 rfl) (v := .slice (some ⟨b, off, none⟩) o.pars.length cv) hq1 ?_
  refine gW ?_
  refine g_rq rfl rfl ⟨by omega, by omega⟩ ?_
  refine g_lmr rfl rfl hb hbd ?_
  rw [Int.toNat_natCast, hX]
  have hF := hS.frame
  refine g_cl rfl rfl (r_commit hG hF.1 fun w2 h' => ?_)
  replace hS := hF.2 _ _ h'
  clear h' hF hb hX hbd
  by_cases hk3 : kindS (ZS Z) o.pars[k] = 3
  ·rw [decide_eq_true hk3]
   rw [if_pos hk3] at htk
   obtain ⟨b2, off2, lr2, e2, _, hbd, hX, hb⟩ := blk hS
   cases e2
   refine gW ?_
   refine g_l1 rfl rfl (hS.b 3 rfl) (v := .slice (some ⟨b, off, none⟩) o.pars.length cv) hq1 ?_
   refine gW ?_
   refine g_rq rfl rfl ⟨by omega, by omega⟩ ?_
   refine g_lmr rfl rfl hb hbd ?_
   rw [Int.toNat_natCast, hX]
   generalize o.pars[k] = X at htk
   refine g_ef rfl (ef_bl (rs := ic X) hS (evcs_1 rfl (ic_len _)) fun g w2 hS => ?_)
   refine g_ef rfl (ef_ap (bytes := 32) (n := F.length) (m := 1) (ys := ic X) hS 5 rfl rfl rfl (.inl ⟨46, .inr ⟨g, 0, 1, _, rfl, Nat.le_refl _, Nat.le_of_eq (by rw [ic_len]), by rw [List.drop_zero, List.take_of_length_le (Nat.le_of_eq (ic_len _))], (hS.b 6 rfl).r⟩⟩) (List.all_eq_true.2 (ic_one X)) (by omega) (by omega) fun v1 w2 hS => ?_)
   rw [(append1 (k := 0)).1, (append1 (k := 0) (enc := ic) (X := X)).2] at hS
   refine gW ?_
   refine g_rq rfl rfl (in64 (by simp only [arv]; omega)) ?_
   refine gW ?_
   refine g_l (k + 1, v1) ⟨rfl, rfl, rfl, rfl, trivial⟩ ⟨hlt, ?_⟩ (by simp only; omega)
   dsimp only
   rw [htk]
   exact hS.sel [0, 1, 2, 3, 4, 5] rfl rfl
  ·rw [decide_eq_false hk3]
   rw [if_neg hk3, List.append_nil] at htk
   refine gW ?_
   refine g_rq rfl rfl (in64 (by simp only [arv]; omega)) ?_
   refine gW ?_
   refine g_l (k + 1, vo) ⟨rfl, rfl, rfl, rfl, trivial⟩ ⟨hlt, ?_⟩ (by simp only; omega)
   dsimp only
   rw [htk]
   exact hS
theorem nd_len {l : Sto} {d : List Id} (hn : d.Nodup) (hk : ∀ z ∈ d, kindS l z = 3) : d.length ≤ l.length := by
 have key : ∀ (A L : List Id), A.Nodup → (∀ x ∈ A, x ∈ L) → A.length ≤ L.length := by
  intro A
  induction A with
  | nil => intros; exact Nat.zero_le _
  | cons a A ih =>
   intro L hA hs
   rw [List.nodup_cons] at hA
   have ha := hs a (by simp)
   have := ih (L.erase a) hA.2 fun x hx => (List.mem_erase_of_ne (fun e : x = a => hA.1 (by rw [← e]; exact hx))).2 (hs x (by simp [hx]))
   rw [List.length_erase_of_mem ha] at this
   have hpos : 0 < L.length := List.length_pos_of_mem ha
   rw [List.length_cons]
   omega
 have := key d (l.map (·.1)) hn fun z hz => kindS_mem (by rw [hk z hz]; decide)
 rwa [List.length_map] at this
set_option maxHeartbeats 4000000 in
theorem r_Behind (hG : SG (ZS Z)) (hS : St w0 S0 w (XR bS vl q Z)) (h : ∀ v' d w', (∀ z, z ∈ d ↔ Rch (parsS (ZS Z)) (parsS (ZS Z) x) z) → d.length ≤ (ZS Z).length → St w0 S0 w' (XR bS vl q Z ++ [rowI v' d]) → K v' w') : CK Tryz.prog 89 [dp bS, .agg ⟨ic x⟩] w K := by
 have lx := ic_len x
 have hNl := hG.n
 refine call_k Tryz.func89 k89 Tryz.ntmps89 (Nat.le_of_ble_eq_true rfl) ?_
 refine gW ?_
 refine g_ef rfl (ef_bx hS rfl fun b3 w1 hS => ?_)
 replace hS : St w0 S0 w1 (XR bS vl q Z ++ [cel b3 (ic x) 46]) := hS
 refine gW ?_
 refine g_lm rfl rfl (hS.b 3 rfl) (Nat.le_of_eq lx.symm) ?_
 rw [List.drop_zero, List.take_of_length_le (Nat.le_of_eq lx)]
 have hF := hS.frame
 refine g_cl rfl rfl (r_Parents hG hF.1 fun vp w2 h' => ?_)
 replace hS := hF.2 _ _ h'
 clear h' hF
 have hpl := parsS_len (ZS Z) x
 generalize hl : ZS Z = l at *
 refine gW ?_
 refine g_lp (ι := Nat × List Id × Value) (fun y => [(0, dp bS), (5, y.2.2), (6, .int .i64 y.1)])
  (fun y w' => y.1 ≤ y.2.1.length ∧ y.2.1.Nodup ∧ (∀ z ∈ y.2.1, kindS l z = 3) ∧ (∀ z ∈ parsS l x, z ∈ y.2.1) ∧ (∀ j (hj : j < y.2.1.length), j < y.1 → ∀ z ∈ parsS l y.2.1[j], z ∈ y.2.1) ∧ (∀ z ∈ y.2.1, Rch (parsS l) (parsS l x) z) ∧ St w0 S0 w' (XR bS vl q Z ++ [rowI y.2.2 y.2.1])) (fun y => l.length - y.1) (0, parsS l x, vp)
  ⟨rfl, rfl, rfl, trivial⟩ ⟨Nat.zero_le _, hpl.2, fun z hz => parsS_mem hz, fun z hz => hz, fun j _ hj => absurd hj (Nat.not_lt_zero j), fun z hz => .base hz, hS.sel [0, 1, 2, 3] rfl rfl⟩ ?_
 clear hS
 rintro ⟨i, d, vd⟩ w1 ⟨hi, hnd, hkd, hsub, hcl, hrc, hS⟩
 dsimp only at hi hnd hkd hsub hcl hrc hS ⊢
 obtain ⟨ad, cd, rfl⟩ := hS.rlen 3 rfl
 have hdl := nd_len hnd hkd
 refine gW ?_
 (generalize hlt : cmv _ _ _ = q; cases q <;> simp only [cmv, arv, Bool.not_eq_true', Bool.not_eq_false', decide_eq_true_eq, decide_eq_false_iff_not] at hlt <;> first | (exfalso; omega) | skip)
 ·have ei : i = d.length := by omega
  refine gW ?_
  refine g_ret (q_1 rfl (h _ d _ (fun z => ⟨hrc z, fun hz => Rch.in hsub (fun y hy z hz => ?_) hz⟩) hdl hS))
  obtain ⟨j, hj, rfl⟩ := List.mem_iff_getElem.1 hy
  exact hcl j hj (by omega) z hz
 have hlt : i < d.length := by omega
 obtain ⟨b, off, cap, lr, e1, hcap, hlr, hx, hb⟩ := Rd.block (Ow.rd (hS.ok 3 _ rfl)) (by omega)
 cases e1
 have hbd : off + i * 32 + 32 ≤ lr.length := by have : (i + 1) * 32 ≤ cd * 32 := Nat.mul_le_mul_right 32 (by omega); omega
 have hX : (lr.drop (off + i * 32)).take 32 = ic d[i] := rd_at ic_len hx rfl hlt
 generalize hdi : d[i] = X at hX
 have hXd : X ∈ d := by rw [← hdi]; exact List.getElem_mem hlt
 refine gW ?_
 refine g_rq rfl rfl ⟨by omega, by omega⟩ ?_
 refine g_lmr rfl rfl hb hbd ?_
 rw [Int.toNat_natCast, hX]
 have hF := hS.frame
 refine g_cl rfl rfl (r_Parents (by rw [hl]; exact hG) hF.1 fun vp2 w2 h' => ?_)
 replace hS := hF.2 _ _ h'
 clear h' hF hb hx hX
 rw [hl] at hS
 have hql := parsS_len l X
 have hqm : ∀ z ∈ parsS l X, kindS l z = 3 := fun z hz => parsS_mem hz
 have hqr : ∀ z ∈ parsS l X, Rch (parsS l) (parsS l x) z := fun z hz => .step (hrc X hXd) hz
 generalize hqe : parsS l X = p at hS hql hqm hqr
 obtain ⟨ap, cp, rfl⟩ := hS.rlen 3 rfl
 refine gW ?_
 refine g_atx (ι := List Id × Value) 2 (fun y => [(0, dp bS), (5, y.2), (6, .int .i64 i)]) (fun y w' => d <+: y.1 ∧ y.1.Nodup ∧ (∀ z ∈ y.1, kindS l z = 3) ∧ (∀ z ∈ p, z ∈ y.1) ∧ (∀ z ∈ y.1, Rch (parsS l) (parsS l x) z) ∧ St w0 S0 w' (XR bS vl q Z ++ [rowI y.2 y.1])) rfl ?_ ?_
 ·refine g_lp (ι := Nat × List Id × Value) (fun y => [(0, dp bS), (5, y.2.2), (6, .int .i64 i), (7, .slice ap p.length cp), (8, .int .i64 y.1)])
   (fun y w' => y.1 ≤ p.length ∧ d <+: y.2.1 ∧ y.2.1.Nodup ∧ (∀ z ∈ y.2.1, kindS l z = 3) ∧ (∀ z ∈ p.take y.1, z ∈ y.2.1) ∧ (∀ z ∈ y.2.1, Rch (parsS l) (parsS l x) z) ∧ St w0 S0 w' (XR bS vl q Z ++ [rowI (.slice ap p.length cp) p, rowI y.2.2 y.2.1])) (fun y => p.length - y.1) (0, d, .slice (some ⟨b, off, none⟩) d.length cd)
   ⟨rfl, rfl, rfl, rfl, rfl, trivial⟩ ⟨Nat.zero_le _, List.prefix_refl _, hnd, hkd, fun z hz => absurd hz List.not_mem_nil, hrc, hS⟩ ?_
  clear hS
  rintro ⟨k, d1, v1⟩ w1 ⟨hk, hpre, hnd1, hkd1, hsub1, hrc1, hS⟩
  dsimp only at hk hpre hnd1 hkd1 hsub1 hrc1 hS ⊢
  have hdl1 := nd_len hnd1 hkd1
  obtain ⟨a1, c1, rfl⟩ := hS.rlen 4 rfl
  refine gW ?_
  (generalize hlk : cmv _ _ _ = q; cases q <;> simp only [cmv, arv, Bool.not_eq_true', Bool.not_eq_false', decide_eq_true_eq, decide_eq_false_iff_not] at hlk <;> first | (exfalso; omega) | skip)
  ·have ek : k = p.length := by omega
   subst ek
   rw [List.take_length] at hsub1
   refine gW ?_
   exact g_jx (d1, _) ⟨rfl, rfl, rfl, trivial⟩ ⟨hpre, hnd1, hkd1, hsub1, hrc1, hS.sel [0, 1, 2, 4] rfl rfl⟩
  have hlk : k < p.length := by omega
  have blk : ∀ {w' : World} {L : List Res}, St w0 S0 w' (XR bS vl q Z ++ (rowI (.slice ap p.length cp) p :: L)) → ∃ b off lr, ap = some ⟨b, off, none⟩ ∧ p.length ≤ cp ∧ off + k * 32 + 32 ≤ lr.length ∧ (lr.drop (off + k * 32)).take 32 = ic p[k] ∧ Blr w' b lr 46 := fun hS => by
   obtain ⟨b, off, cap, lr, e1, hcap, hlr, hx, hb⟩ := Rd.block (Ow.rd (hS.ok 3 _ rfl)) (by omega)
   cases e1
   exact ⟨b, off, lr, rfl, hcap, by have : (k + 1) * 32 ≤ cp * 32 := Nat.mul_le_mul_right 32 (by omega); omega, rd_at ic_len hx rfl hlk, hb⟩
  obtain ⟨b2, off2, lr2, rfl, hcap2, hbd2, hX2, hb2⟩ := blk hS
  have htk : ∀ z, z ∈ p.take (k + 1) ↔ z ∈ p.take k ∨ z = p[k] := fun z => by rw [List.take_succ_eq_append_getElem hlk, List.mem_append, List.mem_singleton]
  have hpk := hqm _ (List.getElem_mem hlk)
  have hpr := hqr _ (List.getElem_mem hlk)
  refine gW ?_
  refine g_rq rfl rfl ⟨by omega, by omega⟩ ?_
  refine g_lmr rfl rfl hb2 hbd2 ?_
  rw [Int.toNat_natCast, hX2]
  refine g_cl rfl rfl (r_inI (by omega) (Ow.rd (hS.ok 4 _ rfl)) fun w2 h' => ?_)
  replace hS := hS.call0.2 _ _ h'
  rw [List.append_nil] at hS
  clear h' hb2 hX2 hbd2
  by_cases hin : p[k] ∈ d1
  ·rw [decide_eq_true hin]
   refine gW ?_
   refine g_rq rfl rfl (in64 (by simp only [arv]; omega)) ?_
   refine gW ?_
   refine g_l (k + 1, d1, .slice a1 d1.length c1) ⟨rfl, rfl, rfl, rfl, rfl, trivial⟩ ⟨hlk, hpre, hnd1, hkd1, fun z hz => ?_, hrc1, hS⟩ (by simp only; omega)
   rcases (htk z).1 hz with hz | rfl
   ·exact hsub1 z hz
   ·exact hin
  ·rw [decide_eq_false hin]
   obtain ⟨b3', off3, lr3, e3, _, hbd3, hX3, hb3⟩ := blk hS
   cases e3
   refine gW ?_
   refine g_rq rfl rfl ⟨by omega, by omega⟩ ?_
   refine g_lmr rfl rfl hb3 hbd3 ?_
   rw [Int.toNat_natCast, hX3]
   generalize p[k] = Y at htk hpk hpr hin
   refine g_ef rfl (ef_bl (rs := ic Y) hS (evcs_1 rfl (ic_len _)) fun g w2 hS => ?_)
   refine g_ef rfl (ef_ap (bytes := 32) (n := d1.length) (m := 1) (ys := ic Y) hS 4 rfl rfl rfl (.inl ⟨46, .inr ⟨g, 0, 1, _, rfl, Nat.le_refl _, Nat.le_of_eq (by rw [ic_len]), by rw [List.drop_zero, List.take_of_length_le (Nat.le_of_eq (ic_len _))], (hS.b 5 rfl).r⟩⟩) (List.all_eq_true.2 (ic_one Y)) (by omega) (by omega) fun v2 w2 hS => ?_)
   rw [(append1 (k := 0)).1, (append1 (k := 0) (enc := ic) (X := Y)).2] at hS
   refine gW ?_
   refine g_rq rfl rfl (in64 (by simp only [arv]; omega)) ?_
   refine gW ?_
   refine g_l (k + 1, d1 ++ [Y], v2) ⟨rfl, rfl, rfl, rfl, rfl, trivial⟩ ⟨hlk, hpre.trans (List.prefix_append _ _), ?_, fun z hz => ?_, fun z hz => ?_, fun z hz => ?_, hS.sel [0, 1, 2, 3, 4] rfl rfl⟩ (by simp only; omega)
   ·rw [List.nodup_append]
    exact ⟨hnd1, List.pairwise_singleton _ _, fun a ha c hc => by rw [List.mem_singleton.1 hc]; rintro rfl; exact hin ha⟩
   ·rcases List.mem_append.1 hz with hz | hz
    ·exact hkd1 z hz
    ·rw [List.mem_singleton.1 hz]; exact hpk
   ·rcases (htk z).1 hz with hz | rfl
    ·exact List.mem_append_left _ (hsub1 z hz)
    ·exact List.mem_append_right _ List.mem_cons_self
   ·rcases List.mem_append.1 hz with hz | hz
    ·exact hrc1 z hz
    ·rw [List.mem_singleton.1 hz]; exact hpr
 ·clear hS
  rintro ⟨d1, v1⟩ T w1 hT ⟨hpre, hnd1, hkd1, hsub1, hrc1, hS⟩
  dsimp only at hT hpre hnd1 hkd1 hsub1 hrc1 hS
  refine g_wkc hT ?_
  have hdl1 := nd_len hnd1 hkd1
  have hpl1 := hpre.length_le
  refine gW ?_
  refine g_rq rfl rfl (in64 (by simp only [arv]; omega)) ?_
  refine gW ?_
  refine g_l (i + 1, d1, v1) ⟨rfl, rfl, rfl, trivial⟩ ⟨by simp only; omega, hnd1, hkd1, fun z hz => hpre.subset (hsub z hz), fun j hj hji z hz => ?_, hrc1, hS⟩ (by simp only; omega)
  have hji : j < i + 1 := hji
  have hjd : j < d.length := by omega
  have hz : z ∈ parsS l d1[j] := hz
  have hge : d1[j] = d[j] := (List.IsPrefix.getElem hpre hjd).symm
  have hz2 : z ∈ parsS l d[j] := by rw [← hge]; exact hz
  have hg : ∀ {j' : Nat} (hj' : j' < d.length), j' = i → d[j'] = X := fun hj' e => by subst e; exact hdi
  by_cases e : j = i
  ·rw [hg hjd e, hqe] at hz2
   exact hsub1 z hz2
  ·exact hpre.subset (hcl j hjd (by omega) z hz2)
end
section
variable {w w0 : World} {S0 : Nat → Prop} {L B : List Res} {K : Value → World → Prop} {s : Bs} {E0 E1 : Nat} {bS : Nat} {q : Int} {vl : Value} {Z : List On} {x y : Id}
set_option maxHeartbeats 1000000 in
theorem r_Ancestor (hG : SG (ZS Z)) (hS : St w0 S0 w (XR bS vl q Z)) (h : ∀ g : Bool, (g = true ↔ Rch (parsS (ZS Z)) (parsS (ZS Z) y) x) → ∀ w', St w0 S0 w' (XR bS vl q Z) → K (.bool g) w') : CK Tryz.prog 52 [dp bS, .agg ⟨ic x⟩, .agg ⟨ic y⟩] w K := by
 have lx := ic_len x
 have ly := ic_len y
 have hNl := hG.n
 refine call_k Tryz.func52 k52 Tryz.ntmps52 (Nat.le_of_ble_eq_true rfl) ?_
 refine gW ?_
 refine g_ef rfl (ef_bx hS rfl fun b4 w1 hS => ?_)
 replace hS : St w0 S0 w1 (XR bS vl q Z ++ [cel b4 (ic x) 46]) := hS
 refine gW ?_
 refine g_ef rfl (ef_bx hS rfl fun b5 w1 hS => ?_)
 replace hS : St w0 S0 w1 (XR bS vl q Z ++ [cel b4 (ic x) 46, cel b5 (ic y) 46]) := hS
 refine gW ?_
 refine g_dr mixed ?_
 replace hS := hS.drew
 refine gD ?_
 refine d_lm rfl rfl rfl (hS.b 4 rfl) (Nat.le_of_eq ly.symm) ?_
 rw [List.drop_zero, List.take_of_length_le (Nat.le_of_eq ly)]
 refine d_lm rfl rfl rfl (hS.b 3 rfl) (Nat.le_of_eq lx.symm) ?_
 rw [List.drop_zero, List.take_of_length_le (Nat.le_of_eq lx)]
 have hF := hS.frame
 refine d_cl rfl rfl rfl (r_Behind hG hF.1 fun v' d w2 hd hdl h' => ⟨?_, ?_⟩)
 ·have hS := hF.2 _ _ h'
  exact rc_m rfl rfl rfl rfl (hS.b 4 rfl) (Nat.le_of_eq lx.symm) (by rw [List.drop_zero, List.take_of_length_le (Nat.le_of_eq lx)]) rc_0
 replace hS := hF.2 _ _ h'
 clear h' hF
 refine d_cl rfl rfl rfl (r_inI (d := d) (by omega) (Ow.rd (hS.ok 3 _ rfl)) fun w3 h' => ⟨rc_0, ?_⟩)
 replace hS := hS.call0.2 _ _ h'
 clear h'
 refine gD ?_
 refine d_fin ?_
 refine gW ?_
 exact g_ret (q_1 rfl (h _ (by rw [decide_eq_true_iff]; exact hd x) _ (hS.sel [0, 1, 2] rfl rfl)))
set_option maxHeartbeats 4000000 in
theorem r_Heads10 {v : Value} {tips : List Id} (hG : SG (ZS Z)) (hn : tips.length < 2000000) (hr : ∀ {L : List Res} {w' : World}, St w0 S0 w' L → Rd v E0 32 tips.length (fl ic tips) w') (hS : St w0 S0 w (XR bS vl q Z)) (h : ∀ v' w', St w0 S0 w' (XR bS vl q Z ++ [rowI v' (hdsS (ZS Z) tips)]) → K v' w') : CK Tryz.prog 26 [dp bS, v] w K := by
 have hal : (iset tips).length ≤ tips.length := kset_len (fun x : Id => x.1) tips
 have hhd : hdsS (ZS Z) tips = (iset tips).filter fun x => @decide (¬ ∃ y ∈ iset tips, Rch (parsS (ZS Z)) (parsS (ZS Z) y) x) (Classical.propDecidable _) := rfl
 rw [hhd] at h
 refine call_k Tryz.func26 k26 Tryz.ntmps26 (Nat.le_of_ble_eq_true rfl) ?_
 refine gW ?_
 refine g_cl rfl rfl (r_Set rfl hn (hr hS) fun va w1 h' => ?_)
 replace hS := hS.call0.2 _ _ h'
 clear h'
 generalize iset tips = A at *
 replace hS := hS.nilrow 46 32
 replace hS : St w0 S0 w1 (XR bS vl q Z ++ [rowI va A, rowI nl []]) := hS
 obtain ⟨aa, ca, rfl⟩ := hS.rlen 3 rfl
 generalize hP : (fun x : Id => @decide (¬ ∃ y ∈ A, Rch (parsS (ZS Z)) (parsS (ZS Z) y) x) (Classical.propDecidable _)) = P at h
 have blk : ∀ {k : Nat} (hlt : k < A.length) {w' : World} {L : List Res}, St w0 S0 w' (XR bS vl q Z ++ (rowI (.slice aa A.length ca) A :: L)) → ∃ b off lr, aa = some ⟨b, off, none⟩ ∧ A.length ≤ ca ∧ off + k * 32 + 32 ≤ lr.length ∧ (lr.drop (off + k * 32)).take 32 = ic A[k] ∧ Blr w' b lr 46 := fun {k} hlt {_ _} hS => by
  obtain ⟨b, off, cap, lr, e1, hcap, hlr, hx, hb⟩ := Rd.block (Ow.rd (hS.ok 3 _ rfl)) (by omega)
  cases e1
  exact ⟨b, off, lr, rfl, hcap, by have : (k + 1) * 32 ≤ ca * 32 := Nat.mul_le_mul_right 32 (by omega); omega, rd_at ic_len hx rfl hlt, hb⟩
 refine gW ?_
 refine g_lp (ι := Nat × Value) (fun y => [(0, dp bS), (5, .slice aa A.length ca), (6, y.2), (7, .int .i64 y.1)]) (fun y w' => y.1 ≤ A.length ∧ St w0 S0 w' (XR bS vl q Z ++ [rowI (.slice aa A.length ca) A, rowI y.2 ((A.take y.1).filter P)])) (fun y => A.length - y.1) (0, nl) ⟨rfl, rfl, rfl, rfl, trivial⟩ ⟨Nat.zero_le _, hS⟩ ?_
 clear hS
 rintro ⟨k, vo⟩ w1 ⟨hk, hS⟩
 dsimp only at hk hS ⊢
 refine gW ?_
 (generalize hlt : cmv _ _ _ = q; cases q <;> simp only [cmv, arv, Bool.not_eq_true', Bool.not_eq_false', decide_eq_true_eq, decide_eq_false_iff_not] at hlt <;> first | (exfalso; omega) | skip)
 ·have ek : k = A.length := by omega
  subst ek
  rw [List.take_length] at hS
  refine gW ?_
  exact g_ret (q_1 rfl (h vo _ (hS.sel [0, 1, 2, 4] rfl rfl)))
 have hlt : k < A.length := by omega
 have htk : (A.take (k + 1)).filter P = (A.take k).filter P ++ if P A[k] = true then [A[k]] else [] := by
  rw [List.take_succ_eq_append_getElem hlt, List.filter_append]
  by_cases h : P A[k] = true <;> simp [h]
 have hPk : P A[k] = true ↔ ¬ ∃ y ∈ A, Rch (parsS (ZS Z)) (parsS (ZS Z) y) A[k] := by
  rw [← hP]
  exact @decide_eq_true_iff _ (Classical.propDecidable _)
 have hfl : ((A.take k).filter P).length ≤ k := Nat.le_trans (List.length_filter_le _ _) (by rw [List.length_take]; omega)
 generalize (A.take k).filter P = F at htk hS hfl
 generalize hX0 : A[k] = X at htk hPk
 refine gW ?_
 refine g_atx (ι := Nat) 2 (fun _ => [(0, dp bS), (5, .slice aa A.length ca), (6, vo), (7, .int .i64 k), (8, .bool (!P X))]) (fun _ w' => St w0 S0 w' (XR bS vl q Z ++ [rowI (.slice aa A.length ca) A, rowI vo F])) rfl ?_ ?_
 ·refine g_lp (ι := Nat × Bool) (fun y => [(0, dp bS), (5, .slice aa A.length ca), (6, vo), (7, .int .i64 k), (8, .bool y.2), (9, .int .i64 y.1)]) (fun y w' => y.1 ≤ A.length ∧ (y.2 = true ↔ ∃ z ∈ A.take y.1, Rch (parsS (ZS Z)) (parsS (ZS Z) z) X) ∧ St w0 S0 w' (XR bS vl q Z ++ [rowI (.slice aa A.length ca) A, rowI vo F])) (fun y => A.length - y.1) (0, false) ⟨rfl, rfl, rfl, rfl, rfl, rfl, trivial⟩ ⟨Nat.zero_le _, ⟨fun h => (by cases h), fun ⟨z, hz, _⟩ => absurd hz List.not_mem_nil⟩, hS⟩ ?_
  clear hS
  rintro ⟨j, u⟩ w1 ⟨hj, hu, hS⟩
  dsimp only at hj hu hS ⊢
  refine gW ?_
  (generalize hlj : cmv _ _ _ = q; cases q <;> simp only [cmv, arv, Bool.not_eq_true', Bool.not_eq_false', decide_eq_true_eq, decide_eq_false_iff_not] at hlj <;> first | (exfalso; omega) | skip)
  ·have ej : j = A.length := by omega
   subst ej
   rw [List.take_length] at hu
   have e : u = !P X := by
    cases hp : P X
    ·cases u
     ·exact absurd (hPk.2 fun hc => by have := hu.2 hc; cases this) (by rw [hp]; decide)
     ·rfl
    ·cases u
     ·rfl
     ·exact absurd (hu.1 rfl) (hPk.1 hp)
   subst e
   refine gW ?_
   exact g_jx 0 ⟨rfl, rfl, rfl, rfl, rfl, trivial⟩ hS
  have hlj : j < A.length := by omega
  have htj : ∀ z, z ∈ A.take (j + 1) ↔ z ∈ A.take j ∨ z = A[j] := fun z => by rw [List.take_succ_eq_append_getElem hlj, List.mem_append, List.mem_singleton]
  have hF := hS.drew
  obtain ⟨b, off, lr, rfl, hcap, hbd, hX, hb⟩ := blk hlt hF
  obtain ⟨b2, off2, lr2, e2, hcap2, hbd2, hX2, hb2⟩ := blk hlj hF
  cases e2
  clear hF
  rw [hX0] at hX
  refine gW ?_
  refine g_dr mixed ?_
  replace hS := hS.drew
  refine gD ?_
  refine d_rq rfl rfl rfl ⟨by omega, by omega⟩ ?_
  refine d_qt rfl rfl rfl (qt_ldmr rfl hb hbd) ?_
  rw [Int.toNat_natCast, hX]
  refine gD ?_
  refine d_rq rfl rfl rfl ⟨by omega, by omega⟩ ?_
  refine d_qt rfl rfl rfl (qt_ldmr rfl hb2 hbd2) ?_
  rw [Int.toNat_natCast, hX2]
  have hF := hS.frame
  refine d_cl rfl rfl rfl (r_Ancestor hG hF.1 fun g hg w2 h' => ⟨rc_0, ?_⟩)
  replace hS := hF.2 _ _ h'
  clear h' hF
  refine gD ?_
  refine d_fin ?_
  cases u with
  | true =>
   refine gW ?_
   refine g_rq rfl rfl (in64 (by simp only [arv]; omega)) ?_
   refine gW ?_
   refine g_l (j + 1, true) ⟨rfl, rfl, rfl, rfl, rfl, rfl, trivial⟩ ⟨hlj, ⟨fun _ => ?_, fun _ => rfl⟩, hS⟩ (by simp only; omega)
   obtain ⟨z, hz, hr⟩ := hu.1 rfl
   exact ⟨z, (htj z).2 (.inl hz), hr⟩
  | false =>
   refine gW ?_
   refine g_rq rfl rfl (in64 (by simp only [arv]; omega)) ?_
   refine gW ?_
   refine g_l (j + 1, g) ⟨rfl, rfl, rfl, rfl, rfl, rfl, trivial⟩ ⟨hlj, ⟨fun h => ⟨_, (htj _).2 (.inr rfl), hg.1 h⟩, fun ⟨z, hz, hr⟩ => ?_⟩, hS⟩ (by simp only; omega)
   rcases (htj z).1 hz with hz | rfl
   ·have := hu.2 ⟨z, hz, hr⟩
    cases this
   ·exact hg.2 hr
 ·clear hS
  rintro _ T w1 hT hS
  refine g_wkc hT ?_
  clear hT
  cases hp : P X
  ·rw [hp, if_neg (by decide), List.append_nil] at htk
   refine gW ?_
   refine g_rq rfl rfl (in64 (by simp only [arv]; omega)) ?_
   refine gW ?_
   refine g_l (k + 1, vo) ⟨rfl, rfl, rfl, rfl, trivial⟩ ⟨hlt, ?_⟩ (by simp only; omega)
   dsimp only
   rw [htk]
   exact hS
  ·rw [hp, if_pos rfl] at htk
   obtain ⟨b, off, lr, rfl, hcap, hbd, hX, hb⟩ := blk hlt hS
   rw [hX0] at hX
   refine gW ?_
   refine g_rq rfl rfl ⟨by omega, by omega⟩ ?_
   refine g_lmr rfl rfl hb hbd ?_
   rw [Int.toNat_natCast, hX]
   refine g_ef rfl (ef_bl (rs := ic X) hS (evcs_1 rfl (ic_len _)) fun g w2 hS => ?_)
   refine g_ef rfl (ef_ap (bytes := 32) (n := F.length) (m := 1) (ys := ic X) hS 4 rfl rfl rfl (.inl ⟨46, .inr ⟨g, 0, 1, _, rfl, Nat.le_refl _, Nat.le_of_eq (by rw [ic_len]), by rw [List.drop_zero, List.take_of_length_le (Nat.le_of_eq (ic_len _))], (hS.b 5 rfl).r⟩⟩) (List.all_eq_true.2 (ic_one X)) (by omega) (by omega) fun v1 w2 hS => ?_)
   rw [(append1 (k := 0)).1, (append1 (k := 0) (enc := ic) (X := X)).2] at hS
   refine gW ?_
   refine g_rq rfl rfl (in64 (by simp only [arv]; omega)) ?_
   refine gW ?_
   refine g_l (k + 1, v1) ⟨rfl, rfl, rfl, rfl, trivial⟩ ⟨hlt, ?_⟩ (by simp only; omega)
   dsimp only
   rw [htk]
   exact hS.sel [0, 1, 2, 3, 4] rfl rfl
end
end Go.Proofs.YtocofjmknnckhaaGreatDoor
namespace Go.En
open Go.ChangeShapes Go.WideShapes Go.Deep
theorem rd_of {W : World} {a : Addr} {len cap sz : Nat} (hsz : 0 < sz) (hl : len ≤ cap) (cs : Nat → List Value) (h1 : ∀ i, i < cap → (cs i).length = sz) (h : ∀ i, i < cap → ∀ j, j < sz → W.cell? (a.add (i * sz + j)) = (cs i)[j]?) :
  ∃ E, Rd (.slice (some a) len cap) E sz len ((List.range len).map cs).flatten W := by
 by_cases h0 : cap = 0
 ·subst h0
  have : len = 0 := by omega
  subst this
  exact ⟨0, .inl ⟨⟨_, rfl⟩, rfl, rfl⟩⟩
 ·have hc := h 0 (by omega) 0 hsz
  have hp0 : 0 < (cs 0).length := by rw [h1 0 (by omega)]; exact hsz
  have hv : (cs 0)[0]? = some (cs 0)[0] := List.getElem?_eq_getElem hp0
  rw [hv] at hc
  have hsp : a.spot = none := by simpa [Addr.add] using World.cell?_spot hc
  obtain ⟨b, off, spot⟩ := a
  simp only at hsp
  subst hsp
  have hcell : ∀ i, i < cap → ∀ j, j < sz → W.cell? ⟨b, off + (i * sz + j), none⟩ = (cs i)[j]? := fun i hi j hj => by
   have := h i hi j hj
   rwa [En.add_plain] at this
  have hb : ∃ c E fr, W.heap[b]? = some (.cells c E fr) := by
   have h2 := hcell 0 (by omega) 0 hsz
   rw [hv] at h2
   unfold World.cell? at h2
   split at h2
   ·rename_i c E fr hh; exact ⟨c, E, fr, hh⟩
   ·cases h2
  obtain ⟨⟨l⟩, E, fr, hh⟩ := hb
  have hget : ∀ i, i < cap → ∀ j, j < sz → l[off + (i * sz + j)]? = (cs i)[j]? := fun i hi j hj => by
   have := hcell i hi j hj
   simpa [World.cell?, hh] using this
  have hlen : off + cap * sz ≤ l.length := by
   have h2 := hget (cap - 1) (by omega) (sz - 1) (by omega)
   have hv2 : (cs (cap - 1))[sz - 1]? = some ((cs (cap - 1))[sz - 1]'(by rw [h1 _ (by omega)]; omega)) := List.getElem?_eq_getElem _
   rw [hv2] at h2
   have h3 := (List.getElem?_eq_some_iff.1 h2).1
   have h4 : (cap - 1) * sz + sz = cap * sz := by rw [← Nat.succ_mul]; congr 1; omega
   omega
  refine ⟨E, .inr ⟨b, off, cap, l, rfl, hl, hlen, ?_, ⟨fr, hh⟩⟩⟩
  have hfl : ∀ x ∈ (List.range len).map cs, x.length = sz := fun x hx => by
   simp only [List.mem_map, List.mem_range] at hx
   obtain ⟨i, hi, rfl⟩ := hx
   exact h1 i (by omega)
  have hll : ((List.range len).map cs).flatten.length = len * sz := by rw [flat_len hfl]; simp
  apply List.ext_getElem?
  intro k
  by_cases hk : k < len * sz
  ·rw [List.getElem?_take_of_lt hk, List.getElem?_drop]
   have hi : k / sz < len := Nat.div_lt_of_lt_mul (by rwa [Nat.mul_comm] at hk)
   have hj : k % sz < sz := Nat.mod_lt _ hsz
   have hk' : k / sz * sz + k % sz = k := Nat.div_add_mod' k sz
   have hg := flat_get (ls := (List.range len).map cs) (k := sz) (i := k / sz) hfl (by simpa using hi) []
   rw [List.append_nil] at hg
   have h5 := hget (k / sz) (by omega) (k % sz) hj
   rw [hk'] at h5
   rw [h5]
   have h6 : (((List.range len).map cs).flatten)[k / sz * sz + k % sz]? = (List.take sz (List.drop (k / sz * sz) ((List.range len).map cs).flatten))[k % sz]? := by
    rw [List.getElem?_take_of_lt hj, List.getElem?_drop]
   rw [hk'] at h6
   rw [h6, hg]
   simp
  ·rw [List.getElem?_eq_none (by simp; omega), List.getElem?_eq_none (by omega)]
section
variable {H : Type} {enc : TypeId × Value → H} {W : World} {P : Program}
theorem cells_at {a : Addr} {sz k : Nat} {cs : List Value} (hg : ∀ j, j < sz → W.cell? ((a.add k).add j) = cs[j]?) : ∀ j, j < sz → W.cell? (a.add (k + j)) = cs[j]? := fun j hj => by
 rw [← Go.Deep.add_add]
 exact hg j hj
theorem slice_of {α : Type} {enc' : α → List Value} {R : α → Prop} {T e sz : Nat} {v : Value} {d : DataW H} {p : List MemPlace} (hT : P.underlying T = some (.slice e)) (hc : P.cellsOf e = sz) (h0 : 0 < sz) (o0 : α) (he : ∀ o, (enc' o).length = sz)
  (hel : ∀ {fuel : Nat} {cs : List Value} {x : DataW H × List MemPlace}, DataW.trod enc P W 0 (fun _ => true) true fuel e cs = some x → ∃ o, cs = enc' o ∧ R o)
  (hv : ∃ a n c, v = .slice a n c) (h : DataW.Trod enc P W 0 (fun _ => true) true T v d p) : ∃ E n os, os.length = n ∧ n ≤ 9223372036854775807 ∧ Rd v E sz n (fl enc' os) W ∧ ∀ o ∈ os, R o := by
 obtain ⟨fuel, h⟩ := h
 obtain ⟨a0, n0, c0, rfl⟩ := hv
 rcases open_slice hT h with ⟨hcs, _⟩ | ⟨a, len, cap, m, n, D, Pl, hcs, _, hl, hmx, hm, _, hi⟩
 ·cases hcs
  exact ⟨0, 0, [], rfl, by decide, .inl ⟨⟨none, rfl⟩, rfl, rfl⟩, fun o ho => nomatch ho⟩
 ·cases hcs
  have hm : m = c0 := by simpa using hm
  rw [hm] at hi
  rw [hc] at hi
  have hex : ∀ i : Nat, ∃ o : α, i < c0 → (∀ j, j < sz → W.cell? (a.add (i * sz + j)) = (enc' o)[j]?) ∧ R o := by
   intro i
   by_cases hlt : i < c0
   ·obtain ⟨cs', hc, ht⟩ := hi i hlt
    obtain ⟨o, rfl, hr⟩ := hel ht
    obtain ⟨_, _, hg⟩ := World.cells?_some hc
    exact ⟨o, fun _ => ⟨cells_at hg, hr⟩⟩
   ·exact ⟨o0, fun h => absurd h hlt⟩
  obtain ⟨os, hos⟩ := Classical.axiomOfChoice hex
  obtain ⟨E, hr⟩ := rd_of (W := W) (a := a) (sz := sz) h0 hl (fun i => enc' (os i)) (fun i _ => he _) (fun i hi j hj => (hos i hi).1 j hj)
  refine ⟨E, n0, (List.range n0).map os, by rw [List.length_map, List.length_range], ?_, ?_, fun o ho => ?_⟩
  ·unfold maxLen at hmx
   omega
  ·have e : fl enc' ((List.range n0).map os) = ((List.range n0).map fun i => enc' (os i)).flatten := by
    rw [fl, List.map_map]
    rfl
   rw [e]
   exact hr
  ·simp only [List.mem_map, List.mem_range] at ho
   obtain ⟨i, hi, rfl⟩ := ho
   exact (hos i (by omega)).2
theorem u8_rng {n : Int} (h : (Lit.int .u8 n).wf = true) : 0 ≤ n ∧ n ≤ 255 := by
 simp only [Lit.wf, Bool.and_eq_true, decide_eq_true_eq] at h
 have h1 : IntKind.u8.min = 0 := by decide
 have h2 : IntKind.u8.max = 255 := by decide
 rw [h1, h2] at h
 exact h
theorem bytes_of {fuel t e n : Nat} {cs : List Value} {x : DataW H × List MemPlace} (ht : P.underlying t = some (.array n e)) (he : P.underlying e = some (.int .u8)) (hc : P.cellsOf e = 1) (hct : P.cellsOf t = n) (h : DataW.trod enc P W 0 (fun _ => true) true fuel t cs = some x) :
  ∃ bs : List UInt8, bs.length = n ∧ cs = bys bs := by
 obtain ⟨xs, m, _, _, hcl, hxl, hi⟩ := DataW.trod_array ht h
 rw [hct] at hcl
 have hget : ∀ i (hi : i < cs.length), ∃ k : Int, cs[i] = .int .u8 k ∧ 0 ≤ k ∧ k ≤ 255 := by
  intro i hl
  have h1 := hi i (by omega)
  have h2 : i < xs.length := by omega
  rw [List.getElem?_eq_getElem h2] at h1
  obtain ⟨k, hk, _, hw⟩ := DataW.trod_int he h1
  rw [hc, Nat.mul_one] at hk
  refine ⟨k, ?_, u8_rng hw⟩
  have h3 := congrArg (fun l : List Value => l[0]?) hk
  simp only [List.getElem?_take, List.getElem?_drop, Nat.add_zero] at h3
  rw [if_pos (by omega), List.getElem?_eq_getElem hl] at h3
  simpa using h3
 refine ⟨cs.map fun v => match v with | .int _ k => UInt8.ofNat k.toNat | _ => 0, by rw [List.length_map, hcl], ?_⟩
 refine List.ext_getElem (by simp [bys]) fun i h1 h2 => ?_
 obtain ⟨k, hk, k0, k1⟩ := hget i h1
 simp only [bys, List.getElem_map, hk]
 congr 1
 simp
 omega
theorem below_of {w w' : World} (h : Fr w (fun _ => False) w') : Go.RowKit.Below w.heap.size w w' := ⟨h.os, h.tape, h.out, h.size, fun k hk => h.kept k hk fun h => h⟩
end
end Go.En
namespace Go.Proofs.YtocofjmknnckhaaGreatDoor
open Go.En
def m21 : MC := .sq (.rg [.c 2 (.int .i64 0)]) (.sq (.sq (.rg [.t 3 0, .o 4 (.cl 44 [.tmp 3]), .o 5 (.cm .gtr (.tmp 4) (.const (.int .i64 0)))]) (.cd (.tmp 5) (.sq (.rg [.c 2 (.int .i64 40)]) (.rt)) (.sk))) (.sq (.rg [.c 2 (.int .i64 0)]) (.rt)))
theorem k21 : Tryz.f21.body.any (fun c => chkC Tryz.prog c m21 && allD (dlt 6) m21) = true := by kernel_rfl
def m44 : MC := .sq (.rg [.c 2 (.int .i64 0)]) (.sq (.sq (.rg [.t 12 0, .o 13 (.ln true (.tmp 12)), .o 14 (.cm .lss (.tmp 13) (.const (.int .i64 1))), .t 15 14, .q 16 15 false (.mv (.tmp 0)), .q 17 15 false (.ln true (.tmp 16)), .q 18 15 false (.cm .gtr (.tmp 17) (.const (.int .i64 100))), .o 19 (.pk (.tmp 15) (.const (.bool true)) (.tmp 18))]) (.cd (.tmp 19) (.sq (.rg [.c 2 (.int .i64 1)]) (.rt)) (.sk))) (.sq (.sq (.rg [.c 3 (.int .i64 0)]) (.bk 0 (.lp (.sq (.sq (.rg [.t 20 3, .t 21 0, .o 22 (.ln true (.tmp 21)), .o 23 (.cm .lss (.tmp 20) (.tmp 22))]) (.cd (.tmp 23) (.sk) (.xt 0))) (.sq (.bk 1 (.sq (.rg [.t 26 0, .t 27 3, .o 28 (.ixs (.tmp 26) (.tmp 27)), .o 29 (.cl 75 [.tmp 28]), .t 4 29]) (.sq (.rg [.t 30 4, .o 31 (.nt (.tmp 30))]) (.cd (.tmp 31) (.sq (.rg [.c 2 (.int .i64 2)]) (.rt)) (.sk))))) (.rg [.t 24 3, .o 25 (.ar .add .i64 (.tmp 24) (.const (.int .i64 1)) true), .t 3 25])))))) (.sq (.rg [.t 32 0, .o 33 (.cl 76 [.tmp 32]), .t 5 33]) (.sq (.sq (.rg [.c 6 (.int .i64 0)]) (.bk 2 (.lp (.sq (.sq (.rg [.t 34 6, .t 35 5, .o 36 (.ln false (.tmp 35)), .o 37 (.cm .lss (.tmp 34) (.tmp 36))]) (.cd (.tmp 37) (.sk) (.xt 2))) (.sq (.bk 3 (.sq (.rg [.t 40 5, .t 41 6, .o 42 (.ias (.tmp 40) (.tmp 41) 1), .o 43 (.ld (.tmp 42) none), .o 44 (.se .eql (.tmp 43) (.const (.string ⟨#[]⟩)))]) (.cd (.tmp 44) (.sq (.rg [.c 2 (.int .i64 3)]) (.rt)) (.sk)))) (.rg [.t 38 6, .o 39 (.ar .add .i64 (.tmp 38) (.const (.int .i64 1)) true), .t 6 39])))))) (.sq (.sq (.rg [.c 7 (.int .i64 0)]) (.bk 4 (.lp (.sq (.sq (.rg [.t 45 7, .t 46 5, .o 47 (.ln false (.tmp 46)), .o 48 (.cm .lss (.tmp 45) (.tmp 47))]) (.cd (.tmp 48) (.sk) (.xt 4))) (.sq (.bk 5 (.sq (.rg [.t 51 5, .t 52 7, .o 53 (.ias (.tmp 51) (.tmp 52) 1), .o 54 (.ld (.tmp 53) none), .o 55 (.ixs (.tmp 54) (.const (.int .i64 0))), .o 56 (.cm .eql (.tmp 55) (.const (.int .u8 46)))]) (.cd (.tmp 56) (.sq (.rg [.c 2 (.int .i64 4)]) (.rt)) (.sk)))) (.rg [.t 49 7, .o 50 (.ar .add .i64 (.tmp 49) (.const (.int .i64 1)) true), .t 7 50])))))) (.sq (.sq (.rg [.c 8 (.int .i64 1)]) (.bk 6 (.lp (.sq (.sq (.rg [.t 57 8, .t 58 0, .o 59 (.ln true (.tmp 58)), .o 60 (.cm .lss (.tmp 57) (.tmp 59))]) (.cd (.tmp 60) (.sk) (.xt 6))) (.sq (.bk 7 (.sq (.rg [.t 63 0, .t 64 8, .o 65 (.ixs (.tmp 63) (.tmp 64)), .o 66 (.cm .eql (.tmp 65) (.const (.int .u8 46))), .t 67 66, .q 68 67 true (.mv (.tmp 0)), .q 69 67 true (.mv (.tmp 8)), .q 70 67 true (.ar .sub .i64 (.tmp 69) (.const (.int .i64 1)) true), .q 71 67 true (.ixs (.tmp 68) (.tmp 70)), .q 72 67 true (.cm .eql (.tmp 71) (.const (.int .u8 46))), .o 73 (.pk (.tmp 67) (.tmp 72) (.const (.bool false)))]) (.cd (.tmp 73) (.sq (.rg [.c 2 (.int .i64 5)]) (.rt)) (.sk)))) (.rg [.t 61 8, .o 62 (.ar .add .i64 (.tmp 61) (.const (.int .i64 1)) true), .t 8 62])))))) (.sq (.sq (.rg [.c 9 (.int .i64 0)]) (.bk 8 (.lp (.sq (.sq (.rg [.t 74 9, .t 75 5, .o 76 (.ln false (.tmp 75)), .o 77 (.cm .lss (.tmp 74) (.tmp 76))]) (.cd (.tmp 77) (.sk) (.xt 8))) (.sq (.bk 9 (.sq (.rg [.t 80 5, .t 81 9, .o 82 (.ias (.tmp 80) (.tmp 81) 1), .o 83 (.ld (.tmp 82) none), .o 84 (.ln true (.tmp 83)), .t 10 84]) (.sq (.rg [.t 85 10, .o 86 (.cm .geq (.tmp 85) (.const (.int .i64 5))), .t 87 86, .q 88 87 true (.mv (.tmp 5)), .q 89 87 true (.mv (.tmp 9)), .q 90 87 true (.ias (.tmp 88) (.tmp 89) 1), .q 91 87 true (.ld (.tmp 90) none), .q 92 87 true (.mv (.tmp 10)), .q 93 87 true (.ar .sub .i64 (.tmp 92) (.const (.int .i64 5)) true), .q 94 87 true (.ss (.tmp 91) (some (.tmp 93)) none), .q 95 87 true (.se .eql (.tmp 94) (.const (.string ⟨#[46, 108, 111, 99, 107]⟩))), .o 96 (.pk (.tmp 87) (.tmp 95) (.const (.bool false)))]) (.cd (.tmp 96) (.sq (.rg [.c 2 (.int .i64 6)]) (.rt)) (.sk))))) (.rg [.t 78 9, .o 79 (.ar .add .i64 (.tmp 78) (.const (.int .i64 1)) true), .t 9 79])))))) (.sq (.sq (.rg [.t 97 0, .t 98 0, .o 99 (.ln true (.tmp 98)), .o 100 (.ar .sub .i64 (.tmp 99) (.const (.int .i64 1)) true), .o 101 (.ixs (.tmp 97) (.tmp 100)), .o 102 (.cm .eql (.tmp 101) (.const (.int .u8 46)))]) (.cd (.tmp 102) (.sq (.rg [.c 2 (.int .i64 7)]) (.rt)) (.sk))) (.sq (.sq (.rg [.c 11 (.int .i64 1)]) (.bk 10 (.lp (.sq (.sq (.rg [.t 103 11, .t 104 0, .o 105 (.ln true (.tmp 104)), .o 106 (.cm .lss (.tmp 103) (.tmp 105))]) (.cd (.tmp 106) (.sk) (.xt 10))) (.sq (.bk 11 (.sq (.rg [.t 109 0, .t 110 11, .o 111 (.ixs (.tmp 109) (.tmp 110)), .o 112 (.cm .eql (.tmp 111) (.const (.int .u8 123))), .t 113 112, .q 114 113 true (.mv (.tmp 0)), .q 115 113 true (.mv (.tmp 11)), .q 116 113 true (.ar .sub .i64 (.tmp 115) (.const (.int .i64 1)) true), .q 117 113 true (.ixs (.tmp 114) (.tmp 116)), .q 118 113 true (.cm .eql (.tmp 117) (.const (.int .u8 64))), .o 119 (.pk (.tmp 113) (.tmp 118) (.const (.bool false)))]) (.cd (.tmp 119) (.sq (.rg [.c 2 (.int .i64 8)]) (.rt)) (.sk)))) (.rg [.t 107 11, .o 108 (.ar .add .i64 (.tmp 107) (.const (.int .i64 1)) true), .t 11 108])))))) (.sq (.rg [.c 2 (.int .i64 0)]) (.rt)))))))))))
theorem k44 : Tryz.f44.body.any (fun c => chkC Tryz.prog c m44 && allD (dlt 120) m44) = true := by kernel_rfl
def m75 : MC := .sq (.rg [.c 2 (.bool false)]) (.sq (.sq (.rg [.t 3 0, .o 4 (.cm .lss (.tmp 3) (.const (.int .u8 33))), .t 5 4, .q 6 5 false (.mv (.tmp 0)), .q 7 5 false (.cm .gtr (.tmp 6) (.const (.int .u8 126))), .o 8 (.pk (.tmp 5) (.const (.bool true)) (.tmp 7))]) (.cd (.tmp 8) (.sq (.rg [.c 2 (.bool false)]) (.rt)) (.sk))) (.sq (.rg [.t 9 0, .o 10 (.cm .neq (.tmp 9) (.const (.int .u8 126))), .t 11 10, .q 12 11 true (.mv (.tmp 0)), .q 13 11 true (.cm .neq (.tmp 12) (.const (.int .u8 94))), .o 14 (.pk (.tmp 11) (.tmp 13) (.const (.bool false))), .t 15 14, .q 16 15 true (.mv (.tmp 0)), .q 17 15 true (.cm .neq (.tmp 16) (.const (.int .u8 58))), .o 18 (.pk (.tmp 15) (.tmp 17) (.const (.bool false))), .t 19 18, .q 20 19 true (.mv (.tmp 0)), .q 21 19 true (.cm .neq (.tmp 20) (.const (.int .u8 63))), .o 22 (.pk (.tmp 19) (.tmp 21) (.const (.bool false))), .t 23 22, .q 24 23 true (.mv (.tmp 0)), .q 25 23 true (.cm .neq (.tmp 24) (.const (.int .u8 42))), .o 26 (.pk (.tmp 23) (.tmp 25) (.const (.bool false))), .t 27 26, .q 28 27 true (.mv (.tmp 0)), .q 29 27 true (.cm .neq (.tmp 28) (.const (.int .u8 91))), .o 30 (.pk (.tmp 27) (.tmp 29) (.const (.bool false))), .t 31 30, .q 32 31 true (.mv (.tmp 0)), .q 33 31 true (.cm .neq (.tmp 32) (.const (.int .u8 92))), .o 34 (.pk (.tmp 31) (.tmp 33) (.const (.bool false))), .t 2 34]) (.rt)))
theorem k75 : Tryz.f75.body.any (fun c => chkC Tryz.prog c m75 && allD (dlt 35) m75) = true := by kernel_rfl
def m76 : MC := .sq (.rg [.c 2 (.slice none 0 0)]) (.sq (.rg [.c 3 (.slice none 0 0)]) (.sq (.rg [.c 4 (.int .i64 0)]) (.sq (.sq (.rg [.c 5 (.int .i64 0)]) (.bk 0 (.lp (.sq (.sq (.rg [.t 6 5, .t 7 0, .o 8 (.ln true (.tmp 7)), .o 9 (.cm .leq (.tmp 6) (.tmp 8))]) (.cd (.tmp 9) (.sk) (.xt 0))) (.sq (.bk 1 (.sq (.rg [.t 12 5, .t 13 0, .o 14 (.ln true (.tmp 13)), .o 15 (.cm .eql (.tmp 12) (.tmp 14)), .t 16 15, .q 17 16 false (.mv (.tmp 0)), .q 18 16 false (.mv (.tmp 5)), .q 19 16 false (.ixs (.tmp 17) (.tmp 18)), .q 20 16 false (.cm .eql (.tmp 19) (.const (.int .u8 47))), .o 21 (.pk (.tmp 16) (.const (.bool true)) (.tmp 20))]) (.cd (.tmp 21) (.sq (.rg [.t 22 3, .t 23 0, .t 24 4, .t 25 5, .o 26 (.ss (.tmp 23) (some (.tmp 24)) (some (.tmp 25))), .o 27 (.bl 9 1 [.tmp 26]), .o 28 (.ap 9 1 16 [(1, .string ⟨#[]⟩)] (.tmp 22) (.tmp 27)), .t 3 28]) (.rg [.t 29 5, .o 30 (.ar .add .i64 (.tmp 29) (.const (.int .i64 1)) true), .t 4 30])) (.sk)))) (.rg [.t 10 5, .o 11 (.ar .add .i64 (.tmp 10) (.const (.int .i64 1)) true), .t 5 11])))))) (.sq (.rg [.t 31 3, .t 2 31]) (.rt)))))
theorem k76 : Tryz.f76.body.any (fun c => chkC Tryz.prog c m76 && allD (dlt 32) m76) = true := by kernel_rfl
theorem ib_app : ∀ (s t : Bs) (c : UInt8), c ∉ s → Lib.indexByte (s ++ c :: t) c = s.length
 | [], t, c, _ => by simp [Lib.indexByte]
 | x :: s, t, c, h => by
  have h1 : ¬ c = x := fun e => h (by rw [e]; exact List.mem_cons_self)
  have ih := ib_app s t c (fun hm => h (List.mem_cons_of_mem _ hm))
  rw [List.cons_append]
  unfold Lib.indexByte
  rw [if_neg (by simpa using fun e => h1 e.symm), ih, if_neg (by simp)]
  simp
theorem may_n : ∀ n : Fin 256, may (UInt8.ofNat n.val) = (decide (33 ≤ n.val) && (decide (n.val ≤ 126) && (decide (n.val ≠ 126) && (decide (n.val ≠ 94) && (decide (n.val ≠ 58) && (decide (n.val ≠ 63) && (decide (n.val ≠ 42) && (decide (n.val ≠ 91) && decide (n.val ≠ 92))))))))) := by decide +kernel
theorem may_c (c : UInt8) : may c = (decide (33 ≤ c.toNat) && (decide (c.toNat ≤ 126) && (decide (c.toNat ≠ 126) && (decide (c.toNat ≠ 94) && (decide (c.toNat ≠ 58) && (decide (c.toNat ≠ 63) && (decide (c.toNat ≠ 42) && (decide (c.toNat ≠ 91) && decide (c.toNat ≠ 92))))))))) := by
 have := may_n ⟨c.toNat, c.toNat_lt⟩
 have e0 : UInt8.ofNat c.toNat = c := by simp
 dsimp only at this
 rw [e0] at this
 exact this
theorem prt_eq (s : Bs) : prt s = Lib.splitK [47] 0 (s.count 47) s := by
 unfold prt
 rw [Lib.splitB_data]
 congr 1
 have h1 : Lib.countB (⟨s.toArray⟩ : ByteArray) ⟨#[47]⟩ = Lib.count s [47] := rfl
 rw [h1, Lib.count_one]
theorem prt_one {s : Bs} (h : (47 : UInt8) ∉ s) : prt s = [s] := by
 rw [prt_eq, List.count_eq_zero.2 h]
 rfl
theorem prt_cons {a : Bs} (b : Bs) (h : (47 : UInt8) ∉ a) : prt (a ++ 47 :: b) = a :: prt b := by
 rw [prt_eq, prt_eq, List.count_append, List.count_eq_zero.2 h, List.count_cons_self, Nat.zero_add]
 have hi : Lib.index (a ++ 47 :: b) [47] = (a.length : Int) := by rw [Lib.index_one, ib_app a b 47 h]
 rw [Lib.splitK, hi, if_neg (by simp)]
 simp
theorem cont2 (a b : UInt8) : ∀ s : Bs, 0 ≤ Lib.index s [a, b] ↔ ∃ i, s[i]? = some a ∧ s[i + 1]? = some b
 | [] => by
  constructor
  ·intro h
   have e : Lib.index [] [a, b] = -1 := rfl
   rw [e] at h
   exact absurd h (by decide)
  ·rintro ⟨i, h, _⟩
   simp at h
 | x :: l => by
  have ih := cont2 a b l
  have hge := Lib.index_ge l [a, b]
  have e : ([a, b] : Bs).isPrefixOf (x :: l) = (a == x && ([b] : Bs).isPrefixOf l) := rfl
  unfold Lib.index
  rw [e]
  by_cases hp : (a == x && ([b] : Bs).isPrefixOf l) = true
  ·rw [if_pos hp]
   refine ⟨fun _ => ⟨0, ?_⟩, fun _ => Int.le_refl _⟩
   simp only [Bool.and_eq_true, beq_iff_eq] at hp
   obtain ⟨rfl, hp⟩ := hp
   refine ⟨rfl, ?_⟩
   match l, hp with
   | y :: l, hp =>
    have : (b == y) = true := by simpa [List.isPrefixOf] using hp
    rw [beq_iff_eq] at this
    rw [this]
    rfl
  ·rw [if_neg hp]
   have key : (∃ i, (x :: l)[i]? = some a ∧ (x :: l)[i + 1]? = some b) ↔ ∃ i, l[i]? = some a ∧ l[i + 1]? = some b := by
    constructor
    ·rintro ⟨i, h1, h2⟩
     cases i with
     | zero =>
      exfalso
      apply hp
      simp only [List.getElem?_cons_zero, Option.some.injEq] at h1
      simp only [List.getElem?_cons_succ] at h2
      subst h1
      match l, h2 with
      | y :: l, h2 =>
       simp only [Nat.zero_add, List.getElem?_cons_zero, Option.some.injEq] at h2
       subst h2
       simp [List.isPrefixOf]
     | succ i => exact ⟨i, by simpa using h1, by simpa using h2⟩
    ·rintro ⟨i, h1, h2⟩
     exact ⟨i + 1, by simpa using h1, by simpa using h2⟩
   rw [key, ← ih]
   by_cases h1 : (Lib.index l [a, b] == -1) = true
   ·rw [if_pos h1]
    rw [beq_iff_eq] at h1
    rw [h1]
   ·rw [if_neg h1]
    have h1 : Lib.index l [a, b] ≠ -1 := fun e => h1 (by rw [e]; rfl)
    constructor <;> intro h <;> omega
theorem brkF_none {s : Bs} : ∀ (n k : Nat), (∀ i, k ≤ i → i < k + n → rul i s = false) → brkF s n k = 0
 | 0, _, _ => rfl
 | n + 1, k, h => by
  unfold brkF
  rw [if_neg (by rw [h k (Nat.le_refl _) (by omega)]; decide)]
  exact brkF_none n (k + 1) fun i hi hij => h i (by omega) (by omega)
theorem brk_at {s : Bs} (j : Nat) (hj : j < 8) (h : ∀ i, i < j → rul i s = false) (h1 : rul j s = true) : brk s = j + 1 := by
 have := brkF_at s 8 0 j hj (fun i _ hi => h i (by omega)) (by rw [Nat.zero_add]; exact h1)
 rw [Nat.zero_add] at this
 exact this
theorem brk_no8 {s : Bs} (h : ∀ i, i < 8 → rul i s = false) : brk s = 0 := brkF_none 8 0 fun i _ hi => h i (by omega)
section
variable {w w0 : World} {S0 : Nat → Prop} {L B : List Res} {K : Value → World → Prop} {s : Bs} {E0 E1 : Nat}
theorem r_may {c : UInt8} (h : K (.bool (may c)) w) : CK Tryz.prog 75 [.int .u8 (c.toNat : Int)] w K := by
 have hc := c.toNat_lt
 rw [may_c] at h
 refine call_k Tryz.func75 k75 Tryz.ntmps75 (Nat.le_of_ble_eq_true rfl) ?_
 refine gW ?_
 (generalize q1 : cmv _ _ _ = q; cases q <;> simp only [cmv, arv, Bool.not_eq_true', Bool.not_eq_false', decide_eq_true_eq, decide_eq_false_iff_not] at q1 <;> first | (exfalso; omega) | skip)
 rotate_left
 ·rw [decide_eq_false (by omega)] at h
  refine gW ?_
  exact g_ret (q_1 rfl h)
 refine gW ?_
 (generalize q2 : cmv _ _ _ = q; cases q <;> simp only [cmv, arv, Bool.not_eq_true', Bool.not_eq_false', decide_eq_true_eq, decide_eq_false_iff_not] at q2 <;> first | (exfalso; omega) | skip)
 rotate_left
 ·rw [decide_eq_false (show ¬ c.toNat ≤ 126 by omega), Bool.false_and, Bool.and_false] at h
  refine gW ?_
  exact g_ret (q_1 rfl h)
 rw [decide_eq_true (show 33 ≤ c.toNat by omega), decide_eq_true (show c.toNat ≤ 126 by omega), Bool.true_and, Bool.true_and] at h
 refine gW ?_
 (generalize q3 : cmv _ _ _ = q; cases q <;> simp only [cmv, arv, Bool.not_eq_true', Bool.not_eq_false', decide_eq_true_eq, decide_eq_false_iff_not] at q3 <;> first | (exfalso; omega) | skip)
 ·rw [decide_eq_false (show ¬ c.toNat ≠ 126 by omega)] at h
  refine gW ?_
  exact g_ret (q_1 rfl h)
 rw [decide_eq_true (show c.toNat ≠ 126 by omega), Bool.true_and] at h
 refine gW ?_
 (generalize q4 : cmv _ _ _ = q; cases q <;> simp only [cmv, arv, Bool.not_eq_true', Bool.not_eq_false', decide_eq_true_eq, decide_eq_false_iff_not] at q4 <;> first | (exfalso; omega) | skip)
 ·rw [decide_eq_false (show ¬ c.toNat ≠ 94 by omega)] at h
  refine gW ?_
  exact g_ret (q_1 rfl h)
 rw [decide_eq_true (show c.toNat ≠ 94 by omega), Bool.true_and] at h
 refine gW ?_
 (generalize q5 : cmv _ _ _ = q; cases q <;> simp only [cmv, arv, Bool.not_eq_true', Bool.not_eq_false', decide_eq_true_eq, decide_eq_false_iff_not] at q5 <;> first | (exfalso; omega) | skip)
 ·rw [decide_eq_false (show ¬ c.toNat ≠ 58 by omega)] at h
  refine gW ?_
  exact g_ret (q_1 rfl h)
 rw [decide_eq_true (show c.toNat ≠ 58 by omega), Bool.true_and] at h
 refine gW ?_
 (generalize q6 : cmv _ _ _ = q; cases q <;> simp only [cmv, arv, Bool.not_eq_true', Bool.not_eq_false', decide_eq_true_eq, decide_eq_false_iff_not] at q6 <;> first | (exfalso; omega) | skip)
 ·rw [decide_eq_false (show ¬ c.toNat ≠ 63 by omega)] at h
  refine gW ?_
  exact g_ret (q_1 rfl h)
 rw [decide_eq_true (show c.toNat ≠ 63 by omega), Bool.true_and] at h
 refine gW ?_
 (generalize q7 : cmv _ _ _ = q; cases q <;> simp only [cmv, arv, Bool.not_eq_true', Bool.not_eq_false', decide_eq_true_eq, decide_eq_false_iff_not] at q7 <;> first | (exfalso; omega) | skip)
 ·rw [decide_eq_false (show ¬ c.toNat ≠ 42 by omega)] at h
  refine gW ?_
  exact g_ret (q_1 rfl h)
 rw [decide_eq_true (show c.toNat ≠ 42 by omega), Bool.true_and] at h
 refine gW ?_
 (generalize q8 : cmv _ _ _ = q; cases q <;> simp only [cmv, arv, Bool.not_eq_true', Bool.not_eq_false', decide_eq_true_eq, decide_eq_false_iff_not] at q8 <;> first | (exfalso; omega) | skip)
 ·rw [decide_eq_false (show ¬ c.toNat ≠ 91 by omega)] at h
  refine gW ?_
  exact g_ret (q_1 rfl h)
 rw [decide_eq_true (show c.toNat ≠ 91 by omega), Bool.true_and] at h
 refine gW ?_
 (generalize q9 : cmv _ _ _ = q; cases q <;> simp only [cmv, arv, Bool.not_eq_true', Bool.not_eq_false', decide_eq_true_eq, decide_eq_false_iff_not] at q9 <;> first | (exfalso; omega) | skip)
 ·rw [decide_eq_false (show ¬ c.toNat ≠ 92 by omega)] at h
  refine gW ?_
  exact g_ret (q_1 rfl h)
 rw [decide_eq_true (show c.toNat ≠ 92 by omega)] at h
 refine gW ?_
 exact g_ret (q_1 rfl h)
def ptI (s : Bs) (k f : Nat) (out : List Bs) : Prop := (k ≤ s.length → prt s = out ++ prt (s.drop f) ∧ f ≤ k ∧ (47 : UInt8) ∉ (s.drop f).take (k - f)) ∧ (s.length < k → out = prt s) ∧ out.length ≤ k
theorem ptI_0 (s : Bs) : ptI s 0 0 [] := ⟨fun _ => ⟨by simp, Nat.le_refl _, by simp⟩, fun h => by omega, Nat.le_refl _⟩
theorem ptI_go {s : Bs} {k f : Nat} {out : List Bs} (h : ptI s k f out) (hk : k < s.length) (hc : s[k] ≠ 47) : ptI s (k + 1) f out := by
 obtain ⟨h1, h2, h3⟩ := h.1 (by omega)
 refine ⟨fun _ => ⟨h1, by omega, ?_⟩, fun h => by omega, by have := h.2.2; omega⟩
 have hk2 : k - f < (s.drop f).length := by rw [List.length_drop]; omega
 rw [show k + 1 - f = (k - f) + 1 by omega, List.take_succ_eq_append_getElem hk2, List.mem_append, List.mem_singleton]
 rintro (h | h)
 ·exact h3 h
 ·rw [List.getElem_drop] at h
  have : s[f + (k - f)]'(by omega) = s[k] := by congr 1; omega
  rw [this] at h
  exact hc h.symm
theorem ptI_cut {s : Bs} {k f : Nat} {out : List Bs} (h : ptI s k f out) (hk : k < s.length) (hc : s[k] = 47) : ptI s (k + 1) (k + 1) (out ++ [(s.drop f).take (k - f)]) := by
 obtain ⟨h1, h2, h3⟩ := h.1 (by omega)
 refine ⟨fun _ => ⟨?_, Nat.le_refl _, by simp⟩, fun h => by omega, by rw [List.length_append, List.length_singleton]; have := h.2.2; omega⟩
 have hk2 : k - f < (s.drop f).length := by rw [List.length_drop]; omega
 have e : s.drop f = (s.drop f).take (k - f) ++ 47 :: s.drop (k + 1) := by
  conv => lhs; rw [← List.take_append_drop (k - f) (s.drop f), List.drop_eq_getElem_cons hk2, List.getElem_drop, List.drop_drop]
  have e1 : s[f + (k - f)]'(by omega) = 47 := by rw [← hc]; congr 1; omega
  rw [e1, show f + (k - f + 1) = k + 1 by omega]
 rw [h1, List.append_assoc]
 congr 1
 conv => lhs; rw [e]
 rw [prt_cons _ h3]
 rfl
theorem ptI_end {s : Bs} {f : Nat} {out : List Bs} (h : ptI s s.length f out) : ptI s (s.length + 1) (s.length + 1) (out ++ [(s.drop f).take (s.length - f)]) := by
 obtain ⟨h1, h2, h3⟩ := h.1 (Nat.le_refl _)
 have e : (s.drop f).take (s.length - f) = s.drop f := List.take_of_length_le (by rw [List.length_drop]; exact Nat.le_refl _)
 rw [e] at h3 ⊢
 refine ⟨fun h => by omega, fun _ => ?_, by rw [List.length_append, List.length_singleton]; have := h.2.2; omega⟩
 rw [h1, prt_one h3]
set_option maxHeartbeats 1000000 in
theorem r_parts (hs : s.length ≤ 4294967280) (h : ∀ v' w', St w (fun _ => False) w' [row v' 9 1 (prt s).length ((prt s).map sv)] → K v' w') : CK Tryz.prog 76 [sv s] w K := by
 have hS := St.nil w (fun _ => False)
 have esz : (⟨s.toArray⟩ : ByteArray).size = s.length := by rw [Lib.size_eq]
 refine call_k Tryz.func76 k76 Tryz.ntmps76 (Nat.le_of_ble_eq_true rfl) ?_
 refine gW ?_
 refine g_lp (ι := Nat × Nat × Value × List Bs) (fun x => [(0, sv s), (3, x.2.2.1), (4, .int .i64 x.2.1), (5, .int .i64 x.1)]) (fun x w' => x.1 ≤ s.length + 1 ∧ ptI s x.1 x.2.1 x.2.2.2 ∧ St w (fun _ => False) w' [row x.2.2.1 9 1 x.2.2.2.length (x.2.2.2.map sv)]) (fun x => s.length + 1 - x.1) (0, 0, .slice none 0 0, [])
  ⟨rfl, rfl, rfl, rfl, trivial⟩ ⟨Nat.zero_le _, ptI_0 s, hS.nilrow 9 1⟩ ?_
 clear hS
 rintro ⟨k, f, vo, out⟩ w1 ⟨hk, hI, hS⟩
 dsimp only at hk hI hS ⊢
 refine gW ?_
 rw [esz]
 (refine g_cd rfl (fun hc => ?_) (fun hc => ?_) <;> simp only [cmv, arv, Bool.not_eq_true', Bool.not_eq_false', decide_eq_true_eq, decide_eq_false_iff_not] at hc)
 ·have hks : k ≤ s.length := by omega
  obtain ⟨_, hfk, _⟩ := hI.1 hks
  have hol := hI.2.2
  refine gW ?_
  rw [esz]
  by_cases hend : k = s.length
  ·subst hend
   rw [show cmv BinOp.eql (s.length : Int) (s.length : Int) = true from cmv_self _]
   refine gW ?_
   have hnx := ptI_end hI
   refine g_rq rfl rfl ⟨by omega, by omega, by rw [esz]; omega⟩ ?_
   rw [Int.toNat_natCast, Int.toNat_natCast, sv_ext]
   generalize (s.drop f).take (s.length - f) = p at hnx
   refine g_ef rfl (ef_bl (rs := [sv p]) hS rfl fun g w1 hS => ?_)
   refine g_ef rfl (ef_ap (bytes := 16) (n := out.length) (m := 1) (ys := [sv p]) hS 0 rfl rfl rfl (.inl ⟨9, .inr ⟨g, 0, 1, _, rfl, Nat.le_refl _, Nat.le_refl _, rfl, (hS.b 1 rfl).r⟩⟩) rfl (by omega) (by omega) fun v1 w1 hS => ?_)
   have e1 : out.map sv ++ [sv p] = (out ++ [p]).map sv := by simp
   have e2 : out.length + 1 = (out ++ [p]).length := by simp
   rw [e1, e2] at hS
   refine gW ?_
   refine g_rq rfl rfl (in64 (by simp only [arv]; omega)) ?_
   refine gW ?_
   refine g_rq rfl rfl (in64 (by simp only [arv]; omega)) ?_
   refine gW ?_
   exact g_l (s.length + 1, s.length + 1, v1, out ++ [p]) ⟨rfl, rfl, rfl, rfl, trivial⟩ ⟨Nat.le_refl _, hnx, hS.sel [0] rfl rfl⟩ (by simp only; omega)
  ·have hlt : k < s.length := by omega
   rw [show cmv BinOp.eql (k : Int) (s.length : Int) = false by simp only [cmv, decide_eq_false_iff_not]; omega]
   refine gW ?_
   refine g_rq rfl rfl ⟨by omega, by show (k : Int) < (s.length : Int); omega⟩ ?_
   have hgd : (⟨s.toArray⟩ : ByteArray).data.toList.getD (k : Int).toNat 0 = s[k] := by
    rw [Int.toNat_natCast]
    show s.getD k 0 = s[k]
    rw [List.getD_eq_getElem?_getD, List.getElem?_eq_getElem hlt]
    rfl
   rw [hgd]
   refine gW ?_
   by_cases hc47 : s[k] = 47
   ·rw [hc47, show cmv BinOp.eql (((47 : UInt8).toNat : Nat) : Int) 47 = true from rfl]
    refine gW ?_
    have hnx := ptI_cut hI hlt hc47
    refine g_rq rfl rfl ⟨by omega, by omega, by rw [esz]; omega⟩ ?_
    rw [Int.toNat_natCast, Int.toNat_natCast, sv_ext]
    generalize (s.drop f).take (k - f) = p at hnx
    refine g_ef rfl (ef_bl (rs := [sv p]) hS rfl fun g w1 hS => ?_)
    refine g_ef rfl (ef_ap (bytes := 16) (n := out.length) (m := 1) (ys := [sv p]) hS 0 rfl rfl rfl (.inl ⟨9, .inr ⟨g, 0, 1, _, rfl, Nat.le_refl _, Nat.le_refl _, rfl, (hS.b 1 rfl).r⟩⟩) rfl (by omega) (by omega) fun v1 w1 hS => ?_)
    have e1 : out.map sv ++ [sv p] = (out ++ [p]).map sv := by simp
    have e2 : out.length + 1 = (out ++ [p]).length := by simp
    rw [e1, e2] at hS
    refine gW ?_
    refine g_rq rfl rfl (in64 (by simp only [arv]; omega)) ?_
    refine gW ?_
    refine g_rq rfl rfl (in64 (by simp only [arv]; omega)) ?_
    refine gW ?_
    exact g_l (k + 1, k + 1, v1, out ++ [p]) ⟨rfl, rfl, rfl, rfl, trivial⟩ ⟨by simp only; omega, hnx, hS.sel [0] rfl rfl⟩ (by simp only; omega)
   ·have hcf : cmv BinOp.eql ((s[k].toNat : Nat) : Int) 47 = false := by
     simp only [cmv, decide_eq_false_iff_not]
     intro e
     apply hc47
     have : s[k].toNat = 47 := by omega
     exact UInt8.toNat_inj.1 this
    rw [hcf]
    refine gW ?_
    refine g_rq rfl rfl (in64 (by simp only [arv]; omega)) ?_
    refine gW ?_
    exact g_l (k + 1, f, vo, out) ⟨rfl, rfl, rfl, rfl, trivial⟩ ⟨by simp only; omega, ptI_go hI hlt hc47, hS⟩ (by simp only; omega)
 ·have ek : k = s.length + 1 := by omega
  subst ek
  have e := hI.2.1 (by omega)
  subst e
  refine gW ?_
  exact g_ret (q_1 rfl (h _ _ hS))
end
end Go.Proofs.YtocofjmknnckhaaGreatDoor
