/- The statement BlockNames: the walk. -/
import Derived.Test.YtegjocpjmfaigaaSn
set_option linter.unusedSimpArgs false
set_option linter.unusedVariables false
namespace Go.Proofs.Ytegjocpjmfaigaa
open Go.En

def armF (D : Dev) (f : Fal) : Dev := if D.down then D else D.arm f
def crshF (D : Dev) (f : Fal) : Dev := if D.down then D else D.crash f
def dn0 : Dev := Dev.new 2
def dn1 : Dev := (dn0.write 2 []).1
def dn2 : Dev := (dn1.write (-1) []).1
def dn3 : Dev := (dn2.write 0 (List.replicate 129 0)).1
def dn4 : Dev := (dn3.write 0 [111, 110, 101]).1
def dn5 : Dev := dn4.sync.1
def dn6 : Dev := armF dn5 ⟨3, 1, 2⟩
def dn7 : Dev := (dn6.write 0 [116, 119, 111]).1
def dn8 : Dev := (dn7.write 1 [116, 104, 114, 101, 101]).1
def dn9 : Dev := (dn8.write 0 [102, 111, 117, 114]).1
def dn10 : Dev := (dn9.write 0 []).1
def dn11 : Dev := dn10.sync.1
def dn12 : Dev := armF dn11 ⟨0, 0, 0⟩
def dn13 : Dev := crshF dn12 ⟨0, 0, 0⟩
def dn14 : Dev := dn13.boot
def dn15 : Dev := (dn14.write 1 [102, 105, 118, 101]).1
def dn16 : Dev := armF dn15 ⟨1, 9, 0⟩
def dn17 : Dev := dn16.sync.1
def dn18 : Dev := dn17.boot
def dn19 : Dev := (dn18.write 1 [115, 105, 120]).1
def dn20 : Dev := dn19.boot
theorem e0 : (dn0.write 2 []).2 = 140 := by decide +kernel
theorem e1 : (dn1.write (-1) []).2 = 140 := by decide +kernel
theorem e2 : (dn2.write 0 (List.replicate 129 0)).2 = 140 := by decide +kernel
theorem e3 : (dn3.write 0 [111, 110, 101]).2 = 0 := by decide +kernel
theorem e4 : dn4.sync.2 = 0 := by decide +kernel
theorem e5 : (if dn5.down then (141 : Int) else 0) = 0 := by decide +kernel
theorem e6 : (dn6.write 0 [116, 119, 111]).2 = 0 := by decide +kernel
theorem e7 : (dn7.write 1 [116, 104, 114, 101, 101]).2 = 0 := by decide +kernel
theorem e8 : (dn8.write 0 [102, 111, 117, 114]).2 = 141 := by decide +kernel
theorem e8a : dn8.waits.length = 2 := by decide +kernel
theorem e8b : dn8.many = 4 := by decide +kernel
theorem e8c : dn8.down = false := by decide +kernel
theorem e9 : (dn9.write 0 []).2 = 141 := by decide +kernel
theorem e9a : dn9.waits.length = 0 := by decide +kernel
theorem e9b : dn9.many = 4 := by decide +kernel
theorem e9c : dn9.down = true := by decide +kernel
theorem e10 : dn10.sync.2 = 141 := by decide +kernel
theorem e11 : (if dn11.down then (141 : Int) else 0) = 141 := by decide +kernel
theorem e12 : (if dn12.down then (141 : Int) else 0) = 141 := by decide +kernel
theorem e13 : dn13.down = true := by decide +kernel
theorem e14 : dn14.down = false ∧ ((0 : Int) ≤ 0 ∧ (0 : Int) < dn14.cells.length) ∧ dn14.rd 0 = pad [116, 119, 111] := by decide +kernel
theorem e14a : dn14.down = false ∧ ((0 : Int) ≤ 1 ∧ (1 : Int) < dn14.cells.length) ∧ dn14.rd 1 = pad [116, 104] := by decide +kernel
theorem e15 : (dn14.write 1 [102, 105, 118, 101]).2 = 0 := by decide +kernel
theorem e16 : dn16.sync.2 = 141 := by decide +kernel
theorem e18 : dn18.down = false ∧ ((0 : Int) ≤ 1 ∧ (1 : Int) < dn18.cells.length) ∧ dn18.rd 1 = pad [102, 105, 118, 101] := by decide +kernel
theorem e20 : dn20.down = false ∧ ((0 : Int) ≤ 1 ∧ (1 : Int) < dn20.cells.length) ∧ dn20.rd 1 = pad [102, 105, 118, 101] := by decide +kernel
theorem e20a : dn20.waits.length = 0 := by decide +kernel
theorem e3a : dn3.down = false := by decide +kernel
theorem e3b : ¬ ((0 : Int) ≤ 2 ∧ (2 : Int) < dn3.cells.length) := by decide +kernel
section
variable {w w0 : World} {S0 S : Nat → Prop} {K : Value → World → Prop} {L : List Res}
set_option maxRecDepth 100000 in
set_option maxHeartbeats 1000000 in
theorem l7 (h : ∀ w', Fr w0 (fun _ => False) w' → K (.bool true) w') : CK Try.prog 7 [] w0 K := by
  have hfin : ∀ {w' : World} {L : List Res}, St w0 (fun _ => False) w' L → K (.bool true) w' := fun hS => h _ hS.fr
  have nilb : ∀ {w : World}, Rd (.slice none 0 0) 5 1 0 (bys []) w := fun {w} => .inl ⟨⟨none, rfl⟩, rfl, rfl⟩
  have nov : ∀ {S : Nat → Prop} x, vb (.slice none 0 0) x → ¬ S x := fun x hx => by cases hx
  refine call_k Try.func7 k7 Try.ntmps7 (Nat.le_of_ble_eq_true rfl) ?_
  (repeat (first | refine g_sq ?_ | refine g_rg ?_ | refine g_r0 ?_ | refine g_ok rfl rfl ?_ | refine g_no rfl ?_ | refine g_no0 rfl ?_ | refine g_bk ?_ | refine g_b ?_ | refine g_sk ?_ | refine g_cT rfl ?_ | refine g_cF rfl ?_ | refine g_x rfl ?_ | refine g_lb ?_))
  refine g_cl rfl rfl (c18 (St.nil w0 (fun _ => False)) (fun hn => absurd ⟨by decide, by decide⟩ hn) (fun _ w S b hS => ?_))
  have hS : St w0 (fun _ => False) w [DevR S b dn0] := hS
  (repeat (first | refine g_sq ?_ | refine g_rg ?_ | refine g_r0 ?_ | refine g_ok rfl rfl ?_ | refine g_no rfl ?_ | refine g_no0 rfl ?_ | refine g_bk ?_ | refine g_b ?_ | refine g_sk ?_ | refine g_cT rfl ?_ | refine g_cF rfl ?_ | refine g_x rfl ?_ | refine g_lb ?_))
  refine g_atx (ι := Unit) 1 (fun _ => [(1, dp b), (3, .int .i64 140), (4, .int .i64 140), (5, .int .i64 140)]) (fun _ w => ∃ S, St w0 (fun _ => False) w [DevR S b dn3]) rfl ?_ ?_
  · refine g_dr mixed ?_
    have hS := hS.drew
    (repeat (first | refine d_ok rfl rfl rfl ?_ | refine d_no rfl rfl ?_))
    refine d_a2 ?_ (d_a1 ?_)
    · refine d_cl rfl rfl rfl (c23 (bs := []) hS nilb nov (by decide) fun w S1 hS => ⟨rc_0, ?_⟩)
      rw [e0]
      refine d_a2 ?_ (d_a1 ?_)
      · refine d_cl rfl rfl rfl (c23 (bs := []) (D := dn1) hS nilb nov (by decide +kernel) fun w S2 hS => ⟨rc_0, ?_⟩)
        rw [e1]
        refine d_e rfl rfl ?_
        refine ef_ms hS rfl rfl (by decide) (by decide) (by decide) (by decide) fun g w hS => ⟨rc_0, ?_⟩
        refine d_cl rfl rfl rfl (c23 (bs := List.replicate 129 0) (D := dn2) (E := 5) (n := 129) hS (.inr ⟨g, 0, 129, _, rfl, Nat.le_refl _, Nat.le_refl _, rfl, (hS.b 1 rfl).r⟩) (fun x hx hs => hS.dis 0 1 _ _ rfl rfl (by decide) x hs (vb_vo hx)) (by decide +kernel) fun w S3 hS => ⟨rc_0, ?_⟩)
        rw [e2]
        (repeat (first | refine d_ok rfl rfl rfl ?_ | refine d_no rfl rfl ?_))
        refine d_fin ?_
        exact g_jx () ⟨rfl, rfl, rfl, rfl, trivial⟩ ⟨S3, hS.sel [0] rfl rfl⟩
      · refine d_e rfl rfl ?_
        refine ef_ms hS rfl rfl (by decide) (by decide) (by decide) (by decide) fun g w hS => ⟨rc_0, ?_⟩
        refine d_cl rfl rfl rfl (c23 (bs := []) (D := dn1) hS nilb nov (by decide +kernel) fun w S2 hS => ⟨rc_0, ?_⟩)
        rw [e1]
        refine d_cl rfl rfl rfl (c23 (bs := List.replicate 129 0) (D := dn2) (E := 5) (n := 129) hS (.inr ⟨g, 0, 129, _, rfl, Nat.le_refl _, Nat.le_refl _, rfl, (hS.b 1 rfl).r⟩) (fun x hx hs => hS.dis 0 1 _ _ rfl rfl (by decide) x hs (vb_vo hx)) (by decide +kernel) fun w S3 hS => ⟨rc_0, ?_⟩)
        rw [e2]
        (repeat (first | refine d_ok rfl rfl rfl ?_ | refine d_no rfl rfl ?_))
        refine d_fin ?_
        exact g_jx () ⟨rfl, rfl, rfl, rfl, trivial⟩ ⟨S3, hS.sel [0] rfl rfl⟩
    · refine d_e rfl rfl ?_
      refine ef_ms hS rfl rfl (by decide) (by decide) (by decide) (by decide) fun g w hS => ⟨rc_0, ?_⟩
      refine d_cl rfl rfl rfl (c23 (bs := []) hS nilb nov (by decide) fun w S1 hS => ⟨rc_0, ?_⟩)
      rw [e0]
      refine d_cl rfl rfl rfl (c23 (bs := []) (D := dn1) hS nilb nov (by decide +kernel) fun w S2 hS => ⟨rc_0, ?_⟩)
      rw [e1]
      refine d_cl rfl rfl rfl (c23 (bs := List.replicate 129 0) (D := dn2) (E := 5) (n := 129) hS (.inr ⟨g, 0, 129, _, rfl, Nat.le_refl _, Nat.le_refl _, rfl, (hS.b 1 rfl).r⟩) (fun x hx hs => hS.dis 0 1 _ _ rfl rfl (by decide) x hs (vb_vo hx)) (by decide +kernel) fun w S3 hS => ⟨rc_0, ?_⟩)
      rw [e2]
      (repeat (first | refine d_ok rfl rfl rfl ?_ | refine d_no rfl rfl ?_))
      refine d_fin ?_
      exact g_jx () ⟨rfl, rfl, rfl, rfl, trivial⟩ ⟨S3, hS.sel [0] rfl rfl⟩
  clear hS
  rintro _ T w hT ⟨S, hS⟩
  refine g_wkc hT ?_
  (repeat (first | refine g_sq ?_ | refine g_rg ?_ | refine g_r0 ?_ | refine g_ok rfl rfl ?_ | refine g_no rfl ?_ | refine g_no0 rfl ?_ | refine g_bk ?_ | refine g_b ?_ | refine g_sk ?_ | refine g_cT rfl ?_ | refine g_cF rfl ?_ | refine g_x rfl ?_ | refine g_lb ?_))
  refine g_cl rfl rfl (c33 hS (fun hd => absurd (e3a.symm.trans hd) (by decide)) (fun hd hi => ?_) (fun hd hi => absurd hi e3b))
  (repeat (first | refine g_sq ?_ | refine g_rg ?_ | refine g_r0 ?_ | refine g_ok rfl rfl ?_ | refine g_no rfl ?_ | refine g_no0 rfl ?_ | refine g_bk ?_ | refine g_b ?_ | refine g_sk ?_ | refine g_cT rfl ?_ | refine g_cF rfl ?_ | refine g_x rfl ?_ | refine g_lb ?_))
  refine g_ef rfl (ef_bl (rs := [.int .u8 111, .int .u8 110, .int .u8 101]) hS rfl fun g w hS => ?_)
  refine g_ef rfl (ef_mb hS 1 rfl rfl fun w hS => ?_)
  refine g_cl rfl rfl (c23 (D := dn3) (bs := [111, 110, 101]) (E := 5) (n := 3) hS (.inr ⟨g, 0, 3, _, rfl, Nat.le_refl _, Nat.le_refl _, rfl, (hS.b 1 rfl).r⟩) (fun x hx hs => hS.dis 0 1 _ _ rfl rfl (by decide) x hs (vb_vo hx)) (by decide +kernel) fun w S4 hS => ?_)
  rw [e3]
  have hS : St w0 (fun _ => False) w [DevR S4 b dn4] := hS.sel [0] rfl rfl
  (repeat (first | refine g_sq ?_ | refine g_rg ?_ | refine g_r0 ?_ | refine g_ok rfl rfl ?_ | refine g_no rfl ?_ | refine g_no0 rfl ?_ | refine g_bk ?_ | refine g_b ?_ | refine g_sk ?_ | refine g_cT rfl ?_ | refine g_cF rfl ?_ | refine g_x rfl ?_ | refine g_lb ?_))
  refine g_cl rfl rfl (c24 hS fun w S5 hS => ?_)
  rw [e4]
  have hS : St w0 (fun _ => False) w [DevR S5 b dn5] := hS
  (repeat (first | refine g_sq ?_ | refine g_rg ?_ | refine g_r0 ?_ | refine g_ok rfl rfl ?_ | refine g_no rfl ?_ | refine g_no0 rfl ?_ | refine g_bk ?_ | refine g_b ?_ | refine g_sk ?_ | refine g_cT rfl ?_ | refine g_cF rfl ?_ | refine g_x rfl ?_ | refine g_lb ?_))
  refine g_cl rfl rfl (c32 (f := ⟨3, 1, 2⟩) hS fun w S6 hS => ?_)
  rw [e5]
  have hS : St w0 (fun _ => False) w [DevR S6 b dn6] := hS
  (repeat (first | refine g_sq ?_ | refine g_rg ?_ | refine g_r0 ?_ | refine g_ok rfl rfl ?_ | refine g_no rfl ?_ | refine g_no0 rfl ?_ | refine g_bk ?_ | refine g_b ?_ | refine g_sk ?_ | refine g_cT rfl ?_ | refine g_cF rfl ?_ | refine g_x rfl ?_ | refine g_lb ?_))
  refine g_ef rfl (ef_bl (rs := [.int .u8 116, .int .u8 119, .int .u8 111]) hS rfl fun g w hS => ?_)
  refine g_ef rfl (ef_mb hS 1 rfl rfl fun w hS => ?_)
  refine g_cl rfl rfl (c23 (D := dn6) (bs := [116, 119, 111]) (E := 5) (n := 3) hS (.inr ⟨g, 0, 3, _, rfl, Nat.le_refl _, Nat.le_refl _, rfl, (hS.b 1 rfl).r⟩) (fun x hx hs => hS.dis 0 1 _ _ rfl rfl (by decide) x hs (vb_vo hx)) (by decide +kernel) fun w S7 hS => ?_)
  rw [e6]
  have hS : St w0 (fun _ => False) w [DevR S7 b dn7] := hS.sel [0] rfl rfl
  (repeat (first | refine g_sq ?_ | refine g_rg ?_ | refine g_r0 ?_ | refine g_ok rfl rfl ?_ | refine g_no rfl ?_ | refine g_no0 rfl ?_ | refine g_bk ?_ | refine g_b ?_ | refine g_sk ?_ | refine g_cT rfl ?_ | refine g_cF rfl ?_ | refine g_x rfl ?_ | refine g_lb ?_))
  refine g_ef rfl (ef_bl (rs := [.int .u8 116, .int .u8 104, .int .u8 114, .int .u8 101, .int .u8 101]) hS rfl fun g w hS => ?_)
  refine g_ef rfl (ef_mb hS 1 rfl rfl fun w hS => ?_)
  refine g_cl rfl rfl (c23 (D := dn7) (bs := [116, 104, 114, 101, 101]) (E := 5) (n := 5) hS (.inr ⟨g, 0, 5, _, rfl, Nat.le_refl _, Nat.le_refl _, rfl, (hS.b 1 rfl).r⟩) (fun x hx hs => hS.dis 0 1 _ _ rfl rfl (by decide) x hs (vb_vo hx)) (by decide +kernel) fun w S8 hS => ?_)
  rw [e7]
  have hS : St w0 (fun _ => False) w [DevR S8 b dn8] := hS.sel [0] rfl rfl
  (repeat (first | refine g_sq ?_ | refine g_rg ?_ | refine g_r0 ?_ | refine g_ok rfl rfl ?_ | refine g_no rfl ?_ | refine g_no0 rfl ?_ | refine g_bk ?_ | refine g_b ?_ | refine g_sk ?_ | refine g_cT rfl ?_ | refine g_cF rfl ?_ | refine g_x rfl ?_ | refine g_lb ?_))
  refine g_cl rfl rfl (d31 hS ?_)
  rw [e8a]
  (repeat (first | refine g_sq ?_ | refine g_rg ?_ | refine g_r0 ?_ | refine g_ok rfl rfl ?_ | refine g_no rfl ?_ | refine g_no0 rfl ?_ | refine g_bk ?_ | refine g_b ?_ | refine g_sk ?_ | refine g_cT rfl ?_ | refine g_cF rfl ?_ | refine g_x rfl ?_ | refine g_lb ?_))
  refine g_cl rfl rfl (d34 hS ?_)
  rw [e8b]
  (repeat (first | refine g_sq ?_ | refine g_rg ?_ | refine g_r0 ?_ | refine g_ok rfl rfl ?_ | refine g_no rfl ?_ | refine g_no0 rfl ?_ | refine g_bk ?_ | refine g_b ?_ | refine g_sk ?_ | refine g_cT rfl ?_ | refine g_cF rfl ?_ | refine g_x rfl ?_ | refine g_lb ?_))
  refine g_cl rfl rfl (d28 hS ?_)
  rw [e8c]
  (repeat (first | refine g_sq ?_ | refine g_rg ?_ | refine g_r0 ?_ | refine g_ok rfl rfl ?_ | refine g_no rfl ?_ | refine g_no0 rfl ?_ | refine g_bk ?_ | refine g_b ?_ | refine g_sk ?_ | refine g_cT rfl ?_ | refine g_cF rfl ?_ | refine g_x rfl ?_ | refine g_lb ?_))
  refine g_ef rfl (ef_bl (rs := [.int .u8 102, .int .u8 111, .int .u8 117, .int .u8 114]) hS rfl fun g w hS => ?_)
  refine g_ef rfl (ef_mb hS 1 rfl rfl fun w hS => ?_)
  refine g_cl rfl rfl (c23 (D := dn8) (bs := [102, 111, 117, 114]) (E := 5) (n := 4) hS (.inr ⟨g, 0, 4, _, rfl, Nat.le_refl _, Nat.le_refl _, rfl, (hS.b 1 rfl).r⟩) (fun x hx hs => hS.dis 0 1 _ _ rfl rfl (by decide) x hs (vb_vo hx)) (by decide +kernel) fun w S9 hS => ?_)
  rw [e8]
  have hS : St w0 (fun _ => False) w [DevR S9 b dn9] := hS.sel [0] rfl rfl
  (repeat (first | refine g_sq ?_ | refine g_rg ?_ | refine g_r0 ?_ | refine g_ok rfl rfl ?_ | refine g_no rfl ?_ | refine g_no0 rfl ?_ | refine g_bk ?_ | refine g_b ?_ | refine g_sk ?_ | refine g_cT rfl ?_ | refine g_cF rfl ?_ | refine g_x rfl ?_ | refine g_lb ?_))
  refine g_cl rfl rfl (d28 hS ?_)
  rw [e9c]
  (repeat (first | refine g_sq ?_ | refine g_rg ?_ | refine g_r0 ?_ | refine g_ok rfl rfl ?_ | refine g_no rfl ?_ | refine g_no0 rfl ?_ | refine g_bk ?_ | refine g_b ?_ | refine g_sk ?_ | refine g_cT rfl ?_ | refine g_cF rfl ?_ | refine g_x rfl ?_ | refine g_lb ?_))
  refine g_cl rfl rfl (d31 hS ?_)
  rw [e9a]
  (repeat (first | refine g_sq ?_ | refine g_rg ?_ | refine g_r0 ?_ | refine g_ok rfl rfl ?_ | refine g_no rfl ?_ | refine g_no0 rfl ?_ | refine g_bk ?_ | refine g_b ?_ | refine g_sk ?_ | refine g_cT rfl ?_ | refine g_cF rfl ?_ | refine g_x rfl ?_ | refine g_lb ?_))
  refine g_cl rfl rfl (d34 hS ?_)
  rw [e9b]
  (repeat (first | refine g_sq ?_ | refine g_rg ?_ | refine g_r0 ?_ | refine g_ok rfl rfl ?_ | refine g_no rfl ?_ | refine g_no0 rfl ?_ | refine g_bk ?_ | refine g_b ?_ | refine g_sk ?_ | refine g_cT rfl ?_ | refine g_cF rfl ?_ | refine g_x rfl ?_ | refine g_lb ?_))
  refine g_cl rfl rfl (c23 (D := dn9) (bs := []) hS nilb nov (by decide +kernel) fun w S10 hS => ?_)
  rw [e9]
  have hS : St w0 (fun _ => False) w [DevR S10 b dn10] := hS
  (repeat (first | refine g_sq ?_ | refine g_rg ?_ | refine g_r0 ?_ | refine g_ok rfl rfl ?_ | refine g_no rfl ?_ | refine g_no0 rfl ?_ | refine g_bk ?_ | refine g_b ?_ | refine g_sk ?_ | refine g_cT rfl ?_ | refine g_cF rfl ?_ | refine g_x rfl ?_ | refine g_lb ?_))
  refine g_cl rfl rfl (c24 hS fun w S11 hS => ?_)
  rw [e10]
  have hS : St w0 (fun _ => False) w [DevR S11 b dn11] := hS
  (repeat (first | refine g_sq ?_ | refine g_rg ?_ | refine g_r0 ?_ | refine g_ok rfl rfl ?_ | refine g_no rfl ?_ | refine g_no0 rfl ?_ | refine g_bk ?_ | refine g_b ?_ | refine g_sk ?_ | refine g_cT rfl ?_ | refine g_cF rfl ?_ | refine g_x rfl ?_ | refine g_lb ?_))
  refine g_cl rfl rfl (c32 (f := ⟨0, 0, 0⟩) hS fun w S12 hS => ?_)
  rw [e11]
  have hS : St w0 (fun _ => False) w [DevR S12 b dn12] := hS
  (repeat (first | refine g_sq ?_ | refine g_rg ?_ | refine g_r0 ?_ | refine g_ok rfl rfl ?_ | refine g_no rfl ?_ | refine g_no0 rfl ?_ | refine g_bk ?_ | refine g_b ?_ | refine g_sk ?_ | refine g_cT rfl ?_ | refine g_cF rfl ?_ | refine g_x rfl ?_ | refine g_lb ?_))
  refine g_cl rfl rfl (c27 (f := ⟨0, 0, 0⟩) hS fun w S13 hS => ?_)
  rw [e12]
  have hS : St w0 (fun _ => False) w [DevR S13 b dn13] := hS
  (repeat (first | refine g_sq ?_ | refine g_rg ?_ | refine g_r0 ?_ | refine g_ok rfl rfl ?_ | refine g_no rfl ?_ | refine g_no0 rfl ?_ | refine g_bk ?_ | refine g_b ?_ | refine g_sk ?_ | refine g_cT rfl ?_ | refine g_cF rfl ?_ | refine g_x rfl ?_ | refine g_lb ?_))
  refine g_cl rfl rfl (c33 hS (fun hd => ?_) (fun hd hi => absurd (hd.symm.trans e13) (by decide)) (fun hd hi => absurd (hd.symm.trans e13) (by decide)))
  (repeat (first | refine g_sq ?_ | refine g_rg ?_ | refine g_r0 ?_ | refine g_ok rfl rfl ?_ | refine g_no rfl ?_ | refine g_no0 rfl ?_ | refine g_bk ?_ | refine g_b ?_ | refine g_sk ?_ | refine g_cT rfl ?_ | refine g_cF rfl ?_ | refine g_x rfl ?_ | refine g_lb ?_))
  refine g_cl rfl rfl (c29 hS fun w S14 hS => ?_)
  have hS : St w0 (fun _ => False) w [DevR S14 b dn14] := hS
  (repeat (first | refine g_sq ?_ | refine g_rg ?_ | refine g_r0 ?_ | refine g_ok rfl rfl ?_ | refine g_no rfl ?_ | refine g_no0 rfl ?_ | refine g_bk ?_ | refine g_b ?_ | refine g_sk ?_ | refine g_cT rfl ?_ | refine g_cF rfl ?_ | refine g_x rfl ?_ | refine g_lb ?_))
  refine g_cl rfl rfl (c35 (s := [116, 119, 111]) hS (by decide) fun w S15 hS => ?_)
  rw [decide_eq_true e14]
  (repeat (first | refine g_sq ?_ | refine g_rg ?_ | refine g_r0 ?_ | refine g_ok rfl rfl ?_ | refine g_no rfl ?_ | refine g_no0 rfl ?_ | refine g_bk ?_ | refine g_b ?_ | refine g_sk ?_ | refine g_cT rfl ?_ | refine g_cF rfl ?_ | refine g_x rfl ?_ | refine g_lb ?_))
  refine g_cl rfl rfl (c35 (s := [116, 104]) hS (by decide) fun w S16 hS => ?_)
  rw [decide_eq_true e14a]
  (repeat (first | refine g_sq ?_ | refine g_rg ?_ | refine g_r0 ?_ | refine g_ok rfl rfl ?_ | refine g_no rfl ?_ | refine g_no0 rfl ?_ | refine g_bk ?_ | refine g_b ?_ | refine g_sk ?_ | refine g_cT rfl ?_ | refine g_cF rfl ?_ | refine g_x rfl ?_ | refine g_lb ?_))
  refine g_ef rfl (ef_bl (rs := [.int .u8 102, .int .u8 105, .int .u8 118, .int .u8 101]) hS rfl fun g w hS => ?_)
  refine g_ef rfl (ef_mb hS 1 rfl rfl fun w hS => ?_)
  refine g_cl rfl rfl (c23 (D := dn14) (bs := [102, 105, 118, 101]) (E := 5) (n := 4) hS (.inr ⟨g, 0, 4, _, rfl, Nat.le_refl _, Nat.le_refl _, rfl, (hS.b 1 rfl).r⟩) (fun x hx hs => hS.dis 0 1 _ _ rfl rfl (by decide) x hs (vb_vo hx)) (by decide +kernel) fun w S17 hS => ?_)
  have hS : St w0 (fun _ => False) w [DevR S17 b dn15] := hS.sel [0] rfl rfl
  (repeat (first | refine g_sq ?_ | refine g_rg ?_ | refine g_r0 ?_ | refine g_ok rfl rfl ?_ | refine g_no rfl ?_ | refine g_no0 rfl ?_ | refine g_bk ?_ | refine g_b ?_ | refine g_sk ?_ | refine g_cT rfl ?_ | refine g_cF rfl ?_ | refine g_x rfl ?_ | refine g_lb ?_))
  refine g_cl rfl rfl (c32 (f := ⟨1, 9, 0⟩) hS fun w S18 hS => ?_)
  have hS : St w0 (fun _ => False) w [DevR S18 b dn16] := hS
  (repeat (first | refine g_sq ?_ | refine g_rg ?_ | refine g_r0 ?_ | refine g_ok rfl rfl ?_ | refine g_no rfl ?_ | refine g_no0 rfl ?_ | refine g_bk ?_ | refine g_b ?_ | refine g_sk ?_ | refine g_cT rfl ?_ | refine g_cF rfl ?_ | refine g_x rfl ?_ | refine g_lb ?_))
  refine g_cl rfl rfl (c24 hS fun w S19 hS => ?_)
  rw [e16]
  have hS : St w0 (fun _ => False) w [DevR S19 b dn17] := hS
  (repeat (first | refine g_sq ?_ | refine g_rg ?_ | refine g_r0 ?_ | refine g_ok rfl rfl ?_ | refine g_no rfl ?_ | refine g_no0 rfl ?_ | refine g_bk ?_ | refine g_b ?_ | refine g_sk ?_ | refine g_cT rfl ?_ | refine g_cF rfl ?_ | refine g_x rfl ?_ | refine g_lb ?_))
  refine g_cl rfl rfl (c29 hS fun w S20 hS => ?_)
  have hS : St w0 (fun _ => False) w [DevR S20 b dn18] := hS
  (repeat (first | refine g_sq ?_ | refine g_rg ?_ | refine g_r0 ?_ | refine g_ok rfl rfl ?_ | refine g_no rfl ?_ | refine g_no0 rfl ?_ | refine g_bk ?_ | refine g_b ?_ | refine g_sk ?_ | refine g_cT rfl ?_ | refine g_cF rfl ?_ | refine g_x rfl ?_ | refine g_lb ?_))
  refine g_cl rfl rfl (c35 (s := [102, 105, 118, 101]) hS (by decide) fun w S21 hS => ?_)
  rw [decide_eq_true e18]
  (repeat (first | refine g_sq ?_ | refine g_rg ?_ | refine g_r0 ?_ | refine g_ok rfl rfl ?_ | refine g_no rfl ?_ | refine g_no0 rfl ?_ | refine g_bk ?_ | refine g_b ?_ | refine g_sk ?_ | refine g_cT rfl ?_ | refine g_cF rfl ?_ | refine g_x rfl ?_ | refine g_lb ?_))
  refine g_ef rfl (ef_bl (rs := [.int .u8 115, .int .u8 105, .int .u8 120]) hS rfl fun g w hS => ?_)
  refine g_ef rfl (ef_mb hS 1 rfl rfl fun w hS => ?_)
  refine g_cl rfl rfl (c23 (D := dn18) (bs := [115, 105, 120]) (E := 5) (n := 3) hS (.inr ⟨g, 0, 3, _, rfl, Nat.le_refl _, Nat.le_refl _, rfl, (hS.b 1 rfl).r⟩) (fun x hx hs => hS.dis 0 1 _ _ rfl rfl (by decide) x hs (vb_vo hx)) (by decide +kernel) fun w S22 hS => ?_)
  have hS : St w0 (fun _ => False) w [DevR S22 b dn19] := hS.sel [0] rfl rfl
  (repeat (first | refine g_sq ?_ | refine g_rg ?_ | refine g_r0 ?_ | refine g_ok rfl rfl ?_ | refine g_no rfl ?_ | refine g_no0 rfl ?_ | refine g_bk ?_ | refine g_b ?_ | refine g_sk ?_ | refine g_cT rfl ?_ | refine g_cF rfl ?_ | refine g_x rfl ?_ | refine g_lb ?_))
  refine g_cl rfl rfl (c29 hS fun w S23 hS => ?_)
  have hS : St w0 (fun _ => False) w [DevR S23 b dn20] := hS
  (repeat (first | refine g_sq ?_ | refine g_rg ?_ | refine g_r0 ?_ | refine g_ok rfl rfl ?_ | refine g_no rfl ?_ | refine g_no0 rfl ?_ | refine g_bk ?_ | refine g_b ?_ | refine g_sk ?_ | refine g_cT rfl ?_ | refine g_cF rfl ?_ | refine g_x rfl ?_ | refine g_lb ?_))
  refine g_cl rfl rfl (c35 (s := [102, 105, 118, 101]) hS (by decide) fun w S24 hS => ?_)
  rw [decide_eq_true e20]
  (repeat (first | refine g_sq ?_ | refine g_rg ?_ | refine g_r0 ?_ | refine g_ok rfl rfl ?_ | refine g_no rfl ?_ | refine g_no0 rfl ?_ | refine g_bk ?_ | refine g_b ?_ | refine g_sk ?_ | refine g_cT rfl ?_ | refine g_cF rfl ?_ | refine g_x rfl ?_ | refine g_lb ?_))
  refine g_cl rfl rfl (d31 hS ?_)
  rw [e20a]
  (repeat (first | refine g_sq ?_ | refine g_rg ?_ | refine g_r0 ?_ | refine g_ok rfl rfl ?_ | refine g_no rfl ?_ | refine g_no0 rfl ?_ | refine g_bk ?_ | refine g_b ?_ | refine g_sk ?_ | refine g_cT rfl ?_ | refine g_cF rfl ?_ | refine g_x rfl ?_ | refine g_lb ?_))
  refine g_cl rfl rfl (c18 hS (fun hn => ?_) (fun hn => absurd hn.1 (by decide)))
  (repeat (first | refine g_sq ?_ | refine g_rg ?_ | refine g_r0 ?_ | refine g_ok rfl rfl ?_ | refine g_no rfl ?_ | refine g_no0 rfl ?_ | refine g_bk ?_ | refine g_b ?_ | refine g_sk ?_ | refine g_cT rfl ?_ | refine g_cF rfl ?_ | refine g_x rfl ?_ | refine g_lb ?_))
  refine g_cl rfl rfl (c18 hS (fun hn => ?_) (fun hn => absurd hn.2 (by decide)))
  (repeat (first | refine g_sq ?_ | refine g_rg ?_ | refine g_r0 ?_ | refine g_ok rfl rfl ?_ | refine g_no rfl ?_ | refine g_no0 rfl ?_ | refine g_bk ?_ | refine g_b ?_ | refine g_sk ?_ | refine g_cT rfl ?_ | refine g_cF rfl ?_ | refine g_x rfl ?_ | refine g_lb ?_))
  refine g_ef rfl (ef_al hS fun z w hS => ?_)
  have hS : St w0 (fun _ => False) w [DevR S24 b dn20, cel z (DevC (.slice none 0 0) (.slice none 0 0) zdev) 65] := hS
  have hS : St w0 (fun _ => False) w [cel z (DevC (.slice none 0 0) (.slice none 0 0) zdev) 65] := hS.tail
  have hz : NoDev (dp z) [cel z (DevC (.slice none 0 0) (.slice none 0 0) zdev) 65] := .inr ⟨z, 0, rfl, rfl⟩
  have hp : NoDev (.pointer none) [cel z (DevC (.slice none 0 0) (.slice none 0 0) zdev) 65] := .inl rfl
  (repeat (first | refine g_sq ?_ | refine g_rg ?_ | refine g_r0 ?_ | refine g_ok rfl rfl ?_ | refine g_no rfl ?_ | refine g_no0 rfl ?_ | refine g_bk ?_ | refine g_b ?_ | refine g_sk ?_ | refine g_cT rfl ?_ | refine g_cF rfl ?_ | refine g_x rfl ?_ | refine g_lb ?_))
  refine g_cl rfl rfl (u33 hS hp ?_)
  (repeat (first | refine g_sq ?_ | refine g_rg ?_ | refine g_r0 ?_ | refine g_ok rfl rfl ?_ | refine g_no rfl ?_ | refine g_no0 rfl ?_ | refine g_bk ?_ | refine g_b ?_ | refine g_sk ?_ | refine g_cT rfl ?_ | refine g_cF rfl ?_ | refine g_x rfl ?_ | refine g_lb ?_))
  refine g_cl rfl rfl (c22 hS fun w hS => ?_)
  (repeat (first | refine g_sq ?_ | refine g_rg ?_ | refine g_r0 ?_ | refine g_ok rfl rfl ?_ | refine g_no rfl ?_ | refine g_no0 rfl ?_ | refine g_bk ?_ | refine g_b ?_ | refine g_sk ?_ | refine g_cT rfl ?_ | refine g_cF rfl ?_ | refine g_x rfl ?_ | refine g_lb ?_))
  refine g_cl rfl rfl (n23 ?_)
  (repeat (first | refine g_sq ?_ | refine g_rg ?_ | refine g_r0 ?_ | refine g_ok rfl rfl ?_ | refine g_no rfl ?_ | refine g_no0 rfl ?_ | refine g_bk ?_ | refine g_b ?_ | refine g_sk ?_ | refine g_cT rfl ?_ | refine g_cF rfl ?_ | refine g_x rfl ?_ | refine g_lb ?_))
  refine g_cl rfl rfl (u24 hS hz ?_)
  (repeat (first | refine g_sq ?_ | refine g_rg ?_ | refine g_r0 ?_ | refine g_ok rfl rfl ?_ | refine g_no rfl ?_ | refine g_no0 rfl ?_ | refine g_bk ?_ | refine g_b ?_ | refine g_sk ?_ | refine g_cT rfl ?_ | refine g_cF rfl ?_ | refine g_x rfl ?_ | refine g_lb ?_))
  refine g_cl rfl rfl (n29 ?_)
  (repeat (first | refine g_sq ?_ | refine g_rg ?_ | refine g_r0 ?_ | refine g_ok rfl rfl ?_ | refine g_no rfl ?_ | refine g_no0 rfl ?_ | refine g_bk ?_ | refine g_b ?_ | refine g_sk ?_ | refine g_cT rfl ?_ | refine g_cF rfl ?_ | refine g_x rfl ?_ | refine g_lb ?_))
  refine g_cl rfl rfl (u32 (f := ⟨0, 0, 0⟩) hS hz fun w hS => ?_)
  (repeat (first | refine g_sq ?_ | refine g_rg ?_ | refine g_r0 ?_ | refine g_ok rfl rfl ?_ | refine g_no rfl ?_ | refine g_no0 rfl ?_ | refine g_bk ?_ | refine g_b ?_ | refine g_sk ?_ | refine g_cT rfl ?_ | refine g_cF rfl ?_ | refine g_x rfl ?_ | refine g_lb ?_))
  refine g_cl rfl rfl (u27 (f := ⟨0, 0, 0⟩) hS hp fun w hS => ?_)
  (repeat (first | refine g_sq ?_ | refine g_rg ?_ | refine g_r0 ?_ | refine g_ok rfl rfl ?_ | refine g_no rfl ?_ | refine g_no0 rfl ?_ | refine g_bk ?_ | refine g_b ?_ | refine g_sk ?_ | refine g_cT rfl ?_ | refine g_cF rfl ?_ | refine g_x rfl ?_ | refine g_lb ?_))
  refine g_cl rfl rfl (u28 hS hz ?_)
  (repeat (first | refine g_sq ?_ | refine g_rg ?_ | refine g_r0 ?_ | refine g_ok rfl rfl ?_ | refine g_no rfl ?_ | refine g_no0 rfl ?_ | refine g_bk ?_ | refine g_b ?_ | refine g_sk ?_ | refine g_cT rfl ?_ | refine g_cF rfl ?_ | refine g_x rfl ?_ | refine g_lb ?_))
  refine g_cl rfl rfl (u36 hS hp ?_)
  refine g_cl rfl rfl (u31 hS hz ?_)
  refine g_rq rfl rfl (in64 (by decide)) ?_
  (repeat (first | refine g_sq ?_ | refine g_rg ?_ | refine g_r0 ?_ | refine g_ok rfl rfl ?_ | refine g_no rfl ?_ | refine g_no0 rfl ?_ | refine g_bk ?_ | refine g_b ?_ | refine g_sk ?_ | refine g_cT rfl ?_ | refine g_cF rfl ?_ | refine g_x rfl ?_ | refine g_lb ?_))
  refine g_cl rfl rfl (u34 hS hp ?_)
  refine g_rq rfl rfl (in64 (by decide)) ?_
  (repeat (first | refine g_sq ?_ | refine g_rg ?_ | refine g_r0 ?_ | refine g_ok rfl rfl ?_ | refine g_no rfl ?_ | refine g_no0 rfl ?_ | refine g_bk ?_ | refine g_b ?_ | refine g_sk ?_ | refine g_cT rfl ?_ | refine g_cF rfl ?_ | refine g_x rfl ?_ | refine g_lb ?_))
  refine g_cl rfl rfl (u37 hS hz ?_)
  (repeat (first | refine g_sq ?_ | refine g_rg ?_ | refine g_r0 ?_ | refine g_ok rfl rfl ?_ | refine g_no rfl ?_ | refine g_no0 rfl ?_ | refine g_bk ?_ | refine g_b ?_ | refine g_sk ?_ | refine g_cT rfl ?_ | refine g_cF rfl ?_ | refine g_x rfl ?_ | refine g_lb ?_))
  exact g_ret (q_1 rfl (hfin hS))
end
end Go.Proofs.Ytegjocpjmfaigaa
